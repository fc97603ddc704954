import Derived.Test.YtmflfedkfdkipaaGreatP12
set_option linter.all false
set_option maxRecDepth 20000
set_option maxHeartbeats 4000000
set_option synthInstance.maxSize 4000
set_option synthInstance.maxHeartbeats 200000
open List Go.IntKind
open Nat hiding beq_eq
namespace Go.Proofs
open Go Go.Rx Go.Vx Tryz
instance:nn prog tb:=⟨cf⟩
structure o5 where
 D9:Int
 Value:Int
def tK(x:o5):X U:=[.int .i64 x.D9,.int .i64 x.Value]
instance{a0:Int}{a:Int}:jF tK [.int .i64 a0,.int .i64 a] (o5.mk a0 a):=⟨rfl⟩
theorem qjz(n:Nat)(x:o5):aG n (tK x):=by simp only[tK,aG,aS,di,X1]
theorem qry(x:o5):(tK x).length=2:=rfl
instance:gH tK 2:=⟨qry⟩
instance:BF tK:=⟨qjz⟩
structure gN where
 Name:X RX
 Code:X Int
 E6:X Int
 E3:X o5
def jV(x:gN):X U:=[.str x.Name,.O false<|x.Code.map<|cI .u64,.O false<|x.E6.map<|cI .i64,.O false<|x.E3.map tK]
instance{a0:X RX}{a:X Int}{b:X Int}{a3:X o5}:jF jV [.str a0,.O false<|a.map<|cI .u64,.O false<|b.map<|cI .i64,.O false<|a3.map tK] (gN.mk a0 a b a3):=⟨rfl⟩
theorem Ul(n:Nat)(x:gN):aG n (jV x):=by simp only[jV,aG,aS,di,X1];exact⟨vA _ (fun q=>ut _ .u64 q) _,vA _ (fun q=>ut _ .i64 q) _,vA _ (fun q=>qjz _ q) _⟩
theorem Rq(x:gN):(jV x).length=4:=rfl
instance:gH jV 4:=⟨Rq⟩
instance:BF jV:=⟨Ul⟩
instance(n:Nat)(x:gN):i8 n (jV x):=⟨Ul n x⟩
structure jJ where
 Name:X RX
 Intro:Int
def mQ(x:jJ):X U:=[.str x.Name,.int .i64 x.Intro]
instance{a0:X RX}{a:Int}:jF mQ [.str a0,.int .i64 a] (jJ.mk a0 a):=⟨rfl⟩
theorem O'(n:Nat)(x:jJ):aG n (mQ x):=by simp only[mQ,aG,aS,di,X1]
theorem qpi(x:jJ):(mQ x).length=2:=rfl
instance:gH mQ 2:=⟨qpi⟩
instance:BF mQ:=⟨O'⟩
structure dK where
 Types:X gN
 E3:X jJ
def kO(x:dK):X U:=[.O false<|x.Types.map jV,.O false<|x.E3.map mQ]
theorem qlk(n:Nat)(x:dK):aG n (kO x):=by simp only[kO,aG,aS,di,X1];exact⟨vA _ (fun q=>Ul _ q) _,vA _ (fun q=>O' _ q) _⟩
theorem qm7(x:dK):(kO x).length=2:=rfl
instance:gH kO 2:=⟨qm7⟩
instance(n:Nat)(x:dK):i8 n (kO x):=⟨qlk n x⟩
structure rJ where
 D9:X RX
 Value:X RX
def lY(x:rJ):X U:=[.str x.D9,.str x.Value]
instance{a0:X RX}{a:X RX}:jF lY [.str a0,.str a] (rJ.mk a0 a):=⟨rfl⟩
theorem qgk(n:Nat)(x:rJ):aG n (lY x):=by simp only[lY,aG,aS,di,X1]
theorem qnb(x:rJ):(lY x).length=2:=rfl
instance:gH lY 2:=⟨qnb⟩
instance:BF lY:=⟨qgk⟩
structure bE where
 Name:X RX
 E6:X (X RX)
 E3:X rJ
def bO(x:bE):X U:=[.str x.Name,.O false<|x.E6.map cS,.O false<|x.E3.map lY]
theorem qgl(n:Nat)(x:bE):aG n (bO x):=by simp only[bO,aG,aS,di,X1];exact⟨vA _ (fun q=>z7u _ q) _,vA _ (fun q=>qgk _ q) _⟩
theorem qnc(x:bE):(bO x).length=3:=rfl
instance:gH bO 3:=⟨qnc⟩
instance:BF bO:=⟨qgl⟩
instance(n:Nat)(x:bE):i8 n (bO x):=⟨qgl n x⟩
structure dI where
 Name:X RX
 Code:X Int
instance:Inhabited dI:=⟨.mk default default⟩
def fC(x:dI):X U:=[.str x.Name,.O false<|x.Code.map<|cI .u64]
instance{a0:X RX}{a:X Int}:jF fC [.str a0,.O false<|a.map<|cI .u64] (dI.mk a0 a):=⟨rfl⟩
theorem qlj(n:Nat)(x:dI):aG n (fC x):=by simp only[fC,aG,aS,di,X1];exact vA _ (fun q=>ut _ .u64 q) _
theorem UO(x:dI):(fC x).length=2:=rfl
instance:gH fC 2:=⟨UO⟩
instance:BF fC:=⟨qlj⟩
instance(n:Nat)(x:dI):i8 n (fC x):=⟨qlj n x⟩
structure aL where
 D9:Int
 To:Int
def bB(x:aL):X U:=[.int .i64 x.D9,.int .i64 x.To]
instance{a0:Int}{a:Int}:jF bB [.int .i64 a0,.int .i64 a] (aL.mk a0 a):=⟨rfl⟩
theorem Ua(n:Nat)(x:aL):aG n (bB x):=by simp only[bB,aG,aS,di,X1]
theorem tL(x:aL):(bB x).length=2:=rfl
instance:gH bB 2:=⟨tL⟩
instance:BF bB:=⟨Ua⟩
instance(n:Nat)(x:aL):i8 n (bB x):=⟨Ua n x⟩
structure aU where
 R:Int
 E2:X aL
def bL(x:aU):X U:=[.int .i64 x.R,.O false<|x.E2.map bB]
instance{a0:Int}{a:X aL}:jF bL [.int .i64 a0,.O false<|a.map bB] (aU.mk a0 a):=⟨rfl⟩
instance{a0:Int}:jF bL [.int .i64 a0,.O false []] (aU.mk a0 []):=⟨rfl⟩
theorem y7(n:Nat)(x:aU):aG n (bL x):=by simp only[bL,aG,aS,di,X1];exact vA _ (fun q=>Ua _ q) _
theorem bm(x:aU):(bL x).length=2:=rfl
instance:gH bL 2:=⟨bm⟩
instance:BF bL:=⟨y7⟩
instance(n:Nat)(x:aU):i8 n (bL x):=⟨y7 n x⟩
structure cb where
 D6:X aU
def jQ(x:cb):X U:=[.O false<|x.D6.map bL]
theorem gc(n:Nat)(x:cb):aG n (jQ x):=by simp only[jQ,aG,aS,di,X1];exact vA _ (fun q=>y7 _ q) _
theorem z5x(x:cb):(jQ x).length=1:=rfl
instance:gH jQ 1:=⟨z5x⟩
instance:BF jQ:=⟨gc⟩
instance:uL tb 27 [.J,.J] [(0,1),(1,1)]:=⟨vM vQ.h FO.h rfl bD⟩
instance:uL tb 39 [.J] [(0,1)]:=⟨vM qM.h uC.h rfl bD⟩
instance:uL tb 79 [.int .i64 0,.J] [(0,1),(1,1)]:=⟨vM ET.h sD.h rfl bD⟩
instance:uL tb 105 [.int .i64 0,.int .i64 0] [(0,1),(1,1)]:=⟨vM pT.h gC.h rfl bD⟩
instance vk:uL tb 143 [.str [],.J] [(0,1),(1,1)]:=⟨vM T9.h sF.h rfl bD⟩
instance:uL tb 147 [.str [],.J,.J,.J] [(0,1),(1,1),(2,1),(3,1)]:=⟨vM IF.h KA.h rfl bD⟩
instance:uL tb 153 [.str [],.J,.J] [(0,1),(1,1),(2,1)]:=⟨vM xT.h yG.h rfl bD⟩
instance:uL tb 156 [.str [],.str []] [(0,1),(1,1)]:=⟨vM Qt.h VT.h rfl bD⟩
instance:uL tb 186 [.int .i64 0,.int .i64 0] [(0,1),(1,1)]:=⟨vM Qs.h Yp.h rfl bD⟩
instance:uL tb 197 [.str [],.int .i64 0] [(0,1),(1,1)]:=⟨vM Qr.h Yo.h rfl bD⟩
abbrev UG(a)(b:Nat):=([(1,.bv (cL<|cI .u64) a 141 1 b),(0,.row [] 141)]:X (Nat×B))
abbrev nD(a)(b:Nat):=([(0,.bv cS a 9 1 b)]:X (Nat×B))
abbrev Mj(a)(b:Nat)(c):=([(1,.bv (cI .i64) a 3 1 b),(0,.row [.iM bL c] 39)]:X (Nat×B))
abbrev F7(a)(b:Nat):=([(0,.bv (cI .i64) a 3 1 b)]:X (Nat×B))
abbrev Mi:=([(0,.row [.str [],.J,.J] 153)]:X (Nat×B))
abbrev Tj(a:U)(b)(c)(d:Nat):=([(2,.row [a,.iM (cI .u64) b] 143),(1,.bv fC c 143 2 d)]:X (Nat×B))
abbrev qvu:=([(1,.row [.str<|[70],.str<|[116,111,112],.str<|[71],.str<|[116,111,112]] 156),(0,.row [.J,.J] 27)]:X (Nat×B))
def ai: A (Int):=
 some 0
def Ci(a:X bE):Nat->Int->A (Int)
 |0,_=>none|c+1,z5=>cond (decide (z5<(a.length:Int))) (a8 (a8 (aC a z5) fun e=>cond (decide ((e.E6.length:Int)>256)) (some true)<|a8 (aC a z5) fun d=>some<|decide ((d.E3.length:Int)>256)) fun b=>cond b (some 7)<|(Ci a c)<|i64.wrap<|z5+1) (ai)
def Ur(n:Nat)(a:X bE):A (Int):=
 cond (decide ((a.length:Int)>256)) (some 7) (Ci a n 0)
theorem qqb(n:Nat)(b:X bE)(r:Int)(O:Ur n b=some r):dL prog 121 [.O false<|b.map bO] (.int .i64 r):=by unfold Ur at O;refine m6 29 XB ?_;refine gF O ?_ ?_<;>intro g O;exact gx O;refine go ?_;refine oX (Ci b) (fun z5=>[(0,.iM bO b),(3,.i6 z5)]) (fun _=>⟨[],0⟩) (qY ai [] ⟨[],0⟩) O (tX ?_) ?_;intro O;unfold ai at O;exact gx O;intro j z5 O;unfold Ci at O;refine gG O ?_ ?_<;>intro h O;obtain⟨c,a,O⟩:=aK O;refine gn ?_;refine kI [(0,.iM bO b),(3,.i6 z5),(28,.bool c)] ⟨[],0⟩ ?_ ?_;refine gF O ?_ ?_<;>intro i O;exact gx O;exact wx O;obtain⟨l,d,a⟩:=aK a;refine gI d ?_;obtain⟨e,a⟩|⟨e,a⟩:=gB a;exact gy a;obtain⟨k,f,a⟩:=aK a;obtain rfl:=sI a;refine gI f ?_;exact mL;exact wx O
def Bw(n:Nat)(a:Int):A (Rl):=
 a8 (cond (decide (a>=48)) (some<|decide (a<=57))<|some false) fun b=>some b
theorem qig(n:Nat)(b:Int)(r:Rl)(O:Bw n b=some r):dL prog 176 [.int .u8 b] (.bool r):=by unfold Bw at O;refine m6 9 LF ?_;obtain⟨c,a,O⟩:=aK O;refine gr ?_;refine kI [(2,.bool c)] ⟨[],0⟩ ?_ ?_;exact gx O;refine go ?_;obtain⟨d,a⟩|⟨d,a⟩:=gB a;exact gy a;exact gy a
def cr(n:Nat)(a:Int):A (Rl):=
 a8 (cond (decide (a>=65)) (some<|decide (a<=90))<|some false) fun b=>some b
theorem qq3(n:Nat)(b:Int)(r:Rl)(O:cr n b=some r):dL prog 178 [.int .u8 b] (.bool r):=by unfold cr at O;refine m6 9 WQ ?_;obtain⟨c,a,O⟩:=aK O;refine gr ?_;refine kI [(2,.bool c)] ⟨[],0⟩ ?_ ?_;exact gx O;refine go ?_;obtain⟨d,a⟩|⟨d,a⟩:=gB a;exact gy a;exact gy a
def Ux(n:Nat)(a:Int):A (Rl):=
 a8 (cond (decide (a>=97)) (some<|decide (a<=122))<|some false) fun b=>some b
theorem qih(n:Nat)(b:Int)(r:Rl)(O:Ux n b=some r):dL prog 179 [.int .u8 b] (.bool r):=by unfold Ux at O;refine m6 9 LD ?_;obtain⟨c,a,O⟩:=aK O;refine gr ?_;refine kI [(2,.bool c)] ⟨[],0⟩ ?_ ?_;exact gx O;refine go ?_;obtain⟨d,a⟩|⟨d,a⟩:=gB a;exact gy a;exact gy a
def Ug(n:Nat)(a:Int)(b:Rl):A (Rl):=
 a8 (a8 (Bw n a) fun e=>cond e (some true)<|cond (a==45) (some true)<|cond b (a8 (cr n a) fun f=>cond f (some true)<|cond (!b) (a8 (Ux n a) fun d=>some d)<|some false)<|cond (!b) (a8 (Ux n a) fun g=>some g)<|some false) fun c=>some c
theorem qsj(n:Nat)(b:Int)(c:Rl)(r:Rl)(O:Ug n b c=some r):dL prog 177 [.int .u8 b,.bool c] (.bool r):=by
 unfold Ug at O;refine eO 26 WR ?_;obtain⟨d,a,O⟩:=aK O;refine gr ?_;refine kI [(4,.bool d)] ⟨[],0⟩ ?_ ?_;exact gx O;obtain⟨p,f,a⟩:=aK a;refine go ?_;refine aM rfl (pC (qig n b p f) _) LF ?_;refine go ?_;obtain⟨g,a⟩|⟨g,a⟩:=gB a;obtain rfl:=sI a;refine go ?_
 repeat refine RS.no (MY rfl rfl rfl) rfl rfl ?_
 refine go ?_
 repeat refine RS.no (MY rfl rfl rfl) rfl rfl ?_
 refine go ?_;exact mL;refine go ?_;obtain⟨h,a⟩|⟨h,a⟩:=gB a;obtain rfl:=sI a;refine go ?_
 repeat refine RS.no (MY rfl rfl rfl) rfl rfl ?_
 refine go ?_
 repeat refine RS.no (MY rfl rfl rfl) rfl rfl ?_
 refine go ?_;exact mL;refine go ?_;obtain⟨i,a⟩|⟨i,a⟩:=gB a;obtain⟨q,j,a⟩:=aK a;refine go ?_;refine aM rfl (pC (qq3 n b q j) _) WQ ?_;refine go ?_;obtain⟨l,a⟩|⟨l,a⟩:=gB a;obtain rfl:=sI a;refine go ?_
 repeat refine RS.no (MY rfl rfl rfl) rfl rfl ?_
 refine go ?_;exact mL;refine go ?_;obtain⟨o,a⟩|⟨o,a⟩:=gB a;obtain⟨m,e,a⟩:=aK a;obtain rfl:=sI a;refine go ?_;refine aM rfl (pC (qih n b m e) _) LD ?_;refine go ?_;exact mL;exact gy a;refine go ?_;obtain⟨k,a⟩|⟨k,a⟩:=gB a;obtain⟨t,s,a⟩:=aK a;obtain rfl:=sI a;refine go ?_;refine aM rfl (pC (qih n b t s) _) LD ?_;refine go ?_;exact mL;exact gy a
def dj: A (Rl):=
 some true
def Cn(b:X RX)(c:Rl)(n:Nat):Nat->Int->A (Rl)
 |0,_=>none|e+1,a=>cond (decide (a<(b.length:Int))) (a8 (Ad b a) fun f=>a8 (Ug n f c) fun d=>cond (!d) (some false)<|(Cn b c n e)<|i64.wrap<|a+1) (dj)
def My(n:Nat)(a:X RX)(d:Rl):A (Rl):=
 a8 (cond (decide ((a.length:Int)<1)) (some true)<|cond (decide ((a.length:Int)>32)) (some true)<|a8 (Ad a 0) fun f=>a8 (Bw n f) fun e=>cond e (some true)<|a8 (Ad a 0) fun c=>some<|c==45) fun b=>cond b (some false) (Cn a d n n 0)
theorem qii(n:Nat)(b:X RX)(c:Rl)(r:Rl)(O:My n b c=some r):dL prog 173 [.str b,.bool c] (.bool r):=by unfold My at O;refine eO 36 LH ?_;obtain⟨i,a,O⟩:=aK O;refine gr ?_;refine kI [(0,.str b),(1,.bool c),(23,.bool i)] ⟨[],0⟩ ?_ ?_;refine gF O ?_ ?_<;>intro x O;exact gx O;refine go ?_;refine oX (Cn b c n) (fun d=>[(0,.str b),(1,.bool c),(5,.i6 d)]) (fun _=>⟨[],0⟩) (qY dj [] ⟨[],0⟩) O (tX ?_) ?_;intro O;unfold dj at O;exact gx O;intro z d O;unfold Cn at O;refine go ?_;refine aX (u:=.i6 (b.length:Int)) rfl (H3 rfl rfl rfl (by simp only[wP,MS.h])) ?_;refine gG O ?_ ?_<;>intro y O;obtain⟨e,s,g,v,O⟩:=c6 O;refine go ?_;refine aX (u:=.int .u8 e) rfl (V! MS.h rfl rfl s) ?_;refine go ?_;refine aM rfl (pC (qsj n e c g v) _) WR ?_;refine gF O ?_ ?_<;>intro A O;exact gx O;exact wx O;exact wx O;refine go ?_;refine aX (u:=.i6 (b.length:Int)) rfl (H3 rfl rfl rfl (by simp only[wP,MS.h])) ?_;refine go ?_;obtain⟨j,a⟩|⟨j,a⟩:=gB a;exact gy a;refine go ?_;refine RS.w (u:=.i6 (b.length:Int)) rfl (H3 rfl rfl rfl (by simp only[wP,MS.h])) ?_;refine go ?_;obtain⟨k,a⟩|⟨k,a⟩:=gB a;exact gy a;obtain⟨f,l,a⟩:=aK a;obtain⟨t,m,a⟩:=aK a;refine go ?_;refine RS.w (u:=.int .u8 f) rfl (V! MS.h rfl rfl l) (aM rfl (pC (qig n f t m) _) LF ?_);refine go ?_;obtain⟨o,a⟩|⟨o,a⟩:=gB a;exact gy a;obtain⟨q,p,a⟩:=aK a;obtain rfl:=sI a;refine go ?_;refine RS.w (u:=.int .u8 q) rfl (V! MS.h rfl rfl p) ?_;refine go ?_;exact mL
def Uh(n:Nat)(a:X RX):A (Rl):=
 a8 (My n a false) fun b=>some b
theorem qsi(n:Nat)(a:X RX)(r:Rl)(O:Uh n a=some r):dL prog 157 [.str a] (.bool r):=by unfold Uh at O;refine m6 5 WX ?_;obtain⟨c,b,O⟩:=aK O;refine go ?_;refine aM rfl (pC (qii n a false c b) _) LH ?_;exact gx O
def B': A (Int):=
 some (-1)
def Ca(b:X bE)(c:X RX):Nat->Int->A (Int)
 |0,_=>none|d+1,a=>cond (decide (a<(b.length:Int))) (a8 (aC b a) fun e=>cond (lX e.Name c) (some a)<|(Ca b c d)<|i64.wrap<|a+1) (B')
def JE(n:Nat)(a:X bE)(b:X RX):A (Int):=
 Ca a b n 0
theorem Nd(n:Nat)(b:X bE)(a:X RX)(r:Int)(O:JE n b a=some r):dL prog 158 [.O false<|b.map bO,.str a] (.int .i64 r):=by unfold JE at O;refine eO 20 sW ?_;refine go ?_;refine oX (Ca b a) (fun c=>[(0,.iM bO b),(1,.str a),(5,.i6 c)]) (fun _=>⟨[],0⟩) (qY B' [] ⟨[],0⟩) O (tX ?_) ?_;intro O;unfold B' at O;exact gx O;intro h c O;unfold Ca at O;refine gG O ?_ ?_<;>intro f O;obtain⟨e,d,O⟩:=aK O;refine gI d ?_;refine aX (u:=.bool<|lX e.Name a) rfl (GZ rfl rfl rfl rfl) ?_;refine gF O ?_ ?_<;>intro g O;exact gx O;exact wx O;exact wx O
def ak: A (Int):=
 some 0
def Cl(a:X bE)(n:Nat):Nat->Int->A (Int)
 |0,_=>none|d+1,z4=>cond (decide (z4<(a.length:Int))) (a8 (aC a z4) fun f=>a8 (Uh n f.Name) fun e=>cond (!e) (some 1)<|a8 (aC a z4) fun c=>a8 (JE n a c.Name) fun b=>cond (decide (b<z4)) (some 4)<|(Cl a n d)<|i64.wrap<|z4+1) (ak)
def cj(n:Nat)(a:X bE):A (Int):=
 Cl a n n 0
theorem qq9(n:Nat)(a:X bE)(r:Int)(O:cj n a=some r):dL prog 122 [.O false<|a.map bO] (.int .i64 r):=by unfold cj at O;refine m6 26 XA ?_;refine go ?_;refine oX (Cl a n) (fun z4=>[(0,.iM bO a),(3,.i6 z4)]) (fun _=>⟨[],0⟩) (qY ak [] ⟨[],0⟩) O (tX ?_) ?_;intro O;unfold ak at O;exact gx O;intro m z4 O;unfold Cl at O;refine gG O ?_ ?_<;>intro k O;obtain⟨i,d,h,e,O⟩:=c6 O;refine gI d ?_;refine aM rfl (pC (qsi n i.Name h e) _) WX ?_;refine gF O ?_ ?_<;>intro l O;exact gx O;obtain⟨g,b,c,f,O⟩:=c6 O;refine gI b ?_;refine aM rfl (pC (Nd n a g.Name c f) _) sW ?_;refine gF O ?_ ?_<;>intro j O;exact gx O;exact wx O;exact wx O
def da: A (Rl):=
 some false
def Nt(a:X (X RX))(c:X RX):Nat->Int->A (Rl)
 |0,_=>none|d+1,b=>cond (decide (b<(a.length:Int))) (a8 (aC a b) fun e=>cond (lX e c) (some true)<|(Nt a c d)<|i64.wrap<|b+1) (da)
def HB(n:Nat)(a:X (X RX))(b:X RX):A (Rl):=
 Nt a b n 0
theorem Q2(n:Nat)(b:X (X RX))(a:X RX)(r:Rl)(O:HB n b a=some r):dL prog 126 [.O false<|b.map cS,.str a] (.bool r):=by unfold HB at O;refine eO 18 nK ?_;refine go ?_;refine oX (Nt b a) (fun c=>[(0,.iM cS b),(1,.str a),(5,.i6 c)]) (fun _=>⟨[],0⟩) (qY da [] ⟨[],0⟩) O (tX ?_) ?_;intro O;unfold da at O;exact gx O;intro h c O;unfold Nt at O;refine gG O ?_ ?_<;>intro f O;obtain⟨e,d,O⟩:=aK O;refine gI d ?_;refine aX (u:=.bool<|lX e a) rfl (GZ rfl rfl rfl rfl) ?_;refine gF O ?_ ?_<;>intro g O;exact gx O;exact wx O;exact wx O
def dy(z4:Int)(a:Int->A (Int)): A (Int):=
 a (i64.wrap<|z4+1)
def Cr(d:X bE)(n:Nat)(z4:Int)(c:Int->A (Int))(b:bE):Nat->Int->A (Int)
 |0,_=>none|h+1,a=>
  cond (decide (a<(b.E6.length:Int))) (a8 (aC b.E6 a) fun j=>
   a8 (JE n d j) fun e=>cond (decide (e<0)) (some 5) (a8 (xX b.E6 0 a) fun g=>
    a8 (aC b.E6 a) fun f=>
    a8 (HB n g f) fun i=>cond i (some 4)<|(Cr d n z4 c b h)<|i64.wrap<|a+1)) (dy z4 c)
def dz: A (Int):=
 some 0
def NS(a:X bE)(n:Nat):Nat->Int->A (Int)
 |0,_=>none|b+1,z4=>cond (decide (z4<(a.length:Int))) (a8 (aC a z4) fun c=>Cr a n z4 (NS a n b) c n 0) (dz)
def eh(n:Nat)(a:X bE):A (Int):=
 NS a n n 0
theorem qng(n:Nat)(a:X bE)(r:Int)(O:eh n a=some r):dL prog 123 [.O false<|a.map bO] (.int .i64 r):=by unfold eh at O;refine m6 38 X9 ?_;refine go ?_;refine oX (NS a n) (fun z4=>[(0,.iM bO a),(3,.i6 z4)]) (fun _=>⟨[],0⟩) (qY dz [] ⟨[],0⟩) O (tX ?_) ?_;intro O;unfold dz at O;exact gx O;intro d z4 O;unfold NS at O;refine gG O ?_ ?_<;>intro y O;obtain⟨e,k,O⟩:=aK O;refine gI k ?_;refine oX (Cr a n z4 (NS a n d) e) (fun b=>[(0,.iM bO a),(3,.i6 z4),(4,.iM cS e.E6),(5,.i6 b)]) (fun _=>⟨[],0⟩) (qY (dy z4<|NS a n d) [(0,.iM bO a),(3,.i6 z4)] ⟨[],0⟩) O (tX ?_) ?_;intro O;unfold dy at O;exact wx O;intro z b O;unfold Cr at O;refine gG O ?_ ?_<;>intro x O;obtain⟨t,i,f,j,O⟩:=c6 O;refine gI i ?_;refine aM rfl (pC (Nd n a t f j) _) sW ?_;refine gF O ?_ ?_<;>intro w O;exact gx O;obtain⟨c,s,O⟩:=aK O;obtain⟨o,q⟩:=uq cS .i64 s;obtain⟨g,m,p,l,O⟩:=c6 O;refine go ?_;refine dE [] ?_;refine gd ?_;refine aQ (u:=.iM cS c) rfl (F6 rfl GT (GS rfl) (Rw cS kX.h (bG K9.h) PA o q)) ?_;refine gJ m ?_;refine eA rfl (pC<|Q2 n c g p l) nK ?_;refine bC ⟨by kernel_rfl,trivial,?_⟩;refine gF O ?_ ?_<;>intro v O;exact gx O;exact wx O;exact wx O;exact wx O
def aj: A (Rl):=
 some true
def Cj(a:bE)(c:X (X RX))(n:Nat):Nat->Int->A (Rl)
 |0,_=>none|e+1,b=>cond (decide (b<(a.E6.length:Int))) (a8 (aC a.E6 b) fun f=>a8 (HB n c f) fun d=>cond (!d) (some false)<|(Cj a c n e)<|i64.wrap<|b+1) (aj)
def ce(n:Nat)(a:bE)(b:X (X RX)):A (Rl):=
 Cj a b n n 0
theorem qqa(n:Nat)(a:bE)(b:X (X RX))(r:Rl)(O:ce n a b=some r):dL prog 159 [.agg<|bO a,.O false<|b.map cS] (.bool r):=by unfold ce at O;refine eO 21 WW ?_;refine go ?_;refine oX (Cj a b n) (fun c=>[(1,.iM cS b),(2,.ptr 0 0 0),(5,.i6 c)]) (fun _=>⟨[(0,.row (bO a) 153)],1⟩) (qY aj [] ⟨[(0,.row (bO a) 153)],1⟩) O (tX ?_) ?_;intro O;unfold aj at O;exact gx O;intro j c O;unfold Cj at O;refine gG O ?_ ?_<;>intro h O;obtain⟨g,f,e,d,O⟩:=c6 O;refine gI f ?_;refine aM rfl (pC (Q2 n b g e d) _) nK ?_;refine gF O ?_ ?_<;>intro i O;exact gx O;exact wx O;exact wx O
def Wh(c:Rl->(X<|X RX)->A ((X<|X RX)))(b:Rl)(a:X (X RX)):A ((X<|X RX)):=
 c b a
def Wg(a:Int)(c:Rl->(X RX)->Int->A ((X<|X RX)))(b:X RX):A ((X<|X RX)):=
 c true b (i64.wrap<|a+1)
def fa(a:X (X RX))(c:Rl->(X<|X RX)->A ((X<|X RX)))(b:Rl)(d:X RX):A ((X<|X RX)):=
 cond b (aE ((a.length+1)*16<=140737488355328/\a.length+1<=140737488355328) (
  Wh c b (a++[d]))) (Wh c b a)
def NT(b:X bE)(n:Nat)(c:X (X RX))(e:Rl->(X<|X RX)->A ((X<|X RX))):Nat->Rl->(X RX)->Int->A ((X<|X RX))
 |0,_,_,_=>none|g+1,f,d,a=>cond (decide (a<(b.length:Int))) (a8 (a8 (aC b a) fun i=>a8 (HB n c i.Name) fun j=>cond j (some true)<|a8 (aC b a) fun p=>a8 (ce n p c) fun o=>some<|!o) fun l=>cond l ((NT b n c e g) f d<|i64.wrap<|a+1)<|a8 (cond (!f) (some true)<|a8 (aC b a) fun m=>some<|lE m.Name d) fun k=>cond k (a8 (aC b a) fun h=>Wg a (NT b n c e g) h.Name)<|Wg a (NT b n c e g) d) (fa c e f d)
def fb  (a:X (X RX)):A ((X<|X RX)):=
 some a
def JG(b:X bE)(n:Nat):Nat->Rl->(X<|X RX)->A ((X<|X RX))
 |0,_,_=>none|d+1,c,a=>cond c (NT b n a (JG b n d) n false [] 0) (fb a)
def eo(n:Nat)(a:X bE):A ((X<|X RX)):=
 JG a n n true ([]:X (X RX))
theorem qnf(n:Nat)(b:X bE)(r:(X<|X RX))(O:eo n b=some r):dL prog 124 [.O false<|b.map bO] (.O false<|r.map cS):=by unfold eo at O;refine m6 52 X8 ?_;refine gr ?_;refine gr ?_;refine gr ?_;refine gV 3 9 1 1 ?_;refine nN (a3:=0) (fun m k a _=>JG b n m k a) (fun k a t8=>[(0,.iM bO b),(3,.vl 0 t8 0 a.length),(4,.bool k)]) (fun _ a t8=>⟨nD a t8,1⟩) (kW (fun e _=>fb e) (fun e i=>[(3,.vl 0 i 0 e.length)]) fun e i=>⟨nD e i,1⟩) O (mR ?_) ?_;intro e i O;unfold fb at O;refine go ?_;obtain rfl:=sI O;exact rT (us:=[.vl 0 i 0 e.length]) (u:=.iM cS e) (eL rfl (eB))<|fR 0 1;intro l k a t8 O;unfold JG at O;refine gG O ?_ ?_<;>intro N O;refine go ?_;refine nN (NT b n a<|JG b n l) (fun o h g=>[(0,.iM bO b),(3,.vl 0 t8 0 a.length),(4,.bool o),(5,.str h),(6,.i6 g)]) (fun _ _ _=>⟨nD a t8,1⟩) (kW (fa a<|JG b n l) (fun j q=>[(0,.iM bO b),(3,.vl 0 t8 0 a.length),(4,.bool j),(5,.str q)]) fun _ _=>⟨nD a t8,1⟩) O (mR ?_) ?_;intro j q O;unfold fa at O;refine gr ?_;refine M7 r (fun c _=>Wh (JG b n l) j c) (fun c t25=>[(0,.iM bO b),(3,.vl 0 t25 0 c.length),(4,.bool j)]) (fun c t25=>⟨nD c t25,1⟩) ?_ ?_;intro c t25 O;unfold Wh at O;exact wx O;refine cF O ?_ ?_<;>intro R O;obtain⟨P,O⟩:=bY O;refine go ?_;refine cE ?_;refine cE ?_;exact wx O;exact wx O;intro F o h g O;unfold NT at O;refine gG O ?_ ?_<;>intro M O;obtain⟨B,d,O⟩:=aK O;refine gn ?_;refine kI [(0,.iM bO b),(3,.vl 0 t8 0 a.length),(4,.bool o),(5,.str h),(6,.i6 g),(29,.bool B)] ⟨nD a t8,1⟩ ?_ ?_;refine gF O ?_ ?_<;>intro L O;exact wx O;obtain⟨A,f,O⟩:=aK O;refine gn ?_;refine kI [(0,.iM bO b),(3,.vl 0 t8 0 a.length),(5,.str h),(6,.i6 g),(40,.bool A)] ⟨nD a t8,1⟩ ?_ ?_;refine gn ?_;refine yd r (Wg g<|NT b n a (JG b n l) F) (fun s=>[(0,.iM bO b),(3,.vl 0 t8 0 a.length),(5,.str s),(6,.i6 g)]) (fun _=>⟨nD a t8,1⟩) ?_ ?_;intro s O;unfold Wg at O;exact wx O;refine cF O ?_ ?_<;>intro Q O;obtain⟨K,p,O⟩:=aK O;refine gI p ?_;exact Wx1 O;exact wx O;refine go ?_;obtain⟨C,f⟩|⟨C,f⟩:=gB f;exact gy f;obtain⟨D,x,f⟩:=aK f;obtain rfl:=sI f;refine gI x ?_;refine RS.w (u:=.bool<|lE D.Name h) rfl (GZ rfl rfl rfl rfl) ?_;refine go ?_;exact mL;obtain⟨t,J,d⟩:=aK d;obtain⟨z,v,d⟩:=aK d;refine gI J ?_;refine aM rfl (vw (Q2 n a t.Name z v)<|rD 0 1) nK ?_;refine go ?_;obtain⟨H,d⟩|⟨H,d⟩:=gB d;exact gy d;obtain⟨I,G,d⟩:=aK d;obtain⟨E,y,d⟩:=aK d;obtain rfl:=sI d;refine gI G ?_;refine aM rfl (vw (qqa n I a E y)<|rD 0 1) WW ?_;refine go ?_;exact mL;exact wx O;exact wx O
def Vu(b:Int)(a:Int->Int->A (Int))(z25:Int):A (Int):=
 a z25 (i64.wrap<|b+1)
def aq(a:X bE)(n:Nat)(c:Int):A (Int):=
 cond (c != 1) (some 1) (a8 (eo n a) fun b=>cond (decide ((b.length:Int)<(a.length:Int))) (some 6)<|some 0)
def Q6(a:X bE)(n:Nat):Nat->Int->Int->A (Int)
 |0,_,_=>none|d+1,c,b=>cond (decide (b<(a.length:Int))) (a8 (aC a b) fun e=>cond ((e.E6.length:Int)==0) (Vu b (Q6 a n d)<|i64.wrap<|c+1)<|Vu b (Q6 a n d) c) (aq a n c)
def Ut(n:Nat)(a:X bE):A (Int):=
 a8 (Ur n a) fun b=>cond (b != 0) (some b) (a8 (cj n a) fun c=>cond (c != 0) (some c)<|a8 (eh n a) fun d=>cond (d != 0) (some d)<|Q6 a n n 0 0)
theorem qq8(n:Nat)(a:X bE)(r:Int)(O:Ut n a=some r):dL prog 90 [.O false<|a.map bO] (.int .i64 r):=by unfold Ut at O;refine m6 46 xn ?_;obtain⟨k,e,O⟩:=aK O;refine go ?_;refine aM rfl (pC (qqb n a k e) _) XB ?_;refine gF O ?_ ?_<;>intro q O;exact gx O;obtain⟨l,f,O⟩:=aK O;refine go ?_;refine aM rfl (pC (qq9 n a l f) _) XA ?_;refine gF O ?_ ?_<;>intro s O;exact gx O;obtain⟨m,g,O⟩:=aK O;refine go ?_;refine aM rfl (pC (qng n a m g) _) X9 ?_;refine gF O ?_ ?_<;>intro t O;exact gx O;refine go ?_;refine BV (Q6 a n) (fun c b=>[(0,.iM bO a),(6,.i6 c),(7,.i6 b)]) (fun _ _=>⟨[],0⟩) (pR (aq a n) (fun d=>[(0,.iM bO a),(6,.i6 d)]) fun _=>⟨[],0⟩) O (tW ?_) ?_;intro d O;unfold aq at O;refine gF O ?_ ?_<;>intro p O;exact gx O;obtain⟨i,h,O⟩:=aK O;refine go ?_;refine aM rfl (pC (qnf n a i h) _) X8 ?_;refine gF O ?_ ?_<;>intro x O;exact gx O;exact gx O;intro j c b O;unfold Q6 at O;refine gG O ?_ ?_<;>intro w O;obtain⟨u,o,O⟩:=aK O;refine go ?_;refine dO o ?_;refine gn ?_;refine yd r (Vu b<|Q6 a n j) (fun z25=>[(0,.iM bO a),(6,.i6 z25),(7,.i6 b)]) (fun _=>⟨[],0⟩) ?_ ?_;intro z25 O;unfold Vu at O;exact wx O;refine cF O ?_ ?_<;>intro v O;exact wx O;exact wx O;exact wx O
def Vg(b:X (X RX))(c:X RX)(d:Int):A ((X<|X RX)):=
 a8 (cond (decide (d<(b.length:Int))) (a8 (aC b d) fun g=>some<|lX g c)<|some false) fun f=>cond f (some b) (a8 (xX b 0 d) fun a=>
  aE (a.length*16<=140737488355328/\a.length<=140737488355328) (
  aE ((a.length+1)*16<=140737488355328/\a.length+1<=140737488355328) (
  a8 (xX b d (b.length:Int)) fun e=>
  aE (((a++[c]).length+e.length)*16<=140737488355328/\(a++[c]).length+e.length<=140737488355328) (some<|(a++[c])++e))))
def Nf(a:X (X RX))(c:X RX):Nat->Int->A ((X<|X RX))
 |0,_=>none|f+1,b=>a8 (cond (decide (b<(a.length:Int))) (a8 (aC a b) fun d=>some<|lE d c)<|some false) fun e=>cond e ((Nf a c f)<|i64.wrap<|b+1) (Vg a c b)
def PU(n:Nat)(a:X (X RX))(b:X RX):A ((X<|X RX)):=
 Nf a b n 0
theorem Mv(n:Nat)(b:X (X RX))(a:X RX)(r:(X<|X RX))(O:PU n b a=some r):dL prog 116 [.O false<|b.map cS,.str a] (.O false<|r.map cS):=by unfold PU at O;refine eO 48 sX ?_;refine go ?_;refine oX (Nf b a) (fun g=>[(0,.iM cS b),(1,.str a),(5,.J),(6,.i6 g)]) (fun _=>⟨[],0⟩) (pR (Vg b a) (fun i=>[(0,.iM cS b),(1,.str a),(5,.J),(6,.i6 i)]) fun _=>⟨[],0⟩) O (tW ?_) ?_;intro i O;unfold Vg at O;obtain⟨j,c,O⟩:=aK O;refine gn ?_;refine kI [(0,.iM cS b),(1,.str a),(5,.J),(6,.i6 i),(32,.bool j)] ⟨[],0⟩ ?_ ?_;refine gF O ?_ ?_<;>intro C O;exact gx O;obtain⟨e,p,O⟩:=aK O;obtain⟨A,q⟩:=uq cS .i64 p;obtain⟨o,O⟩:=bY O;refine go ?_;refine aX (u:=.iM cS e) rfl (F6 rfl GT (GS rfl) (Rw cS kX.h (bG K9.h) PA A q)) (aX (u:=.vl 0 0 0 e.length) (Y':=⟨[(0,.bv cS e 9 1 0)],1⟩) rfl (rG rfl rfl rfl rfl (Yy cS e kX.h kX.h K9.h rfl (Lq cS PA) o)) ?_);obtain⟨D,O⟩:=bY O;refine go ?_;refine cE ?_;refine cE ?_;obtain⟨f,v,O⟩:=aK O;obtain⟨x,z⟩:=Ii cS .i64 v;obtain⟨F,O⟩:=bY O;refine go ?_;refine aX (u:=.iM cS f) rfl (F6 rfl (GS rfl) GT (Rw cS kX.h (bG K9.h) PA x z)) ?_;refine cE ?_;refine go ?_;obtain rfl:=sI O;exact rT (us:=[.vl 0 2 0<|((e++[a])++f).length]) (u:=.iM cS<|(e++[a])++f) (eL rfl (eB))<|fR 0 1;refine go ?_;obtain⟨s,c⟩|⟨s,c⟩:=gB c;obtain⟨B,t,c⟩:=aK c;obtain rfl:=sI c;refine gI t ?_;refine RS.w (u:=.bool<|lX B a) rfl (GZ rfl rfl rfl rfl) ?_;refine go ?_;exact mL;exact gy c;intro E g O;unfold Nf at O;obtain⟨m,d,O⟩:=aK O;refine gn ?_;refine kI [(0,.iM cS b),(1,.str a),(5,.J),(6,.i6 g),(18,.bool m)] ⟨[],0⟩ ?_ ?_;refine gG O ?_ ?_<;>intro G O;exact wx O;exact wx O;refine go ?_;obtain⟨y,d⟩|⟨y,d⟩:=gB d;obtain⟨l,k,d⟩:=aK d;obtain rfl:=sI d;refine gI k ?_;refine RS.w (u:=.bool<|lE l a) rfl (GZ rfl rfl rfl rfl) ?_;refine go ?_;exact mL;exact gy d
def ap  (a:X (X RX)):A ((X<|X RX)):=
 some a
def Cm(a:X bE)(n:Nat):Nat->(X<|X RX)->Int->A ((X<|X RX))
 |0,_,_=>none|d+1,c,b=>cond (decide (b<(a.length:Int))) (a8 (aC a b) fun f=>a8 (PU n c f.Name) fun e=>(Cm a n d) e<|i64.wrap<|b+1) (ap c)
def Us(n:Nat)(a:X bE):A ((X<|X RX)):=
 Cm a n n [] 0
theorem qil(n:Nat)(a:X bE)(r:(X<|X RX))(O:Us n a=some r):dL prog 91 [.O false<|a.map bO] (.O false<|r.map cS):=by unfold Us at O;refine m6 19 Hn ?_;refine gr ?_;refine gr ?_;refine gr ?_;refine dJ (tm':=fr 19 [(0,.iM bO a),(3,.iM cS []),(4,.i6 0)]) (Gh.trans (Gh.sub (l':=[(0,.iM bO a),(3,.J),(4,.i6 0)]) ⟨rfl,rfl,rfl,trivial⟩)<|Gh.sC (l':=[(0,.iM bO a),(3,.iM cS []),(4,.i6 0)])<|.cons (.refl _)<|.cons (.nil false)<|.cons (.refl _) .nil) NZ ?_;refine BV (Cm a n) (fun b d=>[(0,.iM bO a),(3,.iM cS b),(4,.i6 d)]) (fun _ _=>⟨[],0⟩) (pR ap (fun c=>[(3,.iM cS c)]) fun _=>⟨[],0⟩) O (tW ?_) ?_;intro c O;unfold ap at O;exact gx O;intro j b d O;unfold Cm at O;refine gG O ?_ ?_<;>intro i O;obtain⟨h,f,g,e,O⟩:=c6 O;refine gI f ?_;refine aM rfl (pC (Mv n b h.Name g e) _) sX ?_;exact wx O;exact wx O
def aw  (a:X (X RX)):A ((X<|X RX)):=
 some a
def UU(n:Nat)(a:X (X RX)):Nat->(X<|X RX)->Int->A ((X<|X RX))
 |0,_,_=>none|e+1,c,b=>cond (decide (b<(a.length:Int))) (a8 (aC a b) fun d=>a8 (PU n c d) fun f=>(UU n a e) f<|i64.wrap<|b+1) (aw c)
def Vv(a:Int)(M?:Int->(X<|X RX)->A ((X<|X RX)))(b:X (X RX)):A ((X<|X RX)):=
 M? (i64.wrap<|a+1) b
def av(b:Int)(a:Int->(X<|X RX)->A ((X<|X RX)))(c:X (X RX)):A ((X<|X RX)):=
 a (i64.wrap<|b+1) c
def Q7(c:X bE)(n:Nat)(d:Int)(f:Int->(X<|X RX)->A ((X<|X RX))):Nat->Int->(X<|X RX)->A ((X<|X RX))
 |0,_,_=>none|h+1,b,a=>
  cond (decide (b<(c.length:Int))) (a8 (a8 (aC c b) fun i=>
   a8 (aC a d) fun l=>
   a8 (HB n i.E6 l) fun P? =>cond P? (a8 (aC c b) fun j=>
    a8 (HB n a j.Name) fun k=>some<|!k)<|some false) fun e=>cond e (a8 (aC c b) fun g=>
    aE ((a.length+1)*16<=140737488355328/\a.length+1<=140737488355328) (
    Vv b (Q7 c n d f h) (a++[g.Name])))<|Vv b (Q7 c n d f h) a) (av d f a)
def az(n:Nat)(a:X (X RX)):A ((X<|X RX)):=
 UU n a n [] 0
def NO(c:X bE)(n:Nat):Nat->Int->(X<|X RX)->A ((X<|X RX))
 |0,_,_=>none|d+1,b,a=>cond (decide (b<(a.length:Int))) (Q7 c n b (NO c n d) n 0 a) (az n a)
def Uu(n:Nat)(a:X bE)(b:X RX):A ((X<|X RX)):=
 a8 (JE n a b) fun c=>cond (decide (c<0)) (some []) (NO a n n 0<|[b])
theorem qq7(n:Nat)(b:X bE)(k:X RX)(r:(X<|X RX))(O:Uu n b k=some r):dL prog 125 [.O false<|b.map bO,.str k] (.O false<|r.map cS):=by unfold Uu at O;refine eO 69 X7 ?_;obtain⟨R,M,O⟩:=aK O;refine go ?_;refine aM rfl (pC (Nd n b k R M) _) sW ?_;refine gF O ?_ ?_<;>intro W O;refine go ?_;obtain rfl:=sI O;exact rT (us:=[.J]) (u:=.O false []) (eL rfl (eB)) wR;refine go ?_;refine RS.step (u:=.vl 0 0 0<|[k].length) (Y':=⟨[(0,.bv cS ([k]) 9 1 0)],1⟩) rfl (fI.kA (cs:=(List.map cS [k]).flatten) cf rfl kX.h K9.h rfl rfl rfl rfl rfl rfl rfl rfl) rfl rfl ?_;refine go ?_;refine nN (a3:=0) (fun m d j _=>NO b n m d j) (fun d j p=>[(0,.iM bO b),(5,.vl 0 p 0 j.length),(6,.i6 d)]) (fun _ j p=>⟨nD j p,1⟩) (kW (fun c _=>az n c) (fun c e=>[(5,.vl 0 e 0 c.length)]) fun c e=>⟨nD c e,1⟩) O (mR ?_) ?_;intro c e O;unfold az at O;refine gr ?_;refine gr ?_;refine dJ (tm':=fr 69 [(5,.vl 0 e 0 c.length),(8,.iM cS []),(9,.i6 0)]) (Gh.trans (Gh.sub (l':=[(5,.vl 0 e 0 c.length),(8,.J),(9,.i6 0)]) ⟨rfl,rfl,rfl,trivial⟩)<|Gh.sC (l':=[(5,.vl 0 e 0 c.length),(8,.iM cS []),(9,.i6 0)])<|.cons (.refl _)<|.cons (.nil false)<|.cons (.refl _) .nil) NZ ?_;refine BV (UU n c) (fun w C=>[(5,.vl 0 e 0 c.length),(8,.iM cS w),(9,.i6 C)]) (fun _ _=>⟨nD c e,1⟩) (pR aw (fun F=>[(8,.iM cS F)]) fun _=>⟨nD c e,1⟩) O (tW ?_) ?_;intro F O;unfold aw at O;exact gx O;intro Y w C O;unfold UU at O;refine gG O ?_ ?_<;>intro tV O;obtain⟨G,D,S,Q,O⟩:=c6 O;refine go ?_;refine aX rfl (eM rfl rfl (jS cS kX.h (bG K9.h) cg PA (vo rfl) D)) ?_;refine aX rfl (CF cS (fun x=>.str x) MS.h rfl (fun _=>rfl) rfl rfl D) (aM rfl (pC (Mv n w G S Q) _) sX ?_);exact wx O;exact wx O;intro y d j p O;unfold NO at O;refine gG O ?_ ?_<;>intro U O;refine go ?_;refine nN (a3:=p) (fun m g f _=>Q7 b n d (NO b n y) m g f) (fun g f i=>[(0,.iM bO b),(5,.vl 0 i 0 f.length),(6,.i6 d),(7,.i6 g)]) (fun _ f i=>⟨nD f i,1⟩) (kW (fun o _=>av d (NO b n y) o) (fun o s=>[(0,.iM bO b),(5,.vl 0 s 0 o.length),(6,.i6 d)]) fun o s=>⟨nD o s,1⟩) O (mR ?_) ?_;intro o s O;unfold av at O;exact wx O;intro N g f i O;unfold Q7 at O;refine gG O ?_ ?_<;>intro Z O;obtain⟨t,a,O⟩:=aK O;refine gn ?_;refine kI [(0,.iM bO b),(5,.vl 0 i 0 f.length),(6,.i6 d),(7,.i6 g),(47,.bool t)] ⟨nD f i,1⟩ ?_ ?_;refine gn ?_;refine M7 r (fun l _=>Vv g (Q7 b n d (NO b n y) N) l) (fun l q=>[(0,.iM bO b),(5,.vl 0 q 0 l.length),(6,.i6 d),(7,.i6 g)]) (fun l q=>⟨nD l q,1⟩) ?_ ?_;intro l q O;unfold Vv at O;exact wx O;refine cF O ?_ ?_<;>intro V O;obtain⟨T,J,O⟩:=aK O;obtain⟨xa,O⟩:=bY O;refine gI J ?_;refine cE ?_;refine cE ?_;exact wx O;exact wx O;obtain⟨I,H,a⟩:=aK a;obtain⟨K,z,a⟩:=aK a;obtain⟨P?,P,a⟩:=aK a;refine dE [] ?_;refine gJ H ?_;refine aQ rfl (eM rfl rfl (jS cS kX.h (bG K9.h) cg PA (vo rfl) z)) ?_;refine aQ rfl (CF cS (fun x=>.str x) MS.h rfl (fun _=>rfl) rfl rfl z) (eA rfl (pC<|Q2 n I.E6 K P? P) nK ?_);refine gd ?_;obtain⟨E,a⟩|⟨E,a⟩:=gB a;obtain⟨A,L,a⟩:=aK a;obtain⟨B,v,a⟩:=aK a;obtain rfl:=sI a;refine gJ L ?_;refine RD.call (u:=.bool B) (args:=[.vl 0 i 0 f.length,.str A.Name]) (D_ rfl rfl rfl E) (tJ rfl rfl nK rfl rfl rfl) (vw (Q2 n f A.Name B v)<|rD 0 1) rfl rfl ?_;refine gd ?_;refine bC ⟨by kernel_rfl,trivial,?_⟩;refine go ?_;exact mL;obtain rfl:=sI a;refine gd ?_;refine bC ⟨by kernel_rfl,trivial,?_⟩;refine go ?_;exact mL;exact wx O;exact wx O
def Wi(b:X Int)(z5:Int):A ((X Int)):=
 a8 (xX b 0 z5) fun a=>
 aE (a.length*8<=140737488355328/\a.length<=140737488355328) (some a)
def UZ(a:X Int):Nat->Int->A ((X Int))
 |0,_=>none|c+1,z4=>a8 (cond (decide (z4>0)) (a8 (aC a<|i64.wrap<|z4-1) fun b=>some<|b==0)<|some false) fun d=>cond d ((UZ a c)<|i64.wrap<|z4-1) (Wi a z4)
def NJ(n:Nat)(a:X Int):A ((X Int)):=
 UZ a n (a.length:Int)
theorem dh(n:Nat)(b:X Int)(r:(X Int))(O:NJ n b=some r):dL prog 119 [.O false<|b.map<|cI .u64] (.O false<|r.map<|cI .u64):=by unfold NJ at O;refine m6 23 A9 ?_;refine go ?_;refine oX (UZ b) (fun z4=>[(0,.iM (cI .u64) b),(3,.i6 z4)]) (fun _=>⟨[],0⟩) (pR (Wi b) (fun z5=>[(0,.iM (cI .u64) b),(3,.i6 z5)]) fun _=>⟨[],0⟩) O (tW ?_) ?_;intro z5 O;unfold Wi at O;obtain⟨c,e,O⟩:=aK O;obtain⟨f,g⟩:=uq (cI .u64) .i64 e;obtain⟨i,O⟩:=bY O;refine go ?_;refine aX (u:=.sl 0 0 0 0) (Y':=⟨[(0,.row [] 213)],1⟩) rfl (F2 g8.h mF.h rfl rfl rfl rfl rfl rfl rfl) ?_;refine go ?_;refine aX (u:=.iM (cI .u64) c) rfl (F6 rfl GT (GS rfl) (Rw (cI .u64) g8.h (bG mF.h) (wZ .u64) f g)) (aX (u:=.vl 1 0 0 c.length) (Y':=⟨[(1,.bv (cI .u64) c 213 1 0),(0,.row [] 213)],2⟩) rfl (rG rfl rfl rfl rfl (ss (cI .u64) c g8.h g8.h mF.h rfl rfl rfl (Lq (cI .u64)<|wZ .u64) i)) ?_);refine go ?_;obtain rfl:=sI O;exact rT (us:=[.vl 1 0 0 c.length]) (u:=.iM (cI .u64) c) (eL rfl (eB))<|fR 1 1;intro m z4 O;unfold UZ at O;obtain⟨k,a,O⟩:=aK O;refine gn ?_;refine kI [(0,.iM (cI .u64) b),(3,.i6 z4),(15,.bool k)] ⟨[],0⟩ ?_ ?_;refine gG O ?_ ?_<;>intro o O;exact wx O;exact wx O;refine go ?_;obtain⟨j,a⟩|⟨j,a⟩:=gB a;obtain⟨l,d,a⟩:=aK a;obtain rfl:=sI a;refine gI d ?_;exact mL;exact gy a
def cq(n:Nat)(a:X Int):A ((X Int)×Int):=
 aE ((64:Int).toNat=a.length) (
 a8 (NJ n a) fun b=>some (b,0))
def Bv(a:X Int)(n:Nat):Nat->Int->(X Int)->A ((X Int)×Int)
 |0,_,_=>none|i+1,b,c=>
  cond (decide (b<(a.length:Int))) (a8 (a8 (aC a b) fun h=>cond (decide (h<0)) (some true)<|a8 (aC a b) fun j=>some<|decide (j>4095)) fun g=>cond g (some ([],2)) (a8 (aC a b) fun e=>
    a8 (aC a b) fun k=>
    a8 (pD c 0 ((64:Int).toNat)<|i64.wrap<|k.tdiv 64) fun f=>
    a8 (aC a b) fun d=>
    aE (¬ (u64.wrap<|d.tmod 64)<0) (
    a8 (pD c 0 ((64:Int).toNat)<|i64.wrap<|e.tdiv 64) fun l=>(Bv a n i) (i64.wrap<|b+1)<|c.set (i64.wrap<|e.tdiv 64).toNat (Xc .u64 f<|u64.wrap<|1*(2^(min (u64.wrap<|d.tmod 64).toNat u64.bits)))))) (cq n c)
def Td(n:Nat)(a:X Int):A ((X Int)×Int):=
 aE (0<=(64:Int)/\8*(64:Int).toNat<=281474976710656/\(64:Int)<=281474976710656) (
 Bv a n n 0 (replicate (64:Int).toNat 0))
theorem qyh(n:Nat)(c:X Int)(r:(X Int)×Int)(O:Td n c=some r):dL prog 127 [.O false<|c.map<|cI .i64] (.a7 [.O false<|r.1.map<|cI .u64,.int .i64 r.2]):=by unfold Td at O;refine m6 50 X6 ?_;obtain⟨p,O⟩:=bY O;refine go ?_;refine aX (u:=.sl 0 0 ((64:Int).toNat)<|(64:Int).toNat) (Y':=⟨[(0,.row (List.map (cI .u64)<|replicate (64:Int).toNat 0).flatten 213)],1⟩) rfl (c? (cI .u64) 0 rfl rfl g8.h mF.h rfl rfl rfl rfl p) ?_;refine go ?_;refine BV (Bv c n) (fun e _=>[(0,.iM (cI .i64) c),(4,.sl 0 0 ((64:Int).toNat)<|(64:Int).toNat),(5,.i6 e)]) (fun _ d=>⟨[(0,.row (d.map<|cI .u64).flatten 213)],1⟩) (pR (cq n) (fun _=>[(4,.sl 0 0 ((64:Int).toNat)<|(64:Int).toNat)]) fun b=>⟨[(0,.row (b.map<|cI .u64).flatten 213)],1⟩) O (tW ?_) ?_;intro b O;unfold cq at O;obtain⟨g,O⟩:=bY O;refine gn ?_;refine dJ (tm':=fr 50 [(4,.iM (cI .u64) b)]) (Y':=⟨[],1⟩) (Gh.trans (Gh.sub (l':=[(4,.sl 0 0 ((64:Int).toNat)<|(64:Int).toNat)]) ⟨rfl,trivial⟩)<|Gh.h_ (l':=[(4,.iM (cI .u64) b)]) (h':=[]) 0 (.row (b.map<|cI .u64).flatten 213) 1 rfl ca (by simp only[h_,mC,JB,F9,J9,JA,U2,U7,Az,Ba,Bb,U8,J8,Ar,U3,TZ,TQ,IZ,yz (wZ .u64) g]) (by simp only[dA,fv,ug,Nat.beq,zC,zD,mC,JB,F9,J9,JA,U2,U7,Az,Ba,Bb,U8,J8,Ar,U3,TZ,TQ,IZ,yz (wZ .u64) g])) NZ ?_;obtain⟨A,s,O⟩:=aK O;refine go ?_;refine aM rfl (pC (dh n b A s) _) A9 ?_;refine go ?_;obtain rfl:=sI O;exact MX rfl rfl rfl rfl rfl;intro D e d O;unfold Bv at O;refine gG O ?_ ?_<;>intro C O;obtain⟨l,a,O⟩:=aK O;refine gn ?_;refine kI [(0,.iM (cI .i64) c),(4,.sl 0 0 ((64:Int).toNat)<|(64:Int).toNat),(5,.i6 e),(24,.bool l)] ⟨[(0,.row (d.map<|cI .u64).flatten 213)],1⟩ ?_ ?_;refine gF O ?_ ?_<;>intro H O;refine go ?_;obtain rfl:=sI O;exact rT (us:=[.J,.i6 2]) (u:=.a7 [.O false [],.i6 2]) (eL rfl (eL rfl (eB))) wR;obtain⟨y,v,F,w,f,k,i,z,O⟩:=F3 O;obtain⟨t,O⟩:=bY O;obtain⟨G,j,O⟩:=aK O;refine go ?_;refine dE [] ?_;refine gJ v ?_;refine aQ rfl (wY rfl rfl (uj _ cg) rfl) ?_;refine gJ w ?_;refine aQ rfl (wY rfl rfl (uj _ cg) rfl) ?_;refine aQ rfl (eM rfl rfl (J0 g8.h (bG mF.h) rfl k)) (aQ (u:=.int .u64 f) rfl (TY (cI .u64) (fun x=>.int .u64 x) Qq.h rfl (fun _=>rfl) rfl rfl k) ?_);refine gJ z ?_;refine aQ rfl (wY rfl rfl (z8e _ cg) rfl) ?_;refine aQ (u:=.int .u64<|u64.wrap<|i.tmod 64) rfl (sj rfl rfl (by simp only[P6,tF.h,DB.h]<;>rfl) rfl) ?_;refine aQ rfl (wY rfl rfl (Dw _ t) rfl) (aQ rfl (wY rfl rfl (Xv _ _ _) rfl) (aQ rfl (eM rfl rfl (J0 g8.h (bG mF.h) rfl j)) (SQ (u:=.L2) (Y':=⟨[(0,.row (List.map (cI .u64)<|d.set (i64.wrap<|y.tdiv 64).toNat (Xc .u64 f<|u64.wrap<|1*(2^(min (u64.wrap<|i.tmod 64).toNat u64.bits)))).flatten 213)],1⟩) rfl (F_ (cI .u64) (bG mF.h) (wZ .u64) rfl rfl rfl rfl rfl rfl j rfl) rfl ?_)));refine bC ⟨by kernel_rfl,trivial,?_⟩;exact wx O;obtain⟨B,q,a⟩:=aK a;refine gI q ?_;obtain⟨m,a⟩|⟨m,a⟩:=gB a;exact gy a;obtain⟨E,o,a⟩:=aK a;obtain rfl:=sI a;refine gI o ?_;exact mL;exact wx O
def Vp(c:Int)(b:Int->(X Int)->A ((X Int)))(a:X Int):A ((X Int)):=
 b (i64.wrap<|c+1) a
def tx(n:Nat)(b:X Int):A ((X Int)):=
 a8 (Td n b) fun a=>some a.1
def Q1(c:X (X RX))(n:Nat)(d:(X<|X RX)):Nat->Int->(X Int)->A ((X Int))
 |0,_,_=>none|e+1,b,a=>
  cond (decide (b<(c.length:Int))) (a8 (aC c b) fun g=>
   a8 (HB n d g) fun f=>cond f (aE ((a.length+1)*8<=140737488355328/\a.length+1<=140737488355328) (
    Vp b (Q1 c n d e) (a++[b])))<|Vp b (Q1 c n d e) a) (tx n a)
def Ue(n:Nat)(a:X bE)(b:X (X RX))(c:X RX):A ((X Int)):=
 a8 (Uu n a c) fun d=>
 Q1 b n d n 0 ([]:X Int)
theorem qsm(n:Nat)(i:X bE)(e:X (X RX))(j:X RX)(r:(X Int))(O:Ue n i e j=some r):dL prog 92 [.O false<|i.map bO,.O false<|e.map cS,.str j] (.O false<|r.map<|cI .u64):=by unfold Ue at O;refine HV 37 xm ?_;obtain⟨f,q,O⟩:=aK O;refine go ?_;refine aM rfl (pC (qq7 n i j f q) _) X7 ?_;refine gr ?_;refine gr ?_;refine gV 8 3 1 1 ?_;refine nN (a3:=0) (fun m d c _=>Q1 e n f m d c) (fun d c h=>[(1,.iM cS e),(7,.iM cS f),(8,.vl 0 h 0 c.length),(9,.i6 d)]) (fun _ c h=>⟨F7 c h,1⟩) (kW (fun b _=>tx n b) (fun b g=>[(8,.vl 0 g 0 b.length)]) fun b g=>⟨F7 b g,1⟩) O (mR ?_) ?_;intro b g O;unfold tx at O;refine gn ?_;refine dJ (tm':=fr 37 [(8,.iM (cI .i64) b)]) (Y':=⟨[],1⟩) (Gh.trans (Gh.sub (l':=[(8,.vl 0 g 0 b.length)]) ⟨rfl,trivial⟩)<|SP 0 1) NZ ?_;obtain⟨k,p,O⟩:=aK O;refine go ?_;refine aM rfl (pC (qyh n b k p) _) X6 ?_;exact gx O;intro s d c h O;unfold Q1 at O;refine gG O ?_ ?_<;>intro v O;obtain⟨o,u,l,t,O⟩:=c6 O;refine gI u ?_;refine aM rfl (pC (Q2 n f o l t) _) nK ?_;refine gn ?_;refine M7 r (fun a _=>Vp d (Q1 e n f s) a) (fun a t25=>[(1,.iM cS e),(7,.iM cS f),(8,.vl 0 t25 0 a.length),(9,.i6 d)]) (fun a t25=>⟨F7 a t25,1⟩) ?_ ?_;intro a t25 O;unfold Vp at O;exact wx O;refine cF O ?_ ?_<;>intro x O;obtain⟨w,O⟩:=bY O;refine go ?_;refine cE ?_;refine cE ?_;exact wx O;exact wx O;exact wx O
def Bs(n:Nat)(a:X Int)(b:Int):A (Int):=
 cond (decide (b<(a.length:Int))) (a8 (aC a b) fun c=>some c) (some 0)
theorem qkg(n:Nat)(a:X Int)(b:Int)(r:Int)(O:Bs n a b=some r):dL prog 156 [.O false<|a.map<|cI .u64,.int .i64 b] (.int .u64 r):=by unfold Bs at O;refine eO 13 LI ?_;refine gF O ?_ ?_<;>intro d O;obtain⟨e,c,O⟩:=aK O;refine go ?_;refine dO c ?_;exact gx O;exact gx O
def Ng(n:Nat)(a:X Int):A ((X Int)):=
 a8 (NJ n a) fun b=>some b
def Vh(c:X Int)(d:X Int)(n:Nat):Nat->Int->(X Int)->A ((X Int))
 |0,_,_=>none|f+1,b,a=>
  cond (decide (b<(c.length:Int))) (a8 (aC c b) fun g=>
   a8 (Bs n d b) fun e=>
   aE ((a.length+1)*8<=140737488355328/\a.length+1<=140737488355328) ((Vh c d n f) (i64.wrap<|b+1)<|a++[(OM .u64 g e)])) (Ng n a)
def Bl(n:Nat)(a:X Int)(b:X Int):A ((X Int)):=
 Vh a b n n 0 ([]:X Int)
theorem qml(n:Nat)(g:X Int)(d:X Int)(r:(X Int))(O:Bl n g d=some r):dL prog 118 [.O false<|g.map<|cI .u64,.O false<|d.map<|cI .u64] (.O false<|r.map<|cI .u64):=by unfold Bl at O;refine eO 26 LP ?_;refine gr ?_;refine gr ?_;refine gr ?_;refine gV 5 213 1 1 ?_;refine nN (a3:=0) (fun m e b _=>Vh g d n m e b) (fun e b f=>[(0,.iM (cI .u64) g),(1,.iM (cI .u64) d),(5,.vl 0 f 0 b.length),(6,.i6 e)]) (fun _ b f=>⟨[(0,.bv (cI .u64) b 213 1 f)],1⟩) (kW (fun a _=>Ng n a) (fun a c=>[(5,.vl 0 c 0 a.length)]) fun a c=>⟨[(0,.bv (cI .u64) a 213 1 c)],1⟩) O (mR ?_) ?_;intro a c O;unfold Ng at O;refine gn ?_;refine dJ (tm':=fr 26 [(5,.iM (cI .u64) a)]) (Y':=⟨[],1⟩) (Gh.trans (Gh.sub (l':=[(5,.vl 0 c 0 a.length)]) ⟨rfl,trivial⟩)<|SP 0 1) NZ ?_;obtain⟨h,j,O⟩:=aK O;refine go ?_;refine aM rfl (pC (dh n a h j) _) A9 ?_;exact gx O;intro p e b f O;unfold Vh at O;refine gG O ?_ ?_<;>intro o O;obtain⟨q,i,l,k,O⟩:=c6 O;obtain⟨s,O⟩:=bY O;refine go ?_;refine dE [(0,9)] ?_;refine gJ i ?_;refine eA rfl (pC<|qkg n d e l k) LI (aQ rfl (wY rfl rfl (l? _ _ _) rfl) ?_);refine dS ?_;refine dS ?_;refine gd ?_;refine bC ⟨by kernel_rfl,⟨kN rfl,trivial⟩,?_⟩;exact wx O;exact wx O
def Y!: A (Rl):=
 some true
def F'(b:X Int)(c:X Int):Nat->Int->A (Rl)
 |0,_=>none|e+1,a=>cond (decide (a<(b.length:Int))) (a8 (aC b a) fun f=>a8 (aC c a) fun d=>cond (f != d) (some false)<|(F' b c e)<|i64.wrap<|a+1) (Y!)
def UL(n:Nat)(a:X Int)(b:X Int):A (Rl):=
 cond ((a.length:Int) != (b.length:Int)) (some false) (F' a b n 0)
theorem qkf(n:Nat)(a:X Int)(b:X Int)(r:Rl)(O:UL n a b=some r):dL prog 120 [.O false<|a.map<|cI .u64,.O false<|b.map<|cI .u64] (.bool r):=by unfold UL at O;refine eO 26 LO ?_;refine gF O ?_ ?_<;>intro g O;exact gx O;refine go ?_;refine oX (F' a b) (fun c=>[(0,.iM (cI .u64) a),(1,.iM (cI .u64) b),(5,.i6 c)]) (fun _=>⟨[],0⟩) (qY Y! [] ⟨[],0⟩) O (tX ?_) ?_;intro O;unfold Y! at O;exact gx O;intro j c O;unfold F' at O;refine gG O ?_ ?_<;>intro h O;obtain⟨k,e,i,d,O⟩:=c6 O;refine go ?_;refine dE [] ?_;refine gJ e ?_;refine iR d ?_;refine gd ?_;refine bC ⟨by kernel_rfl,trivial,?_⟩;refine gF O ?_ ?_<;>intro f O;exact gx O;exact wx O;exact wx O
def bz: A (Rl):=
 some false
def Bu(a:X (X Int))(c:X Int)(n:Nat):Nat->Int->A (Rl)
 |0,_=>none|d+1,b=>cond (decide (b<(a.length:Int))) (a8 (aC a b) fun e=>a8 (UL n e c) fun f=>cond f (some true)<|(Bu a c n d)<|i64.wrap<|b+1) (bz)
def pc(n:Nat)(a:X (X Int))(b:X Int):A (Rl):=
 Bu a b n n 0
theorem qyi(n:Nat)(b:X (X Int))(a:X Int)(r:Rl)(O:pc n b a=some r):dL prog 128 [.O false<|List.map (cL<|cI .u64) b,.O false<|a.map<|cI .u64] (.bool r):=by unfold pc at O;refine eO 18 X5 ?_;refine go ?_;refine oX (Bu b a n) (fun c=>[(0,.iM (cL<|cI .u64) b),(1,.iM (cI .u64) a),(5,.i6 c)]) (fun _=>⟨[],0⟩) (qY bz [] ⟨[],0⟩) O (tX ?_) ?_;intro O;unfold bz at O;exact gx O;intro j c O;unfold Bu at O;refine gG O ?_ ?_<;>intro i O;obtain⟨f,d,g,e,O⟩:=c6 O;refine gI d ?_;refine aM rfl (pC (qkf n f a g e) _) LO ?_;refine gF O ?_ ?_<;>intro h O;exact gx O;exact wx O;exact wx O
def Wd(c:Int)(b:Int->(X<|X Int)->A ((X<|X Int)))(a:X (X Int)):A ((X<|X Int)):=
 b (i64.wrap<|c+1) a
def Wb(c:Int)(b:Int->(X<|X Int)->A ((X<|X Int)))(a:X (X Int)):A ((X<|X Int)):=
 b (i64.wrap<|c+1) a
def UW(n:Nat)(b:Int)(f:Int->(X<|X Int)->A ((X<|X Int))):Nat->Int->(X<|X Int)->A ((X<|X Int))
 |0,_,_=>none|g+1,c,a=>
  a8 (cond (decide (c<b)) (some<|decide ((a.length:Int)<=256))<|some false) fun e=>cond e (a8 (aC a b) fun h=>
   a8 (aC a c) fun j=>
   a8 (Bl n h j) fun d=>
   a8 (cond (decide ((d.length:Int)>0)) (a8 (pc n a d) fun k=>some<|!k)<|some false) fun i=>cond i (aE ((a.length+1)*24<=140737488355328/\a.length+1<=140737488355328) (
    Wd c (UW n b f g) (a++[d])))<|Wd c (UW n b f g) a) (Wb b f a)
def Wc  (a:X (X Int)):A ((X<|X Int)):=
 some a
def NR(n:Nat):Nat->Int->(X<|X Int)->A ((X<|X Int))
 |0,_,_=>none|d+1,b,a=>a8 (cond (decide (b<(a.length:Int))) (some<|decide ((a.length:Int)<=256))<|some false) fun c=>cond c (UW n b (NR n d) n 0 a) (Wc a)
def Ve(n:Nat)(a:X (X Int)):A ((X<|X Int)):=
 aE (a.length*24<=140737488355328/\a.length<=140737488355328) (
 NR n n 0 a)
theorem qnj(n:Nat)(p:X (X Int))(r:(X<|X Int))(O:Ve n p=some r):dL prog 93 [.O false<|List.map (cL<|cI .u64) p] (.O false<|List.map (cL<|cI .u64) r):=by unfold Ve at O;refine m6 54 xl ?_;obtain⟨G,O⟩:=bY O;refine go ?_;refine aX (u:=.sl 0 0 0 0) (Y':=⟨[(0,.row [] 141)],1⟩) rfl (F2 rO.h pZ.h rfl rfl rfl rfl rfl rfl rfl) ?_;refine go ?_;refine aX (u:=.vl 1 0 0 p.length) (Y':=⟨[(1,.bv (cL<|cI .u64) p 141 1 0),(0,.row [] 141)],2⟩) rfl (rG rfl rfl rfl rfl (ss (cL<|cI .u64) p rO.h rO.h pZ.h rfl rfl rfl (Lq (cL<|cI .u64)<|Le<|cI .u64) G)) ?_;refine go ?_;refine nN (a3:=0) (fun m a d _=>NR n m a d) (fun a d t8=>[(3,.vl 1 t8 0 d.length),(4,.i6 a)]) (fun _ d t8=>⟨UG d t8,2⟩) (kW (fun e _=>Wc e) (fun e k=>[(3,.vl 1 k 0 e.length)]) fun e k=>⟨UG e k,2⟩) O (mR ?_) ?_;intro e k O;unfold Wc at O;refine go ?_;obtain rfl:=sI O;exact rT (us:=[.vl 1 k 0 e.length]) (u:=.iM (cL<|cI .u64) e) (eL rfl (eB))<|fR 1 1;intro w a d t8 O;unfold NR at O;obtain⟨E,l,O⟩:=aK O;refine gn ?_;refine kI [(3,.vl 1 t8 0 d.length),(4,.i6 a),(18,.bool E)] ⟨UG d t8,2⟩ ?_ ?_;refine gG O ?_ ?_<;>intro Q O;refine go ?_;refine nN (a3:=t8) (fun m f b _=>UW n a (NR n w) m f b) (fun f b c=>[(3,.vl 1 c 0 b.length),(4,.i6 a),(5,.i6 f)]) (fun _ b c=>⟨UG b c,2⟩) (kW (fun i _=>Wb a (NR n w) i) (fun i s=>[(3,.vl 1 s 0 i.length),(4,.i6 a)]) fun i s=>⟨UG i s,2⟩) O (mR ?_) ?_;intro i s O;unfold Wb at O;exact wx O;intro I f b c O;unfold UW at O;obtain⟨v,o,O⟩:=aK O;refine gn ?_;refine kI [(3,.vl 1 c 0 b.length),(4,.i6 a),(5,.i6 f),(28,.bool v)] ⟨UG b c,2⟩ ?_ ?_;refine gG O ?_ ?_<;>intro P O;obtain⟨A,z,F,y,t,C,O⟩:=pH O;refine go ?_;refine dE [] ?_;refine gd ?_;refine aQ rfl (eM rfl rfl (jS (cL<|cI .u64) rO.h (bG pZ.h) cg (Le<|cI .u64) (vo rfl) z)) ?_;refine aQ rfl (CF (cL<|cI .u64) (fun x=>.iM (cI .u64) x) g8.h rfl (fun _=>rfl) rfl rfl z) ?_;refine gd ?_;refine aQ rfl (eM rfl rfl (jS (cL<|cI .u64) rO.h (bG pZ.h) cg (Le<|cI .u64) (vo rfl) y)) ?_;refine aQ rfl (CF (cL<|cI .u64) (fun x=>.iM (cI .u64) x) g8.h rfl (fun _=>rfl) rfl rfl y) (eA rfl (pC<|qml n A F t C) LP ?_);refine gd ?_;refine bC ⟨by kernel_rfl,trivial,?_⟩;obtain⟨D,g,O⟩:=aK O;refine gn ?_;refine kI [(3,.vl 1 c 0 b.length),(4,.i6 a),(5,.i6 f),(6,.iM (cI .u64) t),(48,.bool D)] ⟨UG b c,2⟩ ?_ ?_;refine gn ?_;refine M7 r (fun j _=>Wd f (UW n a (NR n w) I) j) (fun j q=>[(3,.vl 1 q 0 j.length),(4,.i6 a),(5,.i6 f)]) (fun j q=>⟨UG j q,2⟩) ?_ ?_;intro j q O;unfold Wd at O;exact wx O;refine cF O ?_ ?_<;>intro M O;obtain⟨N,O⟩:=bY O;refine go ?_;refine cE ?_;refine cE ?_;exact wx O;exact wx O;refine go ?_;obtain⟨K,g⟩|⟨K,g⟩:=gB g;obtain⟨H,B,g⟩:=aK g;obtain rfl:=sI g;refine go ?_;refine aM rfl (vw (qyi n b t H B)<|rD 1 1) X5 ?_;refine go ?_;exact mL;exact gy g;exact wx O;refine go ?_;obtain⟨L,o⟩|⟨L,o⟩:=gB o;exact gy o;exact gy o;exact wx O;refine go ?_;obtain⟨J,l⟩|⟨J,l⟩:=gB l;exact gy l;exact gy l
def Nv(n:Nat)(a:X Int):A ((X Int)):=
 a8 (NJ n a) fun b=>some b
def Vy(c:X Int)(d:X Int)(n:Nat):Nat->Int->(X Int)->A ((X Int))
 |0,_,_=>none|f+1,b,a=>
  cond (decide (b<(c.length:Int))) (a8 (aC c b) fun g=>
   a8 (Bs n d b) fun e=>
   aE ((a.length+1)*8<=140737488355328/\a.length+1<=140737488355328) ((Vy c d n f) (i64.wrap<|b+1)<|a++[(Be .u64 g e)])) (Nv n a)
def Mw(n:Nat)(a:X Int)(b:X Int):A ((X Int)):=
 Vy a b n n 0 ([]:X Int)
theorem qq5(n:Nat)(g:X Int)(d:X Int)(r:(X Int))(O:Mw n g d=some r):dL prog 163 [.O false<|g.map<|cI .u64,.O false<|d.map<|cI .u64] (.O false<|r.map<|cI .u64):=by unfold Mw at O;refine eO 26 WS ?_;refine gr ?_;refine gr ?_;refine gr ?_;refine gV 5 213 1 1 ?_;refine nN (a3:=0) (fun m e b _=>Vy g d n m e b) (fun e b f=>[(0,.iM (cI .u64) g),(1,.iM (cI .u64) d),(5,.vl 0 f 0 b.length),(6,.i6 e)]) (fun _ b f=>⟨[(0,.bv (cI .u64) b 213 1 f)],1⟩) (kW (fun a _=>Nv n a) (fun a c=>[(5,.vl 0 c 0 a.length)]) fun a c=>⟨[(0,.bv (cI .u64) a 213 1 c)],1⟩) O (mR ?_) ?_;intro a c O;unfold Nv at O;refine gn ?_;refine dJ (tm':=fr 26 [(5,.iM (cI .u64) a)]) (Y':=⟨[],1⟩) (Gh.trans (Gh.sub (l':=[(5,.vl 0 c 0 a.length)]) ⟨rfl,trivial⟩)<|SP 0 1) NZ ?_;obtain⟨h,j,O⟩:=aK O;refine go ?_;refine aM rfl (pC (dh n a h j) _) A9 ?_;exact gx O;intro p e b f O;unfold Vy at O;refine gG O ?_ ?_<;>intro o O;obtain⟨q,i,l,k,O⟩:=c6 O;obtain⟨s,O⟩:=bY O;refine go ?_;refine dE [(0,9)] ?_;refine gJ i ?_;refine eA rfl (pC<|qkg n d e l k) LI (aQ rfl (wY rfl rfl (qrv _ _ _) rfl) ?_);refine dS ?_;refine dS ?_;refine gd ?_;refine bC ⟨by kernel_rfl,⟨kN rfl,trivial⟩,?_⟩;exact wx O;exact wx O
def Bx(n:Nat)(a:X Int)(b:X Int):A (Rl):=
 a8 (Mw n a b) fun c=>some ((c.length:Int)==0)
theorem qd0(n:Nat)(a:X Int)(b:X Int)(r:Rl)(O:Bx n a b=some r):dL prog 133 [.O false<|a.map<|cI .u64,.O false<|b.map<|cI .u64] (.bool r):=by unfold Bx at O;refine eO 10 EJ ?_;obtain⟨d,c,O⟩:=aK O;refine go ?_;refine aM rfl (pC (qq5 n a b d c) _) WS ?_;exact gx O
def Uw(n:Nat)(a:X Int)(b:X Int):A (Rl):=
 a8 (a8 (Bx n a b) fun d=>cond d (a8 (Bx n b a) fun e=>some e)<|some false) fun c=>some c
theorem qq4(n:Nat)(b:X Int)(c:X Int)(r:Rl)(O:Uw n b c=some r):dL prog 129 [.O false<|b.map<|cI .u64,.O false<|c.map<|cI .u64] (.bool r):=by unfold Uw at O;refine eO 13 X4 ?_;obtain⟨d,a,O⟩:=aK O;refine gr ?_;refine kI [(4,.bool d)] ⟨[],0⟩ ?_ ?_;exact gx O;obtain⟨h,e,a⟩:=aK a;refine go ?_;refine aM rfl (pC (qd0 n b c h e) _) EJ ?_;refine go ?_;obtain⟨f,a⟩|⟨f,a⟩:=gB a;obtain⟨i,g,a⟩:=aK a;obtain rfl:=sI a;refine go ?_;refine aM rfl (pC (qd0 n c b i g) _) EJ ?_;refine go ?_;exact mL;exact gy a
def Mr(n:Nat)(b:X Int)(a:Int):A (Rl):=
 a8 (cond (decide (a<0)) (some true)<|some<|decide ((i64.wrap<|a.tdiv 64)>=(b.length:Int))) fun c=>cond c (some false) (a8 (aC b<|i64.wrap<|a.tdiv 64) fun d=>aE (¬ (u64.wrap<|a.tmod 64)<0)<|some<|(OM .u64 (d.fdiv<|2^(min (u64.wrap<|a.tmod 64).toNat u64.bits)) 1)==1)
theorem qmm(n:Nat)(c:X Int)(b:Int)(r:Rl)(O:Mr n c b=some r):dL prog 130 [.O false<|c.map<|cI .u64,.int .i64 b] (.bool r):=by unfold Mr at O;refine eO 25 LN ?_;obtain⟨d,a,O⟩:=aK O;refine gr ?_;refine kI [(0,.iM (cI .u64) c),(1,.i6 b),(13,.bool d)] ⟨[],0⟩ ?_ ?_;refine gF O ?_ ?_<;>intro i O;exact gx O;obtain⟨j,g,O⟩:=aK O;obtain⟨e,O⟩:=bY O;refine go ?_;refine aX rfl (wY rfl rfl (uj _ cg) rfl) ?_;refine dO g ?_;refine go ?_;refine aX rfl (wY rfl rfl (z8e _ cg) rfl) ?_;refine aX (u:=.int .u64<|u64.wrap<|b.tmod 64) rfl (sj rfl rfl (by simp only[P6,tF.h,DB.h]<;>rfl) rfl) ?_;refine aX rfl (wY rfl rfl (z8f _ e) rfl) (aX rfl (wY rfl rfl (l? _ _ _) rfl) ?_);exact gx O;refine go ?_;obtain⟨f,a⟩|⟨f,a⟩:=gB a;exact gy a;obtain rfl:=sI a;refine go ?_;refine RS.w rfl (wY rfl rfl (uj _ cg) rfl) ?_;refine go ?_;exact mL
def Wn(c:Int)(a:(X<|X RX)->Int->A ((X<|X RX)))(b:X (X RX)):A ((X<|X RX)):=
 a b (i64.wrap<|c+1)
def fu  (a:X (X RX)):A ((X<|X RX)):=
 some a
def QC(d:X bE)(a:X (X RX))(n:Nat):Nat->(X<|X RX)->Int->A ((X<|X RX))
 |0,_,_=>none|e+1,c,b=>
  cond (decide (b<(a.length:Int))) (a8 (aC a b) fun h=>
   a8 (JE n d h) fun g=>cond (decide (g>=0)) (a8 (aC a b) fun i=>
    a8 (PU n c i) fun f=>
    Wn b (QC d a n e) f)<|Wn b (QC d a n e) c) (fu c)
def ao(n:Nat)(a:X bE)(b:X (X RX)):A ((X<|X RX)):=
 QC a b n n [] 0
theorem qks(n:Nat)(a:X bE)(b:X (X RX))(r:(X<|X RX))(O:ao n a b=some r):dL prog 160 [.O false<|a.map bO,.O false<|b.map cS] (.O false<|r.map cS):=by unfold ao at O;refine eO 27 WV ?_;refine gr ?_;refine gr ?_;refine gr ?_;refine dJ (tm':=fr 27 [(0,.iM bO a),(1,.iM cS b),(5,.iM cS []),(6,.i6 0)]) (Gh.trans (Gh.sub (l':=[(0,.iM bO a),(1,.iM cS b),(5,.J),(6,.i6 0)]) ⟨rfl,rfl,rfl,rfl,trivial⟩)<|Gh.sC (l':=[(0,.iM bO a),(1,.iM cS b),(5,.iM cS []),(6,.i6 0)])<|.cons (.refl _)<|.cons (.refl _)<|.cons (.nil false)<|.cons (.refl _) .nil) NZ ?_;refine BV (QC a b n) (fun d c=>[(0,.iM bO a),(1,.iM cS b),(5,.iM cS d),(6,.i6 c)]) (fun _ _=>⟨[],0⟩) (pR fu (fun f=>[(5,.iM cS f)]) fun _=>⟨[],0⟩) O (tW ?_) ?_;intro f O;unfold fu at O;exact gx O;intro m d c O;unfold QC at O;refine gG O ?_ ?_<;>intro s O;obtain⟨l,i,j,k,O⟩:=c6 O;refine gI i ?_;refine aM rfl (pC (Nd n a l j k) _) sW ?_;refine gn ?_;refine yd r (Wn c<|QC a b n m) (fun e=>[(0,.iM bO a),(1,.iM cS b),(5,.iM cS e),(6,.i6 c)]) (fun _=>⟨[],0⟩) ?_ ?_;intro e O;unfold Wn at O;exact wx O;refine cF O ?_ ?_<;>intro q O;obtain⟨o,h,g,p,O⟩:=c6 O;refine gI h ?_;refine aM rfl (pC (Mv n d o g p) _) sX ?_;exact wx O;exact wx O;exact wx O
def de  (a:X (X RX)):A ((X<|X RX)):=
 some a
def UV(n:Nat)(a:X (X RX)):Nat->(X<|X RX)->Int->A ((X<|X RX))
 |0,_,_=>none|e+1,c,b=>cond (decide (b<(a.length:Int))) (a8 (aC a b) fun d=>a8 (PU n c d) fun f=>(UV n a e) f<|i64.wrap<|b+1) (de c)
def Vw(b:Int)(M?:Int->(X<|X RX)->A ((X<|X RX)))(a:X (X RX)):A ((X<|X RX)):=
 M? (i64.wrap<|b+1) a
def db(b:Int)(a:Int->(X<|X RX)->A ((X<|X RX)))(c:X (X RX)):A ((X<|X RX)):=
 a (i64.wrap<|b+1) c
def Q8(n:Nat)(e:Int)(d:Int->(X<|X RX)->A ((X<|X RX)))(b:bE):Nat->Int->(X<|X RX)->A ((X<|X RX))
 |0,_,_=>none|f+1,c,a=>
  cond (decide (c<(b.E6.length:Int))) (a8 (aC b.E6 c) fun g=>
   a8 (HB n a g) fun h=>cond (!h) (a8 (aC b.E6 c) fun i=>
    aE ((a.length+1)*16<=140737488355328/\a.length+1<=140737488355328) (
    Vw c (Q8 n e d b f) (a++[i])))<|Vw c (Q8 n e d b f) a) (db e d a)
def dg(n:Nat)(a:X (X RX)):A ((X<|X RX)):=
 UV n a n [] 0
def NQ(c:X bE)(n:Nat):Nat->Int->(X<|X RX)->A ((X<|X RX))
 |0,_,_=>none|g+1,b,a=>
  cond (decide (b<(a.length:Int))) (a8 (aC a b) fun d=>
   a8 (JE n c d) fun f=>
   a8 (aC c f) fun e=>
   Q8 n b (NQ c n g) e n 0 a) (dg n a)
def Uv(n:Nat)(a:X bE)(b:X RX):A ((X<|X RX)):=
 a8 (JE n a b) fun c=>cond (decide (c<0)) (some []) (NQ a n n 0<|[b])
theorem qq6(n:Nat)(b:X bE)(i:X RX)(r:(X<|X RX))(O:Uv n b i=some r):dL prog 161 [.O false<|b.map bO,.str i] (.O false<|r.map cS):=by unfold Uv at O;refine eO 66 WU ?_;obtain⟨P,K,O⟩:=aK O;refine go ?_;refine aM rfl (pC (Nd n b i P K) _) sW ?_;refine gF O ?_ ?_<;>intro V O;refine go ?_;obtain rfl:=sI O;exact rT (us:=[.J]) (u:=.O false []) (eL rfl (eB)) wR;refine go ?_;refine RS.step (u:=.vl 0 0 0<|[i].length) (Y':=⟨[(0,.bv cS ([i]) 9 1 0)],1⟩) rfl (fI.kA (cs:=(List.map cS [i]).flatten) cf rfl kX.h K9.h rfl rfl rfl rfl rfl rfl rfl rfl) rfl rfl ?_;refine go ?_;refine nN (a3:=0) (fun m c g _=>NQ b n m c g) (fun c g l=>[(0,.iM bO b),(5,.vl 0 l 0 g.length),(6,.i6 c)]) (fun _ g l=>⟨nD g l,1⟩) (kW (fun a _=>dg n a) (fun a d=>[(5,.vl 0 d 0 a.length)]) fun a d=>⟨nD a d,1⟩) O (mR ?_) ?_;intro a d O;unfold dg at O;refine gr ?_;refine gr ?_;refine dJ (tm':=fr 66 [(5,.vl 0 d 0 a.length),(9,.iM cS []),(10,.i6 0)]) (Gh.trans (Gh.sub (l':=[(5,.vl 0 d 0 a.length),(9,.J),(10,.i6 0)]) ⟨rfl,rfl,rfl,trivial⟩)<|Gh.sC (l':=[(5,.vl 0 d 0 a.length),(9,.iM cS []),(10,.i6 0)])<|.cons (.refl _)<|.cons (.nil false)<|.cons (.refl _) .nil) NZ ?_;refine BV (UV n a) (fun v y=>[(5,.vl 0 d 0 a.length),(9,.iM cS v),(10,.i6 y)]) (fun _ _=>⟨nD a d,1⟩) (pR de (fun B=>[(9,.iM cS B)]) fun _=>⟨nD a d,1⟩) O (tW ?_) ?_;intro B O;unfold de at O;exact gx O;intro W v y O;unfold UV at O;refine gG O ?_ ?_<;>intro Z O;obtain⟨E,z,Q,N,O⟩:=c6 O;refine go ?_;refine aX rfl (eM rfl rfl (jS cS kX.h (bG K9.h) cg PA (vo rfl) z)) ?_;refine aX rfl (CF cS (fun x=>.str x) MS.h rfl (fun _=>rfl) rfl rfl z) (aM rfl (pC (Mv n v E Q N) _) sX ?_);exact wx O;exact wx O;intro w c g l O;unfold NQ at O;refine gG O ?_ ?_<;>intro S O;obtain⟨C,A,G,D,o,F,O⟩:=pH O;refine go ?_;refine aX rfl (eM rfl rfl (jS cS kX.h (bG K9.h) cg PA (vo rfl) A)) ?_;refine aX rfl (CF cS (fun x=>.str x) MS.h rfl (fun _=>rfl) rfl rfl A) (aM rfl (pC (Nd n b C G D) _) sW ?_);refine dO F ?_;refine go ?_;refine nN (a3:=l) (fun m j e _=>Q8 n c (NQ b n w) o m j e) (fun j e p=>[(0,.iM bO b),(5,.vl 0 p 0 e.length),(6,.i6 c),(7,.iM cS o.E6),(8,.i6 j)]) (fun _ e p=>⟨nD e p,1⟩) (kW (fun k _=>db c (NQ b n w) k) (fun k q=>[(0,.iM bO b),(5,.vl 0 q 0 k.length),(6,.i6 c)]) fun k q=>⟨nD k q,1⟩) O (mR ?_) ?_;intro k q O;unfold db at O;exact wx O;intro M j e p O;unfold Q8 at O;refine gG O ?_ ?_<;>intro Y O;obtain⟨H,J,I,t,O⟩:=c6 O;refine gI J ?_;refine aM rfl (vw (Q2 n e H I t)<|rD 0 1) nK ?_;refine gn ?_;refine M7 r (fun f _=>Vw j (Q8 n c (NQ b n w) o M) f) (fun f s=>[(0,.iM bO b),(5,.vl 0 s 0 f.length),(6,.i6 c),(7,.iM cS o.E6),(8,.i6 j)]) (fun f s=>⟨nD f s,1⟩) ?_ ?_;intro f s O;unfold Vw at O;exact wx O;refine cF O ?_ ?_<;>intro L O;obtain⟨U,R,O⟩:=aK O;obtain⟨T,O⟩:=bY O;refine gI R ?_;refine cE ?_;refine cE ?_;exact wx O;exact wx O;exact wx O;exact wx O
def Wm(b:Int)(a:Int->(X<|X RX)->A ((X<|X RX)))(c:X (X RX)):A ((X<|X RX)):=
 a (i64.wrap<|b+1) c
def fj(e:(X<|X RX))(b:Int)(a:X (X RX))(c:Int->(X<|X RX)->A ((X<|X RX)))(d:Rl):A ((X<|X RX)):=
 cond d (a8 (aC e b) fun f=>
  aE ((a.length+1)*16<=140737488355328/\a.length+1<=140737488355328) (
  Wm b c (a++[f]))) (Wm b c a)
def Ct(n:Nat)(b:(X<|X RX))(d:Int)(g:X (X RX))(f:Int->(X<|X RX)->A ((X<|X RX)))(h:(X<|X RX)):Nat->Rl->Int->A ((X<|X RX))
 |0,_,_=>none|j+1,e,a=>cond (decide (a<(b.length:Int))) (a8 (cond e (cond (a==d) (some true)<|a8 (aC b a) fun i=>a8 (HB n h i) fun Q? =>some<|!Q?)<|some false) fun c=>(Ct n b d g f h j) c<|i64.wrap<|a+1) (fj b d g f e)
def fk  (a:X (X RX)):A ((X<|X RX)):=
 some a
def JH(d:X bE)(n:Nat)(a:(X<|X RX)):Nat->Int->(X<|X RX)->A ((X<|X RX))
 |0,_,_=>none|f+1,b,c=>
  cond (decide (b<(a.length:Int))) (a8 (aC a b) fun g=>
   a8 (Uv n d g) fun e=>
   Ct n a b c (JH d n a f) e n true 0) (fk c)
def Nl(n:Nat)(a:X bE)(b:X (X RX)):A ((X<|X RX)):=
 a8 (ao n a b) fun c=>
 JH a n c n 0 ([]:X (X RX))
theorem qfe(n:Nat)(b:X bE)(p:X (X RX))(r:(X<|X RX))(O:Nl n b p=some r):dL prog 131 [.O false<|b.map bO,.O false<|p.map cS] (.O false<|r.map cS):=by
 unfold Nl at O;refine eO 56 LM ?_;obtain⟨d,A,O⟩:=aK O;refine go ?_;refine aM rfl (pC (qks n b p d A) _) WV ?_;refine gr ?_;refine gV 5 9 1 1 ?_;refine nN (a3:=0) (fun m e a _=>JH b n d m e a) (fun e a f=>[(0,.iM bO b),(5,.vl 0 f 0 a.length),(6,.iM cS d),(7,.i6 e)]) (fun _ a f=>⟨nD a f,1⟩) (kW (fun g _=>fk g) (fun g i=>[(5,.vl 0 i 0 g.length)]) fun g i=>⟨nD g i,1⟩) O (mR ?_) ?_;intro g i O;unfold fk at O;refine go ?_;obtain rfl:=sI O;exact rT (us:=[.vl 0 i 0 g.length]) (u:=.iM cS g) (eL rfl (eB))<|fR 0 1;intro o e a f O;unfold JH at O;refine gG O ?_ ?_<;>intro I O;obtain⟨C,y,j,B,O⟩:=c6 O;refine gI y ?_;refine aM rfl (pC (qq6 n b C j B) _) WU ?_;refine go ?_;refine BV (Ct n d e a (JH b n d o) j) (fun s q=>[(0,.iM bO b),(5,.vl 0 f 0 a.length),(6,.iM cS d),(7,.i6 e),(8,.iM cS j),(9,.bool s),(10,.i6 q)]) (fun _ _=>⟨nD a f,1⟩) (pR (fj d e a<|JH b n d o) (fun t=>[(0,.iM bO b),(5,.vl 0 f 0 a.length),(6,.iM cS d),(7,.i6 e),(9,.bool t)]) fun _=>⟨nD a f,1⟩) O (tW ?_) ?_;intro t O;unfold fj at O;refine gr ?_;refine M7 r (fun h _=>Wm e (JH b n d o) h) (fun h k=>[(0,.iM bO b),(5,.vl 0 k 0 h.length),(6,.iM cS d),(7,.i6 e)]) (fun h k=>⟨nD h k,1⟩) ?_ ?_;intro h k O;unfold Wm at O;exact wx O;refine cF O ?_ ?_<;>intro F O;obtain⟨K,E,O⟩:=aK O;obtain⟨G,O⟩:=bY O;refine gI E ?_;refine cE ?_;refine cE ?_;exact wx O;exact wx O;intro J s q O;unfold Ct at O;refine gG O ?_ ?_<;>intro H O;obtain⟨l,c,O⟩:=aK O;refine gn ?_;refine kI [(0,.iM bO b),(5,.vl 0 f 0 a.length),(6,.iM cS d),(7,.i6 e),(8,.iM cS j),(9,.bool l),(10,.i6 q)] ⟨nD a f,1⟩ ?_ ?_;exact wx O;refine go ?_;obtain⟨D,c⟩|⟨D,c⟩:=gB c;refine go ?_;obtain⟨w,c⟩|⟨w,c⟩:=gB c;exact gy c;obtain⟨v,x,c⟩:=aK c;obtain⟨Q?,z,c⟩:=aK c;obtain rfl:=sI c;refine gI x ?_;refine aM rfl (pC (Q2 n j v Q? z) _) nK ?_;refine go ?_;exact mL;obtain rfl:=sI c;refine go ?_
 repeat refine RS.no (MY rfl rfl rfl) rfl rfl ?_
 refine go ?_;exact mL;exact wx O;exact wx O
def Vo(d:(X<|X RX))(c:Int)(e:(X RX)->Int->A ((X RX)))(b:X RX):A ((X RX)):=
 a8 (aC d c) fun a=>
 aE (b.length+a.length<=9223372036854775807) (
 e (b++a) (i64.wrap<|c+1))
def tu  (a:X RX):A ((X RX)):=
 some a
def NK(a:(X<|X RX)):Nat->(X RX)->Int->A ((X RX))
 |0,_,_=>none|d+1,b,c=>
  cond (decide (c<(a.length:Int))) (cond (decide (c>0)) (aE (b.length+([38]).length<=9223372036854775807) (
    Vo a c (NK a d) (b++[38])))<|Vo a c (NK a d) b) (tu b)
def Vn(b:Int)(a:Int->(X<|X RX)->A ((X RX)))(c:X (X RX)):A ((X RX)):=
 a (i64.wrap<|b+1) c
def tw(c:X bE)(n:Nat)(a:X (X RX)):A ((X RX)):=
 a8 (Nl n c a) fun b=>
 NK b n [] 0
def Q0(e:X bE)(c:X (X RX))(f:X (X Int))(d:X Int)(n:Nat):Nat->Int->(X<|X RX)->A ((X RX))
 |0,_,_=>none|h+1,a,b=>
  cond (decide (a<(c.length:Int))) (a8 (aC f a) fun l=>
   a8 (Uw n l d) fun k=>cond k (a8 (aC c a) fun j=>some j) (a8 (Mr n d a) fun i=>cond i (a8 (aC c a) fun g=>
     aE ((b.length+1)*16<=140737488355328/\b.length+1<=140737488355328) (
     Vn a (Q0 e c f d n h) (b++[g])))<|Vn a (Q0 e c f d n h) b)) (tw e n b)
def Ud(n:Nat)(a:X bE)(b:X (X RX))(c:X (X Int))(d:X Int):A ((X RX)):=
 Q0 a b c d n n 0 ([]:X (X RX))
theorem qsn(n:Nat)(a:X bE)(g:X (X RX))(h:X (X Int))(c:X Int)(r:(X RX))(O:Ud n a g h c=some r):dL prog 94 [.O false<|a.map bO,.O false<|g.map cS,.O false<|List.map (cL<|cI .u64) h,.O false<|c.map<|cI .u64] (.str r):=by unfold Ud at O;refine vi 59 xk ?_;refine gr ?_;refine gr ?_;refine gr ?_;refine gV 9 9 1 1 ?_;refine nN (a3:=0) (fun m d e _=>Q0 a g h c n m d e) (fun d e o=>[(0,.iM bO a),(1,.iM cS g),(2,.iM (cL<|cI .u64) h),(3,.iM (cI .u64) c),(9,.vl 0 o 0 e.length),(10,.i6 d)]) (fun _ e o=>⟨nD e o,1⟩) (kW (fun b _=>tw a n b) (fun b j=>[(0,.iM bO a),(9,.vl 0 j 0 b.length)]) fun b j=>⟨nD b j,1⟩) O (mR ?_) ?_;intro b j O;unfold tw at O;refine gn ?_;refine dJ (tm':=fr 59 [(0,.iM bO a),(9,.iM cS b)]) (Y':=⟨[],1⟩) (Gh.trans (Gh.sub (l':=[(0,.iM bO a),(9,.vl 0 j 0 b.length)]) ⟨rfl,rfl,trivial⟩)<|SP 0 1) NZ ?_;obtain⟨f,B,O⟩:=aK O;refine go ?_;refine aM rfl (pC (qfe n a b f B) _) LM ?_;refine go ?_;refine BV (NK f) (fun p l=>[(9,.iM cS f),(11,.str p),(12,.i6 l)]) (fun _ _=>⟨[],1⟩) (pR tu (fun t=>[(11,.str t)]) fun _=>⟨[],1⟩) O (tW ?_) ?_;intro t O;unfold tu at O;exact gx O;intro E p l O;unfold NK at O;refine gG O ?_ ?_<;>intro R O;refine gr ?_;refine yd r (Vo f l<|NK f E) (fun q=>[(9,.iM cS f),(11,.str q),(12,.i6 l)]) (fun _=>⟨[],1⟩) ?_ ?_;intro q O;unfold Vo at O;obtain⟨v,H,O⟩:=aK O;obtain⟨J,O⟩:=bY O;refine gI H ?_;refine aX (u:=.str<|q++v) rfl (GZ rfl rfl (z96 J) rfl) ?_;exact wx O;refine cF O ?_ ?_<;>intro P O;obtain⟨y,O⟩:=bY O;refine go ?_;refine aX (u:=.str<|p++[38]) rfl (GZ rfl rfl (z96 y) rfl) ?_;exact wx O;exact wx O;exact wx O;intro D d e o O;unfold Q0 at O;refine gG O ?_ ?_<;>intro Q O;obtain⟨G,F,C,z,O⟩:=c6 O;refine gI F ?_;refine aM rfl (pC (qq4 n G c C z) _) X4 ?_;refine gF O ?_ ?_<;>intro M O;obtain⟨L,x,O⟩:=aK O;refine go ?_;refine dO x ?_;exact gx O;obtain⟨w,A,O⟩:=aK O;refine go ?_;refine aM rfl (pC (qmm n c d w A) _) LN ?_;refine gn ?_;refine M7 r (fun i _=>Vn d (Q0 a g h c n D) i) (fun i k=>[(0,.iM bO a),(1,.iM cS g),(2,.iM (cL<|cI .u64) h),(3,.iM (cI .u64) c),(9,.vl 0 k 0 i.length),(10,.i6 d)]) (fun i k=>⟨nD i k,1⟩) ?_ ?_;intro i k O;unfold Vn at O;exact wx O;refine cF O ?_ ?_<;>intro K O;obtain⟨I,s,O⟩:=aK O;obtain⟨N,O⟩:=bY O;refine gI s ?_;refine cE ?_;refine cE ?_;exact wx O;exact wx O;exact wx O
def Vq(c:Int)(a:Int->(X Int)->A ((X Int)))(b:X Int):A ((X Int)):=
 a (i64.wrap<|c+1) b
def G'  (a:X Int):A ((X Int)):=
 some a
def Q3(c:X Int)(n:Nat):Nat->Int->(X Int)->A ((X Int))
 |0,_,_=>none|d+1,b,a=>
  cond (decide (b<(i64.wrap<|64*(c.length:Int)))) (a8 (Mr n c b) fun e=>cond e (aE ((a.length+1)*8<=140737488355328/\a.length+1<=140737488355328) (
    Vq b (Q3 c n d) (a++[b])))<|Vq b (Q3 c n d) a) (G' a)
def bj(n:Nat)(a:X Int):A ((X Int)):=
 Q3 a n n 0 ([]:X Int)
theorem qsk(n:Nat)(b:X Int)(r:(X Int))(O:bj n b=some r):dL prog 162 [.O false<|b.map<|cI .u64] (.O false<|r.map<|cI .i64):=by unfold bj at O;refine m6 20 WT ?_;refine gr ?_;refine gr ?_;refine gr ?_;refine gV 3 3 1 1 ?_;refine nN (a3:=0) (fun m c e _=>Q3 b n m c e) (fun c e t8=>[(0,.iM (cI .u64) b),(3,.vl 0 t8 0 e.length),(4,.i6 c)]) (fun _ e t8=>⟨F7 e t8,1⟩) (kW (fun a _=>G' a) (fun a f=>[(3,.vl 0 f 0 a.length)]) fun a f=>⟨F7 a f,1⟩) O (mR ?_) ?_;intro a f O;unfold G' at O;refine go ?_;obtain rfl:=sI O;exact rT (us:=[.vl 0 f 0 a.length]) (u:=.iM (cI .i64) a) (eL rfl (eB))<|fR 0 1;intro j c e t8 O;unfold Q3 at O;refine gG O ?_ ?_<;>intro o O;obtain⟨i,h,O⟩:=aK O;refine go ?_;refine aM rfl (pC (qmm n b c i h) _) LN ?_;refine gn ?_;refine M7 r (fun d _=>Vq c (Q3 b n j) d) (fun d g=>[(0,.iM (cI .u64) b),(3,.vl 0 g 0 d.length),(4,.i6 c)]) (fun d g=>⟨F7 d g,1⟩) ?_ ?_;intro d g O;unfold Vq at O;exact wx O;refine cF O ?_ ?_<;>intro l O;obtain⟨k,O⟩:=bY O;refine go ?_;refine cE ?_;refine cE ?_;exact wx O;exact wx O;exact wx O
def Mx(n:Nat)(a:X Int):A (Int):=
 a8 (bj n a) fun b=>some (b.length:Int)
theorem qij(n:Nat)(a:X Int)(r:Int)(O:Mx n a=some r):dL prog 132 [.O false<|a.map<|cI .u64] (.int .i64 r):=by unfold Mx at O;refine m6 6 LL ?_;obtain⟨c,b,O⟩:=aK O;refine go ?_;refine aM rfl (pC (qsk n a c b) _) WT ?_;exact gx O
def Vf(n:Nat)(a:dI)(b:dI):A (Rl):=
 a8 (Mx n a.Code) fun c=>
 a8 (Mx n b.Code) fun d=>
 a8 (cond (decide (c>d)) (some true)<|cond (c==d) (some<|lE a.Name b.Name)<|some false) fun e=>some e
theorem qni(n:Nat)(b:dI)(c:dI)(r:Rl)(O:Vf n b c=some r):dL prog 95 [.agg<|fC b,.agg<|fC c] (.bool r):=by
 unfold Vf at O;refine eO 28 xj ?_;obtain⟨i,e,O⟩:=aK O;refine go ?_;refine aM rfl (pC (qij n b.Code i e) _) LL ?_;obtain⟨j,f,O⟩:=aK O;refine go ?_;refine aM rfl (pC (qij n c.Code j f) _) LL ?_;obtain⟨d,a,O⟩:=aK O;refine gn ?_;refine kI [(4,.bool d)] ⟨[(1,.row (fC c) 143),(0,.row (fC b) 143)],2⟩ ?_ ?_;exact gx O;refine go ?_;obtain⟨g,a⟩|⟨g,a⟩:=gB a;obtain rfl:=sI a;refine go ?_
 repeat refine RS.no (MY rfl rfl rfl) rfl rfl ?_
 refine go ?_;exact mL;refine go ?_;obtain⟨h,a⟩|⟨h,a⟩:=gB a;obtain rfl:=sI a;refine go ?_;refine RS.w (u:=.bool<|lE b.Name c.Name) rfl (GZ rfl rfl rfl rfl) ?_;refine go ?_;exact mL;exact gy a
def Vt(d:Int)(a:X dI)(e:Int->(X dI)->A ((X dI)×Int))(b:(X RX))(c:X Int)(z50:Int):A ((X dI)×Int):=
 aE ((0:Int)<=z50/\z50<=((a.length:Nat):Int)) (
 aE (0+z50.toNat<=a.length) (
 aE (((a.drop 0).take z50.toNat).length*40<=140737488355328/\((a.drop 0).take z50.toNat).length<=140737488355328) (
 aE ((((a.drop 0).take z50.toNat).length+1)*40<=140737488355328/\((a.drop 0).take z50.toNat).length+1<=140737488355328) (
 aE ((0:Int)<=z50/\z50<=((a.length:Nat):Int)) (
 aE ((0+z50.toNat)+(a.length-z50.toNat)<=a.length) (
 aE (((((a.drop 0).take z50.toNat)++[(dI.mk b c)]).length+((a.drop<|0+z50.toNat).take (a.length-z50.toNat)).length)*40<=140737488355328/\(((a.drop 0).take z50.toNat)++[(dI.mk b c)]).length+((a.drop<|0+z50.toNat).take (a.length-z50.toNat)).length<=140737488355328) (
 e (i64.wrap<|d+1) ((((a.drop 0).take z50.toNat)++[(dI.mk b c)])++((a.drop<|0+z50.toNat).take (a.length-z50.toNat))))))))))
def Ns(n:Nat)(f:Int)(c:X dI)(g:Int->(X dI)->A ((X dI)×Int))(d:(X RX))(e:X Int):Nat->Int->A ((X dI)×Int)
 |0,_=>none|i+1,a=>a8 (cond (decide (a>0)) (a8 (aC c<|i64.wrap<|a-1) fun h=>a8 (Vf n (dI.mk d e) h) fun O? =>some O?)<|some false) fun b=>cond b ((Ns n f c g d e i)<|i64.wrap<|a-1) (Vt f c g d e a)
def af  (a:X dI):A ((X dI)×Int):=
 some (a,0)
def Q5(e:X bE)(n:Nat)(f:(X<|X RX))(d:X (X Int))(a:(X<|X Int)):Nat->Int->(X dI)->A ((X dI)×Int)
 |0,_,_=>none|h+1,b,c=>
  cond (decide (b<(a.length:Int))) (a8 (aC a b) fun j=>
   a8 (Ud n e f d j) fun g=>
   a8 (aC a b) fun i=>
   Ns n b c (Q5 e n f d a h) g i n (c.length:Int)) (af c)
def ah(c:X bE)(n:Nat)(d:(X<|X RX))(a:X (X Int)):A ((X dI)×Int):=
 a8 (Ve n a) fun b=>cond (decide ((b.length:Int)>256)) (some ([],7)) (Q5 c n d a b n 0 ([]:X dI))
def Ch(d:X bE)(n:Nat)(a:(X<|X RX)):Nat->Int->(X<|X Int)->A ((X dI)×Int)
 |0,_,_=>none|e+1,c,b=>
  cond (decide (c<(a.length:Int))) (a8 (aC a c) fun r? =>
   a8 (Ue n d a r?) fun N? =>
   aE ((b.length+1)*24<=140737488355328/\b.length+1<=140737488355328) ((Ch d n a e) (i64.wrap<|c+1)<|b++[N?])) (ah d n a b)
def PV(n:Nat)(a:X bE):A ((X dI)×Int):=
 a8 (Ut n a) fun b=>cond (b != 0) (some ([],b)) (a8 (Us n a) fun c=>Ch a n c n 0 ([]:X (X Int)))
theorem A'(n:Nat)(b:X bE)(r:(X dI)×Int)(O:PV n b=some r):dL prog 58 [.O false<|b.map bO] (.a7 [.O false<|r.1.map fC,.int .i64 r.2]):=by unfold PV at O;refine m6 92 LA ?_;obtain⟨C,P,O⟩:=aK O;refine go ?_;refine aM rfl (pC (qq8 n b C P) _) xn ?_;refine gF O ?_ ?_<;>intro Y O;refine go ?_;obtain rfl:=sI O;exact rT (us:=[.J,.i6 C]) (u:=.a7 [.O false [],.i6 C]) (eL rfl (eL rfl (eB))) wR;obtain⟨e,Q,O⟩:=aK O;refine go ?_;refine aM rfl (pC (qil n b e Q) _) Hn ?_;refine gr ?_;refine gr ?_;refine gV 6 141 1 1 ?_;refine nN (a3:=0) (fun m s o _=>Ch b n e m s o) (fun s o t=>[(0,.iM bO b),(5,.iM cS e),(6,.vl 0 t 0 o.length),(7,.i6 s)]) (fun _ o t=>⟨[(0,.bv (cL<|cI .u64) o 141 1 t)],1⟩) (kW (fun c _=>ah b n e c) (fun c q=>[(0,.iM bO b),(5,.iM cS e),(6,.vl 0 q 0 c.length)]) fun c q=>⟨[(0,.bv (cL<|cI .u64) c 141 1 q)],1⟩) O (mR ?_) ?_;intro c q O;unfold ah at O;refine gn ?_;refine dJ (tm':=fr 92 [(0,.iM bO b),(5,.iM cS e),(6,.iM (cL<|cI .u64) c)]) (Y':=⟨[],1⟩) (Gh.trans (Gh.sub (l':=[(0,.iM bO b),(5,.iM cS e),(6,.vl 0 q 0 c.length)]) ⟨rfl,rfl,rfl,trivial⟩)<|SP 0 1) NZ ?_;obtain⟨j,N,O⟩:=aK O;refine go ?_;refine aM rfl (pC (qnj n c j N) _) xl ?_;refine gF O ?_ ?_<;>intro Z O;refine go ?_;obtain rfl:=sI O;exact rT (us:=[.J,.i6 7]) (u:=.a7 [.O false [],.i6 7]) (eL rfl (eL rfl (eB))) wR;refine gr ?_;refine gr ?_;refine gV 9 143 2 2 ?_;refine nN (a3:=0) (fun m i a _=>Q5 b n e c j m i a) (fun i a g=>[(0,.iM bO b),(5,.iM cS e),(6,.iM (cL<|cI .u64) c),(8,.iM (cL<|cI .u64) j),(9,.vl 1 g 0 a.length),(10,.i6 i)]) (fun _ a g=>⟨[(1,.bv fC a 143 2 g)],2⟩) (kW (fun l _=>af l) (fun l p=>[(9,.vl 1 p 0 l.length)]) fun l p=>⟨[(1,.bv fC l 143 2 p)],2⟩) O (mR ?_) ?_;intro l p O;unfold af at O;refine go ?_;obtain rfl:=sI O;exact rT (us:=[.vl 1 p 0 l.length,.i6 0]) (u:=.a7 [.iM fC l,.i6 0]) (eL rfl (eL rfl (eB)))<|fR 1 2;intro B i a g O;unfold Q5 at O;refine gG O ?_ ?_<;>intro qI O;obtain⟨U,G,d,J,f,F,O⟩:=pH O;refine go ?_;refine dE [(0,13),(1,13),(2,13),(3,13),(4,13),(5,13),(6,13),(8,13),(9,13),(10,13),(11,13),(12,13)] ?_;refine gJ G ?_;refine eA rfl (pC<|qsn n b e c U d J) xk ?_;refine gJ F ?_;refine dS ?_;refine tC ?_;refine bC ⟨by kernel_rfl,⟨kN rfl,⟨kN rfl,⟨kN rfl,⟨kN rfl,⟨kN rfl,⟨eM rfl rfl (Lg (cL<|cI .u64) rO.h (bG pZ.h) (Le<|cI .u64) G rfl),⟨Sb g8.h rfl rfl rfl,⟨kN rfl,⟨kN rfl,⟨eM rfl rfl (Lg (cL<|cI .u64) rO.h (bG pZ.h) (Le<|cI .u64) F rfl),⟨Sb g8.h rfl rfl rfl,⟨d? vk.h rfl rfl rfl,trivial⟩⟩⟩⟩⟩⟩⟩⟩⟩⟩⟩⟩,?_⟩;refine go ?_;refine oX (Ns n i a (Q5 b n e c j B) d f) (fun v=>[(0,.iM bO b),(5,.iM cS e),(6,.iM (cL<|cI .u64) c),(8,.iM (cL<|cI .u64) j),(9,.vl 1 g 0 a.length),(10,.i6 i),(11,.ptr 2 0 0),(12,.i6 v)]) (fun _=>⟨Tj (.str d) f a g,3⟩) (pR (Vt i a (Q5 b n e c j B) d f) (fun z50=>[(0,.iM bO b),(5,.iM cS e),(6,.iM (cL<|cI .u64) c),(8,.iM (cL<|cI .u64) j),(9,.vl 1 g 0 a.length),(10,.i6 i),(11,.ptr 2 0 0),(12,.i6 z50)]) fun _=>⟨Tj (.str d) f a g,3⟩) O (tW ?_) ?_;intro z50 O;unfold Vt at O;obtain⟨I,O⟩:=bY O;obtain⟨M,O⟩:=bY O;obtain⟨y,O⟩:=bY O;refine go ?_;refine aX (u:=.vl 1 g 0 z50.toNat) rfl (F6 rfl GT (GS rfl) (TM fC rP.h (bG sF.h) UO (vo rfl) (la<|Wy _)<|Si I.1 I.2)) (aX (u:=.vl 3 0 0<|((a.drop 0).take z50.toNat).length) (Y':=⟨(3,.bv fC ((a.drop 0).take z50.toNat) 143 2 0)::Tj (.str d) f a g,4⟩) rfl (rG rfl rfl rfl rfl (Yy fC ((a.drop 0).take z50.toNat) rP.h rP.h sF.h rfl (mz fC UO (vo rfl) M) y)) ?_);obtain⟨xd,O⟩:=bY O;refine go ?_;refine cE ?_;refine cE ?_;obtain⟨E,O⟩:=bY O;obtain⟨K,O⟩:=bY O;obtain⟨W,O⟩:=bY O;refine go ?_;refine aX (u:=.vl 1 g (0+z50.toNat)<|a.length-z50.toNat) rfl (F6 rfl (GS rfl) GT (TM fC rP.h (bG sF.h) UO (vo rfl) (la<|Wy _)<|ur E.1 E.2)) (aX (u:=.vl 3 2 0<|((((a.drop 0).take z50.toNat)++[(dI.mk d f)])++((a.drop<|0+z50.toNat).take (a.length-z50.toNat))).length) (Y':=⟨(4,.row [.str d,.iM (cI .u64) f] 143)::(3,.bv fC ((((a.drop 0).take z50.toNat)++[(dI.mk d f)])++((a.drop<|0+z50.toNat).take (a.length-z50.toNat))) 143 2 2)::Tj (.str d) f a g,5⟩) rfl (rG rfl rfl rfl rfl (CE fC ((a.drop<|0+z50.toNat).take (a.length-z50.toNat)) rP.h rP.h sF.h rfl UO rfl (mz fC UO (vo rfl) K) W)) ?_);refine go ?_;exact⟨B,_,_,zN _,⟨(i64.wrap<|i+1),((((a.drop 0).take z50.toNat)++[(dI.mk d f)])++((a.drop<|0+z50.toNat).take (a.length-z50.toNat))),2,O,rfl,rfl⟩,NZ,Gh.trans (Gh.sub (l':=[(0,.iM bO b),(5,.iM cS e),(6,.iM (cL<|cI .u64) c),(8,.iM (cL<|cI .u64) j),(9,.vl 3 2 0<|((((a.drop 0).take z50.toNat)++[(dI.mk d f)])++((a.drop<|0+z50.toNat).take (a.length-z50.toNat))).length),(10,.i6<|i64.wrap<|i+1)]) ⟨rfl,rfl,rfl,rfl,rfl,rfl,trivial⟩)<|Gh.trans (Gh.mv (l':=[(0,.iM bO b),(5,.iM cS e),(6,.iM (cL<|cI .u64) c),(8,.iM (cL<|cI .u64) j),(9,.vl 1 2 0<|((((a.drop 0).take z50.toNat)++[(dI.mk d f)])++((a.drop<|0+z50.toNat).take (a.length-z50.toNat))).length),(10,.i6<|i64.wrap<|i+1)]) (h':=[(4,.row [.str d,.iM (cI .u64) f] 143),(1,.bv fC ((((a.drop 0).take z50.toNat)++[(dI.mk d f)])++((a.drop<|0+z50.toNat).take (a.length-z50.toNat))) 143 2 2),(2,.row [.str d,.iM (cI .u64) f] 143)]) 1 3 NZ rfl rfl (by simp only[rS,rU,eR,N9,BE,Nat.beq,zC,zD]) rfl (by simp only[vq,rB,TT,eR,rU,N9,Kz,BE,Nat.beq,zC,zD,lr]))<|OE (n1:=2) ⟨rfl,rfl,rfl,rfl,rfl,rfl,trivial⟩ rfl NZ ca⟩;intro m3 v O;unfold Ns at O;obtain⟨x,k,O⟩:=aK O;refine gn ?_;refine kI [(0,.iM bO b),(5,.iM cS e),(6,.iM (cL<|cI .u64) c),(8,.iM (cL<|cI .u64) j),(9,.vl 1 g 0 a.length),(10,.i6 i),(11,.ptr 2 0 0),(12,.i6 v),(73,.bool x)] ⟨Tj (.str d) f a g,3⟩ ?_ ?_;refine gG O ?_ ?_<;>intro R O;exact wx O;exact wx O;refine dE [] ?_;refine gd ?_;obtain⟨V,k⟩|⟨V,k⟩:=gB k;obtain⟨D,H,k⟩:=aK k;obtain⟨O?,L,k⟩:=aK k;obtain rfl:=sI k;refine gd ?_;refine RD.w rfl (eM rfl rfl (jS fC rP.h (bG sF.h) cg UO (vo rfl) H)) ?_;refine RD.w (u:=.agg<|fC D) rfl (Lf fC T9.h rfl (bG sF.h) UO rfl rfl H rfl) (eA rfl (pC<|qni n (dI.mk d f) D O? L) xj ?_);refine gd ?_;refine bC ⟨by kernel_rfl,trivial,?_⟩;refine go ?_;exact mL;obtain rfl:=sI k;refine gd ?_;refine bC ⟨by kernel_rfl,trivial,?_⟩;refine go ?_;exact mL;exact wx O;intro m1 s o t O;unfold Ch at O;refine gG O ?_ ?_<;>intro S O;obtain⟨r?,z,N?,A,O⟩:=c6 O;obtain⟨T,O⟩:=bY O;refine gI z ?_;refine aM rfl (pC (qsm n b e r? N? A) _) xm ?_;refine cE ?_;refine cE ?_;exact wx O;exact wx O
def Cb(n:Nat)(a:X RX):A (Rl):=
 a8 (My n a true) fun b=>some b
theorem qmk(n:Nat)(a:X RX)(r:Rl)(O:Cb n a=some r):dL prog 155 [.str a] (.bool r):=by unfold Cb at O;refine m6 5 WY ?_;obtain⟨c,b,O⟩:=aK O;refine go ?_;refine aM rfl (pC (qii n a true c b) _) LH ?_;exact gx O
def im(n:Nat)(e:(X<|X RX))(f:bE)(a:Int)(d:Int->A (Int)): A (Int):=
 a8 (aC f.E3 a) fun c=>
 a8 (HB n e c.Value) fun b=>cond (!b) (some 5) (d<|i64.wrap<|a+1)
def Og(n:Nat)(e:(X<|X RX))(b:bE)(a:Int)(d:Int->A (Int)):Nat->Int->A (Int)
 |0,_=>none|h+1,c=>cond (decide (c<a)) (a8 (aC b.E3 c) fun g=>a8 (aC b.E3 a) fun f=>cond (lX g.D9 f.D9) (some 4)<|(Og n e b a d h)<|i64.wrap<|c+1) (im n e b a d)
def io(b:Int)(a:Int->A (Int)): A (Int):=
 a (i64.wrap<|b+1)
def NU(n:Nat)(d:(X<|X RX))(e:Int)(c:Int->A (Int))(a:bE):Nat->Int->A (Int)
 |0,_=>none|g+1,b=>cond (decide (b<(a.E3.length:Int))) (a8 (aC a.E3 b) fun f=>a8 (Cb n f.D9) fun T? =>cond (!T?) (some 1)<|Og n d a b (NU n d e c a g) n 0) (io e c)
def ip: A (Int):=
 some 0
def FG(a:X bE)(n:Nat)(c:(X<|X RX)):Nat->Int->A (Int)
 |0,_=>none|d+1,b=>cond (decide (b<(a.length:Int))) (a8 (aC a b) fun e=>NU n c b (FG a n c d) e n 0) (ip)
def Wp(n:Nat)(a:X bE):A (Int):=
 a8 (Us n a) fun b=>
 FG a n b n 0
theorem qgd(n:Nat)(b:X bE)(r:Int)(O:Wp n b=some r):dL prog 115 [.O false<|b.map bO] (.int .i64 r):=by unfold Wp at O;refine m6 58 XC ?_;obtain⟨a,t,O⟩:=aK O;refine go ?_;refine aM rfl (pC (qil n b a t) _) Hn ?_;refine go ?_;refine oX (FG b n a) (fun c=>[(0,.iM bO b),(3,.iM cS a),(4,.i6 c)]) (fun _=>⟨[],0⟩) (qY ip [] ⟨[],0⟩) O (tX ?_) ?_;intro O;unfold ip at O;exact gx O;intro f c O;unfold FG at O;refine gG O ?_ ?_<;>intro A O;obtain⟨d,v,O⟩:=aK O;refine gI v ?_;refine oX (NU n a c (FG b n a f) d) (fun e=>[(0,.iM bO b),(3,.iM cS a),(4,.i6 c),(5,.iM lY d.E3),(6,.i6 e)]) (fun _=>⟨[],0⟩) (qY (io c<|FG b n a f) [(0,.iM bO b),(3,.iM cS a),(4,.i6 c)] ⟨[],0⟩) O (tX ?_) ?_;intro O;unfold io at O;exact wx O;intro g e O;unfold NU at O;refine gG O ?_ ?_<;>intro z O;obtain⟨o,w,T?,x,O⟩:=c6 O;refine gI w ?_;refine aM rfl (pC (qmk n o.D9 T? x) _) WY ?_;refine gF O ?_ ?_<;>intro D O;exact gx O;refine go ?_;refine oX (Og n a d e<|NU n a c (FG b n a f) d g) (fun h=>[(0,.iM bO b),(3,.iM cS a),(4,.i6 c),(5,.iM lY d.E3),(6,.i6 e),(7,.i6 h)]) (fun _=>⟨[],0⟩) (qY (im n a d e<|NU n a c (FG b n a f) d g) [(0,.iM bO b),(3,.iM cS a),(4,.i6 c),(5,.iM lY d.E3),(6,.i6 e)] ⟨[],0⟩) O (tX ?_) ?_;intro O;unfold im at O;obtain⟨s,j,l,k,O⟩:=c6 O;refine gI j ?_;refine aM rfl (pC (Q2 n a s.Value l k) _) nK ?_;refine gF O ?_ ?_<;>intro C O;exact gx O;exact wx O;intro B h O;unfold Og at O;refine gG O ?_ ?_<;>intro E O;obtain⟨q,p,m,i,O⟩:=c6 O;refine go ?_;refine dE [] ?_;refine gJ p ?_;refine iR i ?_;refine gd ?_;refine aQ (u:=.bool<|lX q.D9 m.D9) rfl (GZ rfl rfl rfl rfl) ?_;refine bC ⟨by kernel_rfl,trivial,?_⟩;refine gF O ?_ ?_<;>intro y O;exact gx O;exact wx O;exact wx O;exact wx O;exact wx O
def IP(c:Int)(a:(X<|X RX)->Int->A ((X<|X RX)))(b:X (X RX)):A ((X<|X RX)):=
 a b (i64.wrap<|c+1)
def Ce(c:X bE)(n:Nat)(a:Int)(e:(X<|X RX)->Int->A ((X<|X RX))):Nat->(X<|X RX)->Int->A ((X<|X RX))
 |0,_,_=>none|h+1,d,b=>
  a8 (aC c a) fun i=>cond (decide (b<(i.E3.length:Int))) (a8 (aC c a) fun g=>
   a8 (aC g.E3 b) fun j=>
   a8 (PU n d j.D9) fun f=>(Ce c n a e h) f<|i64.wrap<|b+1) (IP a e d)
def aa  (a:X (X RX)):A ((X<|X RX)):=
 some a
def NM(a:X bE)(n:Nat):Nat->(X<|X RX)->Int->A ((X<|X RX))
 |0,_,_=>none|d+1,b,c=>cond (decide (c<(a.length:Int))) (Ce a n c (NM a n d) n b 0) (aa b)
def Bt(n:Nat)(a:X bE):A ((X<|X RX)):=
 NM a n n [] 0
theorem qe6(n:Nat)(a:X bE)(r:(X<|X RX))(O:Bt n a=some r):dL prog 87 [.O false<|a.map bO] (.O false<|r.map cS):=by unfold Bt at O;refine m6 34 S4 ?_;refine gr ?_;refine gr ?_;refine gr ?_;refine dJ (tm':=fr 34 [(0,.iM bO a),(3,.iM cS []),(4,.i6 0)]) (Gh.trans (Gh.sub (l':=[(0,.iM bO a),(3,.J),(4,.i6 0)]) ⟨rfl,rfl,rfl,trivial⟩)<|Gh.sC (l':=[(0,.iM bO a),(3,.iM cS []),(4,.i6 0)])<|.cons (.refl _)<|.cons (.nil false)<|.cons (.refl _) .nil) NZ ?_;refine BV (NM a n) (fun f b=>[(0,.iM bO a),(3,.iM cS f),(4,.i6 b)]) (fun _ _=>⟨[],0⟩) (pR aa (fun g=>[(3,.iM cS g)]) fun _=>⟨[],0⟩) O (tW ?_) ?_;intro g O;unfold aa at O;exact gx O;intro h f b O;unfold NM at O;refine gG O ?_ ?_<;>intro s O;refine go ?_;refine BV (Ce a n b<|NM a n h) (fun c d=>[(0,.iM bO a),(3,.iM cS c),(4,.i6 b),(5,.i6 d)]) (fun _ _=>⟨[],0⟩) (pR (IP b<|NM a n h) (fun e=>[(0,.iM bO a),(3,.iM cS e),(4,.i6 b)]) fun _=>⟨[],0⟩) O (tW ?_) ?_;intro e O;unfold IP at O;exact wx O;intro t c d O;unfold Ce at O;obtain⟨u,j,O⟩:=aK O;refine go ?_;refine dO j ?_;refine gG O ?_ ?_<;>intro q O;obtain⟨p,m,o,l,i,k,O⟩:=pH O;refine gI m ?_;refine dO l ?_;refine go ?_;refine aM rfl (pC (Mv n c o.D9 i k) _) sX ?_;exact wx O;exact wx O;exact wx O
def V': A ((X RX)×Rl):=
 some ([],false)
def Cd(a:bE)(c:X RX):Nat->Int->A ((X RX)×Rl)
 |0,_=>none|e+1,b=>cond (decide (b<(a.E3.length:Int))) (a8 (aC a.E3 b) fun f=>cond (lX f.D9 c) (a8 (aC a.E3 b) fun d=>some (d.Value,true))<|(Cd a c e)<|i64.wrap<|b+1) (V')
def Up(n:Nat)(a:bE)(b:X RX):A ((X RX)×Rl):=
 Cd a b n 0
theorem qio(n:Nat)(a:bE)(b:X RX)(r:(X RX)×Rl)(O:Up n a b=some r):dL prog 117 [.agg<|bO a,.str b] (.a7 [.str r.1,.bool r.2]):=by unfold Up at O;refine eO 28 LQ ?_;refine go ?_;refine oX (Cd a b) (fun c=>[(1,.str b),(2,.ptr 0 0 0),(6,.i6 c)]) (fun _=>⟨[(0,.row (bO a) 153)],1⟩) (qY V' [] ⟨[(0,.row (bO a) 153)],1⟩) O (tX ?_) ?_;intro O;unfold V' at O;refine go ?_;obtain rfl:=sI O;exact MX rfl rfl rfl rfl rfl;intro j c O;unfold Cd at O;refine gG O ?_ ?_<;>intro i O;obtain⟨f,e,O⟩:=aK O;refine gI e ?_;refine aX (u:=.bool<|lX f.D9 b) rfl (GZ rfl rfl rfl rfl) ?_;refine gF O ?_ ?_<;>intro h O;obtain⟨g,d,O⟩:=aK O;refine gI d ?_;obtain rfl:=sI O;exact MX rfl rfl rfl rfl rfl;exact wx O;exact wx O
def UT(n:Nat)(a:X dI)(b:Int)(c:Int):A (Rl):=
 a8 (aC a c) fun e=>
 a8 (aC a b) fun f=>
 a8 (Bx n e.Code f.Code) fun d=>some d
theorem fi(n:Nat)(a:X dI)(b:Int)(c:Int)(r:Rl)(O:UT n a b c=some r):dL prog 96 [.O false<|a.map fC,.int .i64 b,.int .i64 c] (.bool r):=by unfold UT at O;refine HV 18 L9 ?_;obtain⟨h,d,i,e,g,f,O⟩:=pH O;refine go ?_;refine dE [] ?_;refine gJ d ?_;refine iR e ?_;refine gd ?_;refine eA rfl (pC<|qd0 n h.Code i.Code g f) EJ ?_;refine gd ?_;refine bC ⟨by kernel_rfl,trivial,?_⟩;exact gx O
def dt: A (Int):=
 some (-1)
def Cq(b:X dI)(c:X RX):Nat->Int->A (Int)
 |0,_=>none|d+1,a=>cond (decide (a<(b.length:Int))) (a8 (aC b a) fun e=>cond (lX e.Name c) (some a)<|(Cq b c d)<|i64.wrap<|a+1) (dt)
def Nb(n:Nat)(a:X dI)(b:X RX):A (Int):=
 Cq a b n 0
theorem qd1(n:Nat)(b:X dI)(a:X RX)(r:Int)(O:Nb n b a=some r):dL prog 98 [.O false<|b.map fC,.str a] (.int .i64 r):=by unfold Nb at O;refine eO 20 S3 ?_;refine go ?_;refine oX (Cq b a) (fun c=>[(0,.iM fC b),(1,.str a),(5,.i6 c)]) (fun _=>⟨[],0⟩) (qY dt [] ⟨[],0⟩) O (tX ?_) ?_;intro O;unfold dt at O;exact gx O;intro h c O;unfold Cq at O;refine gG O ?_ ?_<;>intro f O;obtain⟨e,d,O⟩:=aK O;refine gI d ?_;refine aX (u:=.bool<|lX e.Name a) rfl (GZ rfl rfl rfl rfl) ?_;refine gF O ?_ ?_<;>intro g O;exact gx O;exact wx O;exact wx O
def ic  (a:Rl) (b:X Int):A ((X Int)×Rl):=
 some (b,a)
def V0(c:X bE)(a:X dI)(f:Int)(g:X RX)(n:Nat):Nat->Rl->(X Int)->Int->A ((X Int)×Rl)
 |0,_,_,_=>none|i+1,j,e,b=>
  cond (decide (b<(c.length:Int))) (a8 (aC c b) fun p=>
   a8 (Up n p g) fun h=>
   a8 (cond (!h.2) (some true) (a8 (aC c b) fun l=>
    a8 (Nb n a l.Name) fun m=>
    a8 (UT n a m f) fun S? =>some<|!S?)) fun d=>cond d ((V0 c a f g n i) j e<|i64.wrap<|b+1) (a8 (Nb n a h.1) fun R? =>
    a8 (aC a R?) fun o=>
    a8 (Bl n e o.Code) fun k=>(V0 c a f g n i) true k<|i64.wrap<|b+1)) (ic j e)
def Ny(n:Nat)(b:X bE)(a:X dI)(c:Int)(d:X RX):A ((X Int)×Rl):=
 a8 (aC a 0) fun e=>
 V0 b a c d n n false e.Code 0
theorem qdj(n:Nat)(e:X bE)(b:X dI)(c:Int)(d:X RX)(r:(X Int)×Rl)(O:Ny n e b c d=some r):dL prog 88 [.O false<|e.map bO,.O false<|b.map fC,.int .i64 c,.str d] (.a7 [.O false<|r.1.map<|cI .u64,.bool r.2]):=by unfold Ny at O;refine vi 60 Ho ?_;obtain⟨G,u,O⟩:=aK O;refine gI u ?_;refine nN (V0 e b c d n) (fun j f i=>[(0,.iM bO e),(1,.iM fC b),(2,.i6 c),(3,.str d),(10,.bool j),(11,.iM (cI .u64) f),(12,.i6 i)]) (fun _ _ _=>⟨[],0⟩) (kW ic (fun k m=>[(10,.bool k),(11,.iM (cI .u64) m)]) fun _ _=>⟨[],0⟩) O (mR ?_) ?_;intro k m O;unfold ic at O;refine go ?_;obtain rfl:=sI O;exact MX rfl rfl rfl rfl rfl;intro F j f i O;unfold V0 at O;refine gG O ?_ ?_<;>intro E O;obtain⟨v,y,g,A,O⟩:=c6 O;refine gI y ?_;refine aM rfl (pC (qio n v d g A) _) LQ ?_;obtain⟨h,a,O⟩:=aK O;refine gn ?_;refine kI [(0,.iM bO e),(1,.iM fC b),(2,.i6 c),(3,.str d),(10,.bool j),(11,.iM (cI .u64) f),(12,.i6 i),(13,.str g.1),(48,.bool h)] ⟨[],0⟩ ?_ ?_;refine gF O ?_ ?_<;>intro D O;exact wx O;obtain⟨R?,B,t,q,o,p,O⟩:=pH O;refine go ?_;refine aM rfl (pC (qd1 n b g.1 R? B) _) S3 ?_;refine dO q ?_;refine go ?_;refine aM rfl (pC (qml n f t.Code o p) _) LP ?_;exact wx O;refine go ?_;obtain⟨x,a⟩|⟨x,a⟩:=gB a;exact gy a;obtain⟨s,w,a⟩:=aK a;obtain⟨l,z,a⟩:=aK a;obtain⟨S?,C,a⟩:=aK a;obtain rfl:=sI a;refine gI w ?_;refine aM rfl (pC (qd1 n b s.Name l z) _) S3 ?_;refine go ?_;refine aM rfl (pC (fi n b l c S? C) _) L9 ?_;refine go ?_;exact mL;exact wx O
def Vr(c:Int)(a:(X<|X RX)->Int->A ((X RX)×Rl))(b:X (X RX)):A ((X RX)×Rl):=
 a b (i64.wrap<|c+1)
def X'(d:X bE)(n:Nat)(c:X (X RX)):A ((X RX)×Rl):=
 a8 (Nl n d c) fun a=>cond ((a.length:Int) != 1) (some ([],false)) (a8 (aC a 0) fun b=>some (b,true))
def Q4(a:X bE)(d:X RX)(n:Nat):Nat->(X<|X RX)->Int->A ((X RX)×Rl)
 |0,_,_=>none|e+1,c,b=>
  cond (decide (b<(a.length:Int))) (a8 (aC a b) fun i=>
   a8 (Up n i d) fun h=>cond h.2 (a8 (aC a b) fun g=>
    a8 (PU n c g.Name) fun f=>
    Vr b (Q4 a d n e) f)<|Vr b (Q4 a d n e) c) (X' a n c)
def Uq(n:Nat)(a:X bE)(b:X RX):A ((X RX)×Rl):=
 Q4 a b n n [] 0
theorem qin(n:Nat)(a:X bE)(b:X RX)(r:(X RX)×Rl)(O:Uq n a b=some r):dL prog 97 [.O false<|a.map bO,.str b] (.a7 [.str r.1,.bool r.2]):=by unfold Uq at O;refine eO 43 Hl ?_;refine gr ?_;refine gr ?_;refine gr ?_;refine dJ (tm':=fr 43 [(0,.iM bO a),(1,.str b),(6,.iM cS []),(7,.i6 0)]) (Gh.trans (Gh.sub (l':=[(0,.iM bO a),(1,.str b),(6,.J),(7,.i6 0)]) ⟨rfl,rfl,rfl,rfl,trivial⟩)<|Gh.sC (l':=[(0,.iM bO a),(1,.str b),(6,.iM cS []),(7,.i6 0)])<|.cons (.refl _)<|.cons (.refl _)<|.cons (.nil false)<|.cons (.refl _) .nil) NZ ?_;refine BV (Q4 a b n) (fun d c=>[(0,.iM bO a),(1,.str b),(6,.iM cS d),(7,.i6 c)]) (fun _ _=>⟨[],0⟩) (pR (X' a n) (fun e=>[(0,.iM bO a),(6,.iM cS e)]) fun _=>⟨[],0⟩) O (tW ?_) ?_;intro e O;unfold X' at O;obtain⟨t,o,O⟩:=aK O;refine go ?_;refine aM rfl (pC (qfe n a e t o) _) LM ?_;refine gF O ?_ ?_<;>intro w O;refine go ?_;obtain rfl:=sI O;exact MX rfl rfl rfl rfl rfl;obtain⟨u,i,O⟩:=aK O;refine gI i ?_;obtain rfl:=sI O;exact MX rfl rfl rfl rfl rfl;intro m d c O;unfold Q4 at O;refine gG O ?_ ?_<;>intro v O;obtain⟨p,h,l,j,O⟩:=c6 O;refine gI h ?_;refine aM rfl (pC (qio n p b l j) _) LQ ?_;refine gr ?_;refine yd r (Vr c<|Q4 a b n m) (fun f=>[(0,.iM bO a),(1,.str b),(6,.iM cS f),(7,.i6 c)]) (fun _=>⟨[],0⟩) ?_ ?_;intro f O;unfold Vr at O;exact wx O;refine cF O ?_ ?_<;>intro x O;obtain⟨k,s,g,q,O⟩:=c6 O;refine gI s ?_;refine aM rfl (pC (Mv n d k.Name g q) _) sX ?_;exact wx O;exact wx O;exact wx O
def ab(a:Int)(b:Int->A (Int)): A (Int):=
 b (i64.wrap<|a+1)
def Cf(f:X bE)(n:Nat)(h:(X dI)×Int)(d:(X<|X RX))(b:Int)(g:Int->A (Int)):Nat->Int->A (Int)
 |0,_=>none|j+1,c=>
  cond (decide (c<(d.length:Int))) (a8 (aC d c) fun i=>
   a8 (Ny n f h.1 b i) fun e=>
   a8 (cond e.2 (some<|(e.1.length:Int)==0)<|some false) fun a=>cond a (some 11)<|(Cf f n h d b g j)<|i64.wrap<|c+1) (ab b g)
def ad: A (Int):=
 some 0
def NN(c:X bE)(n:Nat)(a:(X dI)×Int)(d:(X<|X RX)):Nat->Int->A (Int)
 |0,_=>none|e+1,b=>cond (decide (b<(a.1.length:Int))) (Cf c n a d b (NN c n a d e) n 0) (ad)
def ae(a:X bE)(n:Nat)(b:(X dI)×Int)(c:(X<|X RX)): A (Int):=
 NN a n b c n 0
def Cg(c:X bE)(n:Nat)(d:(X dI)×Int)(a:(X<|X RX)):Nat->Int->A (Int)
 |0,_=>none|g+1,b=>cond (decide (b<(a.length:Int))) (a8 (aC a b) fun f=>a8 (Uq n c f) fun e=>cond (!e.2) (some 10)<|(Cg c n d a g)<|i64.wrap<|b+1) (ae c n d a)
def UN(n:Nat)(a:X bE):A (Int):=
 a8 (PV n a) fun b=>cond (b.2 != 0) (some b.2) (a8 (Bt n a) fun c=>cond (decide ((c.length:Int)>64)) (some 7)<|a8 (Wp n a) fun d=>cond (d != 0) (some d)<|Cg a n b c n 0)
theorem qim(n:Nat)(a:X bE)(r:Int)(O:UN n a=some r):dL prog 86 [.O false<|a.map bO] (.int .i64 r):=by unfold UN at O;refine m6 78 Hq ?_;obtain⟨b,p,O⟩:=aK O;refine go ?_;refine aM rfl (pC (A' n a b p) _) LA ?_;refine gF O ?_ ?_<;>intro B O;exact gx O;obtain⟨c,q,O⟩:=aK O;refine go ?_;refine aM rfl (pC (qe6 n a c q) _) S4 ?_;refine gF O ?_ ?_<;>intro C O;exact gx O;obtain⟨w,s,O⟩:=aK O;refine go ?_;refine aM rfl (pC (qgd n a w s) _) XC ?_;refine gF O ?_ ?_<;>intro D O;exact gx O;refine go ?_;refine oX (Cg a n b c) (fun h=>[(0,.iM bO a),(3,.iM fC b.1),(5,.iM cS c),(7,.i6 h)]) (fun _=>⟨[],0⟩) (qY (ae a n b c) [(0,.iM bO a),(3,.iM fC b.1),(5,.iM cS c)] ⟨[],0⟩) O (tX ?_) ?_;intro O;unfold ae at O;refine go ?_;refine oX (NN a n b c) (fun d=>[(0,.iM bO a),(3,.iM fC b.1),(5,.iM cS c),(10,.i6 d)]) (fun _=>⟨[],0⟩) (qY ad [] ⟨[],0⟩) O (tX ?_) ?_;intro O;unfold ad at O;exact gx O;intro i d O;unfold NN at O;refine gG O ?_ ?_<;>intro G O;refine go ?_;refine oX (Cf a n b c d<|NN a n b c i) (fun g=>[(0,.iM bO a),(3,.iM fC b.1),(5,.iM cS c),(10,.i6 d),(11,.i6 g)]) (fun _=>⟨[],0⟩) (qY (ab d<|NN a n b c i) [(0,.iM bO a),(3,.iM fC b.1),(5,.iM cS c),(10,.i6 d)] ⟨[],0⟩) O (tX ?_) ?_;intro O;unfold ab at O;exact wx O;intro F g O;unfold Cf at O;refine gG O ?_ ?_<;>intro H O;obtain⟨t,x,u,v,O⟩:=c6 O;refine gI x ?_;refine aM rfl (pC (qdj n a b.1 d t u v) _) Ho ?_;obtain⟨f,e,O⟩:=aK O;refine gn ?_;refine kI [(0,.iM bO a),(3,.iM fC b.1),(5,.iM cS c),(10,.i6 d),(11,.i6 g),(77,.bool f)] ⟨[],0⟩ ?_ ?_;refine gF O ?_ ?_<;>intro z O;exact gx O;exact wx O;refine go ?_;obtain⟨l,e⟩|⟨l,e⟩:=gB e;exact gy e;exact gy e;exact wx O;exact wx O;intro E h O;unfold Cg at O;refine gG O ?_ ?_<;>intro A O;obtain⟨m,k,j,o,O⟩:=c6 O;refine gI k ?_;refine aM rfl (pC (qin n a m j o) _) Hl ?_;refine gF O ?_ ?_<;>intro y O;exact gx O;exact wx O;exact wx O
def tz: A (Int):=
 some (-1)
def Bz(b:X dI)(n:Nat)(c:(X Int)):Nat->Int->A (Int)
 |0,_=>none|e+1,a=>cond (decide (a<(b.length:Int))) (a8 (aC b a) fun f=>a8 (UL n f.Code c) fun d=>cond d (some a)<|(Bz b n c e)<|i64.wrap<|a+1) (tz)
def Uf(n:Nat)(a:X dI)(b:X Int):A (Int):=
 a8 (NJ n b) fun c=>
 Bz a n c n 0
theorem qsl(n:Nat)(a:X dI)(c:X Int)(r:Int)(O:Uf n a c=some r):dL prog 89 [.O false<|a.map fC,.O false<|c.map<|cI .u64] (.int .i64 r):=by unfold Uf at O;refine eO 23 xp ?_;obtain⟨b,f,O⟩:=aK O;refine go ?_;refine aM rfl (pC (dh n c b f) _) A9 ?_;refine go ?_;refine oX (Bz a n b) (fun d=>[(0,.iM fC a),(5,.iM (cI .u64) b),(6,.i6 d)]) (fun _=>⟨[],0⟩) (qY tz [] ⟨[],0⟩) O (tX ?_) ?_;intro O;unfold tz at O;exact gx O;intro l d O;unfold Bz at O;refine gG O ?_ ?_<;>intro j O;obtain⟨i,h,g,e,O⟩:=c6 O;refine gI h ?_;refine aM rfl (pC (qkf n i.Code b g e) _) LO ?_;refine gF O ?_ ?_<;>intro k O;exact gx O;exact wx O;exact wx O
def Wa(a:Int)(c:Int->(X o5)->A ((X<|X o5)×Int))(b:X o5):A ((X<|X o5)×Int):=
 c (i64.wrap<|a+1) b
def du(d:Int)(a:X (X o5))(c:Int->(X<|X o5)->A ((X<|X o5)×Int))(b:X o5):A ((X<|X o5)×Int):=
 aE ((a.length+1)*24<=140737488355328/\a.length+1<=140737488355328) (
 c (i64.wrap<|d+1) (a++[b]))
def QA(h:X bE)(n:Nat)(d:(X dI)×Int)(e:(X<|X RX))(c:Int)(g:X (X o5))(f:Int->(X<|X o5)->A ((X<|X o5)×Int)):Nat->Int->(X o5)->A ((X<|X o5)×Int)
 |0,_,_=>none|j+1,a,b=>
  cond (decide (a<(e.length:Int))) (a8 (aC e a) fun l=>
   a8 (Ny n h d.1 c l) fun i=>cond i.2 (a8 (Uf n d.1 i.1) fun k=>
    aE ((b.length+1)*16<=140737488355328/\b.length+1<=140737488355328) (
    Wa a (QA h n d e c g f j) (b++[(o5.mk a k)])))<|Wa a (QA h n d e c g f j) b) (du c g f b)
def dv  (a:X (X o5)):A ((X<|X o5)×Int):=
 some (a,0)
def JF(d:X bE)(n:Nat)(a:(X dI)×Int)(e:(X<|X RX)):Nat->Int->(X<|X o5)->A ((X<|X o5)×Int)
 |0,_,_=>none|f+1,c,b=>cond (decide (c<(a.1.length:Int))) (QA d n a e c b (JF d n a e f) n 0 ([]:X o5)) (dv b)
def Nc(n:Nat)(a:X bE):A ((X<|X o5)×Int):=
 a8 (UN n a) fun b=>cond (b != 0) (some ([],b)) (a8 (PV n a) fun c=>
  a8 (Bt n a) fun d=>
  JF a n c d n 0 ([]:X (X o5)))
theorem qnk(n:Nat)(b:X bE)(r:(X<|X o5)×Int)(O:Nc n b=some r):dL prog 57 [.O false<|b.map bO] (.a7 [.O false<|r.1.map<|cL tK,.int .i64 r.2]):=by unfold Nc at O;refine m6 63 jh ?_;obtain⟨t,y,O⟩:=aK O;refine go ?_;refine aM rfl (pC (qim n b t y) _) Hq ?_;refine gF O ?_ ?_<;>intro I O;refine go ?_;obtain rfl:=sI O;exact rT (us:=[.J,.i6 t]) (u:=.a7 [.O false [],.i6 t]) (eL rfl (eL rfl (eB))) wR;obtain⟨c,A,O⟩:=aK O;refine go ?_;refine aM rfl (pC (A' n b c A) _) LA ?_;obtain⟨e,B,O⟩:=aK O;refine go ?_;refine aM rfl (pC (qe6 n b e B) _) S4 ?_;refine gr ?_;refine gr ?_;refine gV 8 145 1 1 ?_;refine nN (a3:=0) (fun m d a _=>JF b n c e m d a) (fun d a f=>[(0,.iM bO b),(5,.iM fC c.1),(7,.iM cS e),(8,.vl 0 f 0 a.length),(9,.i6 d)]) (fun _ a f=>⟨[(0,.bv (cL tK) a 145 1 f)],1⟩) (kW (fun h _=>dv h) (fun h l=>[(8,.vl 0 l 0 h.length)]) fun h l=>⟨[(0,.bv (cL tK) h 145 1 l)],1⟩) O (mR ?_) ?_;intro h l O;unfold dv at O;refine go ?_;obtain rfl:=sI O;exact rT (us:=[.vl 0 l 0 h.length,.i6 0]) (u:=.a7 [.iM (cL tK) h,.i6 0]) (eL rfl (eL rfl (eB)))<|fR 0 1;intro s d a f O;unfold JF at O;refine gG O ?_ ?_<;>intro J O;refine gr ?_;refine gr ?_;refine gV 10 186 2 2 ?_;refine nN (a3:=0) (fun m i k _=>QA b n c e d a (JF b n c e s) m i k) (fun i k p=>[(0,.iM bO b),(5,.iM fC c.1),(7,.iM cS e),(8,.vl 0 f 0 a.length),(9,.i6 d),(10,.vl 1 p 0 k.length),(11,.i6 i)]) (fun _ k p=>⟨[(1,.bv tK k 186 2 p),(0,.bv (cL tK) a 145 1 f)],2⟩) (kW (fun g _=>du d a (JF b n c e s) g) (fun g o=>[(0,.iM bO b),(5,.iM fC c.1),(7,.iM cS e),(8,.vl 0 f 0 a.length),(9,.i6 d),(10,.vl 1 o 0 g.length)]) fun g o=>⟨[(1,.bv tK g 186 2 o),(0,.bv (cL tK) a 145 1 f)],2⟩) O (mR ?_) ?_;intro g o O;unfold du at O;refine gn ?_;refine dJ (tm':=fr 63 [(0,.iM bO b),(5,.iM fC c.1),(7,.iM cS e),(8,.vl 0 f 0 a.length),(9,.i6 d),(10,.iM tK g)]) (Y':=⟨[(0,.bv (cL tK) a 145 1 f)],2⟩) (Gh.trans (Gh.sub (l':=[(0,.iM bO b),(5,.iM fC c.1),(7,.iM cS e),(8,.vl 0 f 0 a.length),(9,.i6 d),(10,.vl 1 o 0 g.length)]) ⟨rfl,rfl,rfl,rfl,rfl,rfl,trivial⟩)<|SP 1 2) NZ ?_;obtain⟨K,O⟩:=bY O;refine go ?_;refine cE ?_;refine cE ?_;exact wx O;intro C i k p O;unfold QA at O;refine gG O ?_ ?_<;>intro G O;obtain⟨D,E,v,x,O⟩:=c6 O;refine gI E ?_;refine aM rfl (pC (qdj n b c.1 d D v x) _) Ho ?_;refine gr ?_;refine M7 r (fun j _=>Wa i (QA b n c e d a (JF b n c e s) C) j) (fun j q=>[(0,.iM bO b),(5,.iM fC c.1),(7,.iM cS e),(8,.vl 0 f 0 a.length),(9,.i6 d),(10,.vl 1 q 0 j.length),(11,.i6 i)]) (fun j q=>⟨[(1,.bv tK j 186 2 q),(0,.bv (cL tK) a 145 1 f)],2⟩) ?_ ?_;intro j q O;unfold Wa at O;exact wx O;refine cF O ?_ ?_<;>intro H O;obtain⟨w,F,O⟩:=aK O;obtain⟨z,O⟩:=bY O;refine go ?_;refine aM rfl (pC (qsl n c.1 v.1 w F) _) xp ?_;refine go ?_;refine cE ?_;refine cE ?_;exact wx O;exact wx O;exact wx O;exact wx O
def We(c:Int)(a:Int->(X Int)->A ((X Int)))(b:X Int):A ((X Int)):=
 a (i64.wrap<|c+1) b
def dw(b:Int)(a:X Int)(c:Int->(X Int)->A ((X Int)))(d:Rl):A ((X Int)):=
 cond d (aE ((a.length+1)*8<=140737488355328/\a.length+1<=140737488355328) (
  We b c (a++[b]))) (We b c a)
def UX(b:X dI)(d:Int)(n:Nat)(c:Int)(f:X Int)(e:Int->(X Int)->A ((X Int))):Nat->Rl->Int->A ((X Int))
 |0,_,_=>none|k+1,g,a=>cond (decide (a<(b.length:Int))) (a8 (cond g (cond (a==d) (some true)<|cond (a==c) (some true)<|a8 (UT n b c a) fun h=>cond (!h) (some true)<|a8 (UT n b a d) fun j=>some<|!j)<|some false) fun i=>(UX b d n c f e k) i<|i64.wrap<|a+1) (dw c f e g)
def dx  (a:X Int):A ((X Int)):=
 some a
def FF(a:X dI)(b:Int)(n:Nat):Nat->Int->(X Int)->A ((X Int))
 |0,_,_=>none|e+1,c,d=>cond (decide (c<(a.length:Int))) (a8 (cond (c==b) (some true)<|a8 (UT n a c b) fun g=>some<|!g) fun f=>cond f ((FF a b n e) (i64.wrap<|c+1) d)<|UX a b n c d (FF a b n e) n true 0) (dx d)
def ef(n:Nat)(a:X dI)(b:Int):A ((X Int)):=
 FF a b n n 0 ([]:X Int)
theorem qnh(n:Nat)(c:X dI)(d:Int)(r:(X Int))(O:ef n c d=some r):dL prog 59 [.O false<|c.map fC,.int .i64 d] (.O false<|r.map<|cI .i64):=by
 unfold ef at O;refine eO 62 jg ?_;refine gr ?_;refine gr ?_;refine gr ?_;refine gV 5 3 1 1 ?_;refine nN (a3:=0) (fun m e b _=>FF c d n m e b) (fun e b f=>[(0,.iM fC c),(1,.i6 d),(5,.vl 0 f 0 b.length),(6,.i6 e)]) (fun _ b f=>⟨F7 b f,1⟩) (kW (fun g _=>dx g) (fun g k=>[(5,.vl 0 k 0 g.length)]) fun g k=>⟨F7 g k,1⟩) O (mR ?_) ?_;intro g k O;unfold dx at O;refine go ?_;obtain rfl:=sI O;exact rT (us:=[.vl 0 k 0 g.length]) (u:=.iM (cI .i64) g) (eL rfl (eB))<|fR 0 1;intro o e b f O;unfold FF at O;refine gG O ?_ ?_<;>intro H O;obtain⟨t,h,O⟩:=aK O;refine gn ?_;refine kI [(0,.iM fC c),(1,.i6 d),(5,.vl 0 f 0 b.length),(6,.i6 e),(24,.bool t)] ⟨F7 b f,1⟩ ?_ ?_;refine gF O ?_ ?_<;>intro I O;exact wx O;refine go ?_;refine BV (UX c d n e b<|FF c d n o) (fun q j=>[(0,.iM fC c),(1,.i6 d),(5,.vl 0 f 0 b.length),(6,.i6 e),(7,.bool q),(8,.i6 j)]) (fun _ _=>⟨F7 b f,1⟩) (pR (dw e b<|FF c d n o) (fun p=>[(0,.iM fC c),(1,.i6 d),(5,.vl 0 f 0 b.length),(6,.i6 e),(7,.bool p)]) fun _=>⟨F7 b f,1⟩) O (tW ?_) ?_;intro p O;unfold dw at O;refine gr ?_;refine M7 r (fun i _=>We e (FF c d n o) i) (fun i l=>[(0,.iM fC c),(1,.i6 d),(5,.vl 0 l 0 i.length),(6,.i6 e)]) (fun i l=>⟨F7 i l,1⟩) ?_ ?_;intro i l O;unfold We at O;exact wx O;refine cF O ?_ ?_<;>intro L O;obtain⟨G,O⟩:=bY O;refine go ?_;refine cE ?_;refine cE ?_;exact wx O;exact wx O;intro J q j O;unfold UX at O;refine gG O ?_ ?_<;>intro K O;obtain⟨y,a,O⟩:=aK O;refine gn ?_;refine kI [(0,.iM fC c),(1,.i6 d),(5,.vl 0 f 0 b.length),(6,.i6 e),(7,.bool y),(8,.i6 j)] ⟨F7 b f,1⟩ ?_ ?_;exact wx O;refine go ?_;obtain⟨D,a⟩|⟨D,a⟩:=gB a;refine go ?_;obtain⟨x,a⟩|⟨x,a⟩:=gB a;exact gy a;refine go ?_;obtain⟨A,a⟩|⟨A,a⟩:=gB a;exact gy a;obtain⟨s,v,a⟩:=aK a;refine go ?_;refine aM rfl (pC (fi n c e j s v) _) L9 ?_;refine go ?_;obtain⟨z,a⟩|⟨z,a⟩:=gB a;exact gy a;obtain⟨B,w,a⟩:=aK a;obtain rfl:=sI a;refine go ?_;refine aM rfl (pC (fi n c j d B w) _) L9 ?_;refine go ?_;exact mL;obtain rfl:=sI a;refine go ?_
 repeat refine RS.no (MY rfl rfl rfl) rfl rfl ?_
 refine go ?_
 repeat refine RS.no (MY rfl rfl rfl) rfl rfl ?_
 refine go ?_
 repeat refine RS.no (MY rfl rfl rfl) rfl rfl ?_
 refine go ?_;exact mL;exact wx O;refine go ?_;obtain⟨C,h⟩|⟨C,h⟩:=gB h;exact gy h;obtain⟨F,E,h⟩:=aK h;obtain rfl:=sI h;refine go ?_;refine aM rfl (pC (fi n c e d F E) _) L9 ?_;refine go ?_;exact mL;exact wx O
def fq  (a:X jJ):A ((X jJ)×Int):=
 some (a,0)
def Cu(d:X bE)(n:Nat)(e:(X dI)×Int)(c:(X<|X RX)):Nat->Int->(X jJ)->A ((X jJ)×Int)
 |0,_,_=>none|i+1,b,a=>
  cond (decide (b<(c.length:Int))) (a8 (aC c b) fun j=>
   a8 (Uq n d j) fun f=>
   a8 (aC c b) fun g=>
   a8 (Nb n e.1 f.1) fun h=>
   aE ((a.length+1)*24<=140737488355328/\a.length+1<=140737488355328) ((Cu d n e c i) (i64.wrap<|b+1)<|a++[(jJ.mk g h)])) (fq a)
def Vs(n:Nat)(a:X bE):A ((X jJ)×Int):=
 a8 (UN n a) fun b=>cond (b != 0) (some ([],b)) (a8 (PV n a) fun c=>
  a8 (Bt n a) fun d=>
  Cu a n c d n 0 ([]:X jJ))
theorem qkt(n:Nat)(a:X bE)(r:(X jJ)×Int)(O:Vs n a=some r):dL prog 60 [.O false<|a.map bO] (.a7 [.O false<|r.1.map mQ,.int .i64 r.2]):=by unfold Vs at O;refine m6 51 jf ?_;obtain⟨h,l,O⟩:=aK O;refine go ?_;refine aM rfl (pC (qim n a h l) _) Hq ?_;refine gF O ?_ ?_<;>intro y O;refine go ?_;obtain rfl:=sI O;exact rT (us:=[.J,.i6 h]) (u:=.a7 [.O false [],.i6 h]) (eL rfl (eL rfl (eB))) wR;obtain⟨f,o,O⟩:=aK O;refine go ?_;refine aM rfl (pC (A' n a f o) _) LA ?_;obtain⟨i,p,O⟩:=aK O;refine go ?_;refine aM rfl (pC (qe6 n a i p) _) S4 ?_;refine gr ?_;refine gr ?_;refine gV 8 197 2 1 ?_;refine nN (a3:=0) (fun m e c _=>Cu a n f i m e c) (fun e c g=>[(0,.iM bO a),(5,.iM fC f.1),(7,.iM cS i),(8,.vl 0 g 0 c.length),(9,.i6 e)]) (fun _ c g=>⟨[(0,.bv mQ c 197 2 g)],1⟩) (kW (fun b _=>fq b) (fun b d=>[(8,.vl 0 d 0 b.length)]) fun b d=>⟨[(0,.bv mQ b 197 2 d)],1⟩) O (mR ?_) ?_;intro b d O;unfold fq at O;refine go ?_;obtain rfl:=sI O;exact rT (us:=[.vl 0 d 0 b.length,.i6 0]) (u:=.a7 [.iM mQ b,.i6 0]) (eL rfl (eL rfl (eB)))<|fR 0 2;intro z e c g O;unfold Cu at O;refine gG O ?_ ?_<;>intro B O;obtain⟨w,t,j,s,O⟩:=c6 O;refine gI t ?_;refine aM rfl (pC (qin n a w j s) _) Hl ?_;obtain⟨x,q,k,v,O⟩:=c6 O;obtain⟨A,O⟩:=bY O;refine go ?_;refine dE [(0,9)] ?_;refine gJ q ?_;refine eA rfl (pC<|qd1 n f.1 j.1 k v) S3 ?_;refine gd ?_;refine dS ?_;refine dS ?_;refine gd ?_;refine bC ⟨by kernel_rfl,⟨kN rfl,trivial⟩,?_⟩;exact wx O;exact wx O
def fh(c:X bE)(n:Nat)(a:X gN):A (dK×Int):=
 a8 (Vs n c) fun b=>some ((dK.mk a b.1),0)
def Cs(d:X bE)(n:Nat)(e:(X<|X o5)×Int)(b:(X dI)×Int):Nat->Int->(X gN)->A (dK×Int)
 |0,_,_=>none|h+1,a,c=>
  cond (decide (a<(b.1.length:Int))) (a8 (aC b.1 a) fun j=>
   a8 (aC b.1 a) fun g=>
   a8 (ef n b.1 a) fun i=>
   a8 (aC e.1 a) fun f=>
   aE ((c.length+1)*88<=140737488355328/\c.length+1<=140737488355328) ((Cs d n e b h) (i64.wrap<|a+1)<|c++[(gN.mk j.Name g.Code i f)])) (fh d n c)
def PZ(n:Nat)(a:X bE):A (dK×Int):=
 a8 (Nc n a) fun b=>cond (b.2 != 0) (some ((dK.mk [] []),b.2)) (a8 (PV n a) fun c=>Cs a n b c n 0 ([]:X gN))
theorem n'(n:Nat)(a:X bE)(r:dK×Int)(O:PZ n a=some r):dL prog 32 [.O false<|a.map bO] (.a7 [.agg<|kO r.1,.int .i64 r.2]):=by unfold PZ at O;refine m6 63 S9 ?_;obtain⟨c,k,O⟩:=aK O;refine go ?_;refine aM rfl (pC (qnk n a c k) _) jh ?_;refine gF O ?_ ?_<;>intro y O;refine go ?_;obtain rfl:=sI O;exact rT (us:=[.agg [.J,.J],.i6 c.2]) (u:=.a7 [.agg [.O false [],.O false []],.i6 c.2]) (uX (vX vQ.h rfl (bG FO.h) rfl rfl rfl)<|eL rfl (eB)) wR;obtain⟨f,l,O⟩:=aK O;refine go ?_;refine aM rfl (pC (A' n a f l) _) LA ?_;refine gr ?_;refine gr ?_;refine dJ (tm':=fr 63 [(0,.iM bO a),(2,.ptr 0 0 0),(4,.iM (cL tK) c.1),(6,.iM fC f.1),(8,.ptr 1 0 0),(9,.i6 0)]) (Y':=⟨[(2,.bv jV ([]:X gN) 147 4 0),(1,.row [.vl 2 0 0<|([]:X gN).length,.J] 27),(0,.row [.J,.J] 27)],3⟩) (Gh.trans (AG 1 0 147 4 cg NZ rfl rfl)<|xQ ⟨rfl,rfl,rfl,rfl,rfl,rfl,trivial⟩ rfl) NZ ?_;refine nN (a3:=0) (fun m d e _=>Cs a n c f m d e) (fun d _ _=>[(0,.iM bO a),(2,.ptr 0 0 0),(4,.iM (cL tK) c.1),(6,.iM fC f.1),(8,.ptr 1 0 0),(9,.i6 d)]) (fun _ e i=>⟨[(2,.bv jV e 147 4 i),(1,.row [.vl 2 i 0 e.length,.J] 27),(0,.row [.J,.J] 27)],3⟩) (kW (fun b _=>fh a n b) (fun _ _=>[(0,.iM bO a),(2,.ptr 0 0 0),(8,.ptr 1 0 0)]) fun b g=>⟨[(2,.bv jV b 147 4 g),(1,.row [.vl 2 g 0 b.length,.J] 27),(0,.row [.J,.J] 27)],3⟩) O (mR ?_) ?_;intro b g O;unfold fh at O;obtain⟨j,o,O⟩:=aK O;refine go ?_;refine aM rfl (pC (qkt n a j o) _) jf ?_;refine go ?_;obtain rfl:=sI O;exact rT (us:=[.agg [.vl 2 g 0 b.length,.iM mQ j.1],.i6 0]) (u:=.a7 [.agg [.iM jV b,.iM mQ j.1],.i6 0]) (uX (vX vQ.h rfl (bG FO.h) rfl rfl rfl)<|eL rfl (eB))<|fR 2 4;intro z d e i O;unfold Cs at O;refine gG O ?_ ?_<;>intro B O;obtain⟨C,t,x,q,s,p,w,v,O⟩:=F3 O;obtain⟨A,O⟩:=bY O;refine go ?_;refine dE [(0,20),(1,20)] ?_;refine gJ t ?_;refine iR q ?_;refine gd ?_;refine eA rfl (pC<|qnh n f.1 d s p) jg ?_;refine gJ v ?_;refine dS ?_;refine dS ?_;refine gd ?_;refine tC ?_;refine bC ⟨by kernel_rfl,⟨nC vQ.h rfl (bG Es.h) rfl rfl rfl,⟨uA IB.h rfl rfl rfl rfl,trivial⟩⟩,?_⟩;exact wx O;exact wx O
def ct(n:Nat): A (dK):=
 a8 (PZ n<|[(bE.mk ([116,111,112]) []<|[(rJ.mk ([70])<|[116,111,112]),(rJ.mk ([71])<|[116,111,112])]),(bE.mk ([120]) ([[116,111,112]]) []),(bE.mk ([121]) ([[116,111,112]]) [])]) fun a=>some (dK.mk a.1.Types a.1.E3)
theorem qph(n:Nat)(r:dK)(O:ct n  = some r):dL prog 34 [] (.agg<|kO r):=by unfold ct at O;refine bg0 17 jq ?_;obtain⟨b,a,O⟩:=aK O;refine go ?_;refine aX (u:=.sl 1 0 2 2) (Y':=⟨qvu,2⟩) rfl (F2 IE.h VT.h rfl rfl rfl rfl rfl rfl rfl) ?_;refine go ?_;refine cE ?_;refine go ?_;refine cE ?_;refine go ?_;refine aX (u:=.sl 4 0 3 3) (Y':=⟨(4,.row [.str<|[116,111,112],.J,.sl 1 0 2 2,.str<|[120],.sl 2 0 1 1,.J,.str<|[121],.sl 3 0 1 1,.J] 153)::(3,.row [.str<|[116,111,112]] 9)::(2,.row [.str<|[116,111,112]] 9)::qvu,5⟩) rfl (F2 Qp.h yG.h rfl rfl rfl rfl rfl rfl rfl) (RS.fc rfl (Gh.trans (rD 1 2)<|Gh.trans (rD 2 1)<|Gh.trans (rD 3 1)<|Gh.trans (Gh.AB 4)<|rD 4 3) (pC (n' n ([(bE.mk ([116,111,112]) []<|[(rJ.mk ([70])<|[116,111,112]),(rJ.mk ([71])<|[116,111,112])]),(bE.mk ([120]) ([[116,111,112]]) []),(bE.mk ([121]) ([[116,111,112]]) [])]) b a) _) S9 ?_);refine go ?_;obtain rfl:=sI O;exact rT (uX (vX vQ.h rfl (bG FO.h) rfl rfl rfl)<|eB) (GF _ rfl)
def Ye(b:X RX)(c:X RX)(a:X rJ):A (bE):=
 some (bE.mk b ([c]) a)
def tq(d:X RX)(e:X RX)(c:X (X RX)):Nat->Int->(X rJ)->A (bE)
 |0,_,_=>none|g+1,b,a=>
  cond (decide ((i64.wrap<|b+1)<(c.length:Int))) (a8 (aC c b) fun f=>
   a8 (aC c<|i64.wrap<|b+1) fun h=>
   aE ((a.length+1)*32<=140737488355328/\a.length+1<=140737488355328) ((tq d e c g) (i64.wrap<|b+2)<|a++[(rJ.mk f h)])) (Ye d e a)
def qe8(b:X RX)(a:X rJ):A (bE):=
 some (bE.mk b [] a)
def tn(e:X RX)(a:X (X RX)):Nat->Int->(X rJ)->A (bE)
 |0,_,_=>none|f+1,b,c=>
  cond (decide ((i64.wrap<|b+1)<(a.length:Int))) (a8 (aC a b) fun d=>
   a8 (aC a<|i64.wrap<|b+1) fun g=>
   aE ((c.length+1)*32<=140737488355328/\c.length+1<=140737488355328) ((tn e a f) (i64.wrap<|b+2)<|c++[(rJ.mk d g)])) (qe8 e c)
def CG(n:Nat)(a:X RX)(b:X RX)(c:X (X RX)):A (bE):=
 cond (!lX b []) (tq a b c n 0 ([]:X rJ)) (tn a c n 0 ([]:X rJ))
theorem FE(n:Nat)(a:X RX)(b:X RX)(e:X (X RX))(r:bE)(O:CG n a b e=some r):dL prog 61 [.str a,.str b,.O false<|e.map cS] (.agg<|bO r):=by unfold CG at O;refine HV 39 oL ?_;refine go ?_;refine aX (u:=.bool<|!lX b []) rfl (GZ rfl rfl rfl rfl) ?_;refine gF O ?_ ?_<;>intro A O;refine go ?_;refine cE ?_;refine gr ?_;refine dJ (tm':=fr 39 [(2,.iM cS e),(6,.ptr 0 0 0),(7,.ptr 1 0 0),(8,.i6 0)]) (Y':=⟨(3,.bv lY ([]:X rJ) 156 2 0)::(2,.row [.str b] 9)::(1,.row [.str a,.sl 2 0 1 1,.vl 3 0 0<|([]:X rJ).length] 153)::Mi,4⟩) (Gh.trans (AG 1 2 156 2 cg NZ rfl rfl)<|xQ ⟨rfl,rfl,rfl,rfl,trivial⟩ rfl) NZ ?_;refine nN (a3:=0) (fun m i f _=>tq a b e m i f) (fun i _ _=>[(2,.iM cS e),(6,.ptr 0 0 0),(7,.ptr 1 0 0),(8,.i6 i)]) (fun _ f p=>⟨(3,.bv lY f 156 2 p)::(2,.row [.str b] 9)::(1,.row [.str a,.sl 2 0 1 1,.vl 3 p 0 f.length] 153)::Mi,4⟩) (kW (fun c _=>Ye a b c) (fun _ _=>[(6,.ptr 0 0 0),(7,.ptr 1 0 0)]) fun c j=>⟨(3,.bv lY c 156 2 j)::(2,.row [.str b] 9)::(1,.row [.str a,.sl 2 0 1 1,.vl 3 j 0 c.length] 153)::Mi,4⟩) O (mR ?_) ?_;intro c j O;unfold Ye at O;refine go ?_;obtain rfl:=sI O;exact⟨.inr rfl,[.agg [.str a,.sl 2 0 1 1,.vl 3 j 0 c.length]],uX (vX xT.h rfl (bG yG.h) rfl rfl rfl)<|eB,.agg [.str a,.iM cS<|[b],.iM lY c],⟨[],0⟩,zF _,Gh.trans (rD 2 1)<|Gh.trans (rD 3 2)<|GF (.agg [.str a,.iM cS<|[b],.iM lY c]) rfl,rfl,BU.h⟩;intro B i f p O;unfold tq at O;refine gG O ?_ ?_<;>intro z O;obtain⟨y,s,E,v,O⟩:=c6 O;obtain⟨G,O⟩:=bY O;refine go ?_;refine dE [(0,12),(1,12)] ?_;refine gJ s ?_;refine iR v ?_;refine gd ?_;refine dS ?_;refine dS ?_;refine gd ?_;refine tC ?_;refine bC ⟨by kernel_rfl,⟨nC xT.h rfl (bG VU.h) rfl rfl rfl,⟨uA IE.h rfl rfl rfl rfl,trivial⟩⟩,?_⟩;exact wx O;exact wx O;refine gr ?_;refine dJ (tm':=fr 39 [(2,.iM cS e),(6,.ptr 0 0 0),(7,.ptr 1 0 0),(8,.i6 0)]) (Y':=⟨(2,.bv lY ([]:X rJ) 156 2 0)::(1,.row [.str a,.J,.vl 2 0 0<|([]:X rJ).length] 153)::Mi,3⟩) (Gh.trans (AG 1 2 156 2 cg NZ rfl rfl)<|xQ ⟨rfl,rfl,rfl,rfl,trivial⟩ rfl) NZ ?_;refine nN (a3:=0) (fun m l g _=>tn a e m l g) (fun l _ _=>[(2,.iM cS e),(6,.ptr 0 0 0),(7,.ptr 1 0 0),(8,.i6 l)]) (fun _ g o=>⟨(2,.bv lY g 156 2 o)::(1,.row [.str a,.J,.vl 2 o 0 g.length] 153)::Mi,3⟩) (kW (fun d _=>qe8 a d) (fun _ _=>[(6,.ptr 0 0 0),(7,.ptr 1 0 0)]) fun d k=>⟨(2,.bv lY d 156 2 k)::(1,.row [.str a,.J,.vl 2 k 0 d.length] 153)::Mi,3⟩) O (mR ?_) ?_;intro d k O;unfold qe8 at O;refine go ?_;obtain rfl:=sI O;exact⟨.inr rfl,[.agg [.str a,.J,.vl 2 k 0 d.length]],uX (vX xT.h rfl (bG yG.h) rfl rfl rfl)<|eB,.agg [.str a,.O false [],.iM lY d],⟨[],0⟩,zF _,Gh.trans (rD 2 2)<|Gh.trans (Gh.wk<|.cons (.agg<|.cons (.refl _)<|.cons (.nil false)<|.cons (.refl _) .nil) .nil)<|GF (.agg [.str a,.O false [],.iM lY d]) rfl,rfl,BU.h⟩;intro C l g o O;unfold tn at O;refine gG O ?_ ?_<;>intro F O;obtain⟨w,q,D,t,O⟩:=c6 O;obtain⟨x,O⟩:=bY O;refine go ?_;refine dE [(0,12),(1,12)] ?_;refine gJ q ?_;refine iR t ?_;refine gd ?_;refine dS ?_;refine dS ?_;refine gd ?_;refine tC ?_;refine bC ⟨by kernel_rfl,⟨nC xT.h rfl (bG VU.h) rfl rfl rfl,⟨uA IE.h rfl rfl rfl rfl,trivial⟩⟩,?_⟩;exact wx O;exact wx O
def Vm(n:Nat): A ((X bE)):=
 a8 (CG n ([116,111,112]) [] []) fun f=>
 a8 (CG n ([108,105,115,116]) ([116,111,112]) []) fun g=>
 a8 (CG n ([99,111,110,115]) ([108,105,115,116])<|[[70,73,82,83,84],[116,111,112],[82,69,83,84],[108,105,115,116]]) fun h=>
 a8 (CG n ([110,117,108,108]) ([108,105,115,116]) []) fun i=>
 a8 (CG n ([100,108,105,115,116]) ([116,111,112])<|[[76,73,83,84],[108,105,115,116],[76,65,83,84],[108,105,115,116]]) fun j=>
 a8 (CG n ([105,110,100,101,120]) ([116,111,112]) []) fun l=>
 a8 (CG n ([104,97,110,100,108,101]) ([105,110,100,101,120]) []) fun d=>
 a8 (CG n ([101,118,101,110,116]) ([105,110,100,101,120]) []) fun m=>
 a8 (CG n ([101,110,116,105,116,121]) ([105,110,100,101,120]) []) fun e=>
 a8 (CG n ([114,101,108]) ([116,111,112])<|[[76,65,66,69,76],[104,97,110,100,108,101]]) fun c=>
 a8 (CG n ([113,101,113]) ([116,111,112])<|[[72,73,71,72],[104,97,110,100,108,101],[76,79,87],[104,97,110,100,108,101]]) fun b=>
 a8 (CG n ([115,101,109]) ([116,111,112])<|[[84,79,80],[104,97,110,100,108,101],[73,78,68,69,88],[105,110,100,101,120],[82,69,76,83],[100,108,105,115,116],[67,79,78,83],[100,108,105,115,116]]) fun a=>
 a8 (CG n ([115,105,103,110]) ([116,111,112])<|[[83,69,77],[115,101,109],[65,82,71,83],[108,105,115,116]]) fun k=>some ([f,g,h,i,j,l,d,m,e,c,b,a,k])
theorem qmn(n:Nat)(r:(X bE))(O:Vm n  = some r):dL prog 33 [] (.O false<|r.map bO):=by unfold Vm at O;refine bg0 21 jr ?_;obtain⟨f,s,g,t,i,v,j,w,O⟩:=F3 O;obtain⟨k,y,m,q,d,x,o,D,O⟩:=F3 O;obtain⟨e,p,c,C,b,B,a,A,O⟩:=F3 O;obtain⟨l,z,O⟩:=aK O;refine go ?_;refine aM rfl (HZ (args':=[.str<|[116,111,112],.str [],.O false []]) (.cons (.refl _)<|.cons (.refl _)<|.cons (.nil false) .nil) (pC<|FE n ([116,111,112]) [] [] f s) _) oL (aM rfl (HZ (args':=[.str<|[108,105,115,116],.str<|[116,111,112],.O false []]) (.cons (.refl _)<|.cons (.refl _)<|.cons (.nil false) .nil) (pC<|FE n ([108,105,115,116]) ([116,111,112]) [] g t) _) oL ?_);refine cE ?_;refine RS.fc rfl (rD 0 1) (pC (FE n ([99,111,110,115]) ([108,105,115,116]) ([[70,73,82,83,84],[116,111,112],[82,69,83,84],[108,105,115,116]]) i v) _) oL (aM rfl (HZ (args':=[.str<|[110,117,108,108],.str<|[108,105,115,116],.O false []]) (.cons (.refl _)<|.cons (.refl _)<|.cons (.nil false) .nil) (pC<|FE n ([110,117,108,108]) ([108,105,115,116]) [] j w) _) oL ?_);refine cE ?_;refine RS.fc rfl (rD 1 1) (pC (FE n ([100,108,105,115,116]) ([116,111,112]) ([[76,73,83,84],[108,105,115,116],[76,65,83,84],[108,105,115,116]]) k y) _) oL (aM rfl (HZ (args':=[.str<|[105,110,100,101,120],.str<|[116,111,112],.O false []]) (.cons (.refl _)<|.cons (.refl _)<|.cons (.nil false) .nil) (pC<|FE n ([105,110,100,101,120]) ([116,111,112]) [] m q) _) oL (aM rfl (HZ (args':=[.str<|[104,97,110,100,108,101],.str<|[105,110,100,101,120],.O false []]) (.cons (.refl _)<|.cons (.refl _)<|.cons (.nil false) .nil) (pC<|FE n ([104,97,110,100,108,101]) ([105,110,100,101,120]) [] d x) _) oL (aM rfl (HZ (args':=[.str<|[101,118,101,110,116],.str<|[105,110,100,101,120],.O false []]) (.cons (.refl _)<|.cons (.refl _)<|.cons (.nil false) .nil) (pC<|FE n ([101,118,101,110,116]) ([105,110,100,101,120]) [] o D) _) oL (aM rfl (HZ (args':=[.str<|[101,110,116,105,116,121],.str<|[105,110,100,101,120],.O false []]) (.cons (.refl _)<|.cons (.refl _)<|.cons (.nil false) .nil) (pC<|FE n ([101,110,116,105,116,121]) ([105,110,100,101,120]) [] e p) _) oL ?_))));refine cE ?_;refine RS.fc rfl (rD 2 1) (pC (FE n ([114,101,108]) ([116,111,112]) ([[76,65,66,69,76],[104,97,110,100,108,101]]) c C) _) oL ?_;refine cE ?_;refine RS.fc rfl (rD 3 1) (pC (FE n ([113,101,113]) ([116,111,112]) ([[72,73,71,72],[104,97,110,100,108,101],[76,79,87],[104,97,110,100,108,101]]) b B) _) oL (aX (u:=.sl 4 0 8 8) (Y':=⟨[(4,.row [.str<|[84,79,80],.str<|[104,97,110,100,108,101],.str<|[73,78,68,69,88],.str<|[105,110,100,101,120],.str<|[82,69,76,83],.str<|[100,108,105,115,116],.str<|[67,79,78,83],.str<|[100,108,105,115,116]] 9)],5⟩) rfl (F2 kX.h K9.h rfl rfl rfl rfl rfl rfl rfl) (RS.fc rfl (rD 4 1) (pC (FE n ([115,101,109]) ([116,111,112]) ([[84,79,80],[104,97,110,100,108,101],[73,78,68,69,88],[105,110,100,101,120],[82,69,76,83],[100,108,105,115,116],[67,79,78,83],[100,108,105,115,116]]) a A) _) oL ?_));refine cE ?_;refine RS.fc rfl (rD 5 1) (pC (FE n ([115,105,103,110]) ([116,111,112]) ([[83,69,77],[115,101,109],[65,82,71,83],[108,105,115,116]]) l z) _) oL (aX (u:=.sl 6 0 13 13) (Y':=⟨[(6,.row [.str f.Name,.iM cS f.E6,.iM lY f.E3,.str g.Name,.iM cS g.E6,.iM lY g.E3,.str i.Name,.iM cS i.E6,.iM lY i.E3,.str j.Name,.iM cS j.E6,.iM lY j.E3,.str k.Name,.iM cS k.E6,.iM lY k.E3,.str m.Name,.iM cS m.E6,.iM lY m.E3,.str d.Name,.iM cS d.E6,.iM lY d.E3,.str o.Name,.iM cS o.E6,.iM lY o.E3,.str e.Name,.iM cS e.E6,.iM lY e.E3,.str c.Name,.iM cS c.E6,.iM lY c.E3,.str b.Name,.iM cS b.E6,.iM lY b.E3,.str a.Name,.iM cS a.E6,.iM lY a.E3,.str l.Name,.iM cS l.E6,.iM lY l.E3] 153)],7⟩) rfl (F2 Qp.h yG.h rfl rfl rfl rfl rfl rfl rfl) ?_);refine go ?_;obtain rfl:=sI O;exact rT (us:=[.sl 6 0 13 13]) (u:=.iM bO<|[f,g,i,j,k,m,d,o,e,c,b,a,l]) (eL rfl (eB)) (fR 6 3)
def ff(c:Int)(a:Int->(X Int)->A ((X Int)))(b:X Int):A ((X Int)):=
 a (i64.wrap<|c+1) b
def Nz(d:Int)(c:Int->(X Int)->A ((X Int)))(a:aU):Nat->Int->(X Int)->A ((X Int))
 |0,_,_=>none|f+1,z25,b=>
  cond (decide (z25<(a.E2.length:Int))) (a8 (aC a.E2 z25) fun e=>
   a8 (aC a.E2 z25) fun g=>
   aE ((b.length+2)*8<=140737488355328/\b.length+2<=140737488355328) ((Nz d c a f) (i64.wrap<|z25+1)<|b++[e.D9,g.To])) (ff d c b)
def fg  (a:X Int):A ((X Int)):=
 some a
def QB(b:cb)(n:Nat):Nat->Int->(X Int)->A ((X Int))
 |0,_,_=>none|e+1,c,a=>
  cond (decide (c<(b.D6.length:Int))) (a8 (aC b.D6 c) fun d=>
   a8 (aC b.D6 c) fun f=>
   aE ((a.length+2)*8<=140737488355328/\a.length+2<=140737488355328) (
   Nz c (QB b n e) d n 0 (a++[f.R,(d.E2.length:Int)]))) (fg a)
def Nh(n:Nat)(a:cb):A ((X Int)):=
 QB a n n 0 ([(a.D6.length:Int)])
theorem qff(n:Nat)(a:cb)(r:(X Int))(O:Nh n a=some r):dL prog 64 [.agg [.O false<|a.D6.map bL]] (.O false<|r.map<|cI .i64):=by unfold Nh at O;refine m6 55 Hs ?_;refine go ?_;refine RS.step (u:=.vl 1 0 0<|[(a.D6.length:Int)].length) (Y':=⟨[(1,.bv (cI .i64) ([(a.D6.length:Int)]) 3 1 0),(0,.row [.iM bL a.D6] 39)],2⟩) rfl (fI.kA (cs:=(List.map (cI .i64) [(a.D6.length:Int)]).flatten) cf rfl iB.h nE.h rfl rfl rfl rfl rfl rfl rfl rfl) rfl rfl ?_;refine go ?_;refine nN (a3:=0) (fun m g c _=>QB a n m g c) (fun g c t8=>[(1,.ptr 0 0 0),(3,.vl 1 t8 0 c.length),(4,.i6 g)]) (fun _ c t8=>⟨Mj c t8 a.D6,2⟩) (kW (fun d _=>fg d) (fun d l=>[(3,.vl 1 l 0 d.length)]) fun d l=>⟨Mj d l a.D6,2⟩) O (mR ?_) ?_;intro d l O;unfold fg at O;refine go ?_;obtain rfl:=sI O;exact rT (us:=[.vl 1 l 0 d.length]) (u:=.iM (cI .i64) d) (eL rfl (eB))<|fR 1 1;intro q g c t8 O;unfold QB at O;refine gG O ?_ ?_<;>intro A O;obtain⟨b,s,O⟩:=aK O;refine go ?_;refine dO s ?_;obtain⟨e,t,O⟩:=aK O;obtain⟨y,O⟩:=bY O;refine gI t ?_;refine cE ?_;refine aX (u:=.vl 1 (t8+1) 0<|(c++[e.R,(b.E2.length:Int)]).length) (Y':=⟨(2,.row [.i6 e.R,.i6 (b.E2.length:Int)] 3)::Mj (c++[e.R,(b.E2.length:Int)]) (t8+1) a.D6,3⟩) rfl (rG rfl rfl rfl rfl (CE (cI .i64) ([e.R,(b.E2.length:Int)]) iB.h iB.h nE.h rfl (wZ .i64) rfl (DM (cI .i64) [e.R,(b.E2.length:Int)] rfl rfl rfl rfl) y)) ?_;refine go ?_;refine nN (a3:=(t8+1)) (fun m z25 f _=>Nz g (QB a n q) b m z25 f) (fun z25 f i=>[(1,.ptr 0 0 0),(3,.vl 1 i 0 f.length),(4,.i6 g),(5,.iM bB b.E2),(6,.i6 z25)]) (fun _ f i=>⟨(2,.row [.i6 e.R,.i6 (b.E2.length:Int)] 3)::Mj f i a.D6,3⟩) (kW (fun j _=>ff g (QB a n q) j) (fun j p=>[(1,.ptr 0 0 0),(3,.vl 1 p 0 j.length),(4,.i6 g)]) fun j p=>⟨(2,.row [.i6 e.R,.i6 (b.E2.length:Int)] 3)::Mj j p a.D6,3⟩) O (mR ?_) ?_;intro j p O;unfold ff at O;exact wx O;intro z z25 f i O;unfold Nz at O;refine gG O ?_ ?_<;>intro B O;obtain⟨k,w,o,v,O⟩:=c6 O;obtain⟨x,O⟩:=bY O;refine go ?_;refine dE [(0,11)] ?_;refine gJ w ?_;refine iR v ?_;refine gd ?_;refine dS ?_;refine RD.act (u:=.vl 1 (i+1) 0<|(f++[k.D9,o.To]).length) (Y':=⟨(3,.row [.i6 k.D9,.i6 o.To] 3)::(2,.row [.i6 e.R,.i6 (b.E2.length:Int)] 3)::Mj (f++[k.D9,o.To]) (i+1) a.D6,4⟩) rfl (rG rfl rfl rfl rfl (CE (cI .i64) ([k.D9,o.To]) iB.h iB.h nE.h rfl (wZ .i64) rfl (DM (cI .i64) [k.D9,o.To] rfl rfl rfl rfl) x)) rfl rfl ?_;refine gd ?_;refine bC ⟨by kernel_rfl,⟨kN rfl,trivial⟩,?_⟩;exact wx O;exact wx O;exact wx O
def Wl: A (Int):=
 some 0
def Oa(b:(X Int))(c:(X Int)):Nat->Int->A (Int)
 |0,_=>none|f+1,a=>a8 (cond (decide (a<(b.length:Int))) (some<|decide (a<(c.length:Int)))<|some false) fun i=>cond i (a8 (aC b a) fun h=>a8 (aC c a) fun d=>cond (decide (h<d)) (some<|-1)<|a8 (aC b a) fun e=>a8 (aC c a) fun g=>cond (decide (e>g)) (some 1)<|(Oa b c f)<|i64.wrap<|a+1) (Wl)
def Vl(n:Nat)(a:cb)(b:cb):A (Int):=
 a8 (Nh n a) fun c=>
 a8 (Nh n b) fun d=>
 Oa c d n 0
theorem qmo(n:Nat)(a:cb)(b:cb)(r:Int)(O:Vl n a b=some r):dL prog 44 [.agg [.O false<|a.D6.map bL],.agg [.O false<|b.D6.map bL]] (.int .i64 r):=by unfold Vl at O;refine eO 42 jn ?_;obtain⟨d,i,O⟩:=aK O;refine go ?_;refine aM rfl (pC (qff n a d i) _) Hs ?_;obtain⟨e,j,O⟩:=aK O;refine go ?_;refine aM rfl (pC (qff n b e j) _) Hs ?_;refine go ?_;refine oX (Oa d e) (fun f=>[(5,.iM (cI .i64) d),(6,.iM (cI .i64) e),(7,.i6 f)]) (fun _=>⟨[(1,.row [.iM bL b.D6] 39),(0,.row [.iM bL a.D6] 39)],2⟩) (qY Wl [] ⟨[(1,.row [.iM bL b.D6] 39),(0,.row [.iM bL a.D6] 39)],2⟩) O (tX ?_) ?_;intro O;unfold Wl at O;exact gx O;intro s f O;unfold Oa at O;obtain⟨o,c,O⟩:=aK O;refine gn ?_;refine kI [(5,.iM (cI .i64) d),(6,.iM (cI .i64) e),(7,.i6 f),(21,.bool o)] ⟨[(1,.row [.iM bL b.D6] 39),(0,.row [.iM bL a.D6] 39)],2⟩ ?_ ?_;refine gG O ?_ ?_<;>intro x O;obtain⟨w,g,p,m,O⟩:=c6 O;refine go ?_;refine dE [] ?_;refine gJ g ?_;refine iR m ?_;refine gd ?_;refine bC ⟨by kernel_rfl,trivial,?_⟩;refine gF O ?_ ?_<;>intro v O;exact gx O;obtain⟨q,l,u,k,O⟩:=c6 O;refine go ?_;refine dE [] ?_;refine gJ l ?_;refine iR k ?_;refine gd ?_;refine bC ⟨by kernel_rfl,trivial,?_⟩;refine gF O ?_ ?_<;>intro t O;exact gx O;exact wx O;exact wx O;refine go ?_;obtain⟨h,c⟩|⟨h,c⟩:=gB c;exact gy c;exact gy c
def UM(n:Nat)(a:cb)(b:cb):A (Rl):=
 a8 (Vl n a b) fun c=>some (c==0)
theorem Yx(n:Nat)(a:cb)(b:cb)(r:Rl)(O:UM n a b=some r):dL prog 20 [.agg [.O false<|a.D6.map bL],.agg [.O false<|b.D6.map bL]] (.bool r):=by unfold UM at O;refine eO 9 SA ?_;obtain⟨d,c,O⟩:=aK O;refine go ?_;refine aM rfl (pC (qmo n a b d c) _) jn ?_;exact gx O
def Mc(n:Nat)(a:X aU):A (cb):=
 some (cb.mk a)
theorem bn(n:Nat)(a:X aU)(r:cb)(O:Mc n a=some r):dL prog 35 [.O false<|a.map bL] (.agg [.O false<|r.D6.map bL]):=by unfold Mc at O;refine m6 5 LB ?_;refine go ?_;obtain rfl:=sI O;exact rT (uX (vX qM.h rfl (bG uC.h) rfl rfl rfl)<|eB) (GF _ rfl)
def SJ(b:Int)(a:X aL):A (aU):=
 some (aU.mk b a)
def I'(c:Int)(b:X Int):Nat->Int->(X aL)->A (aU)
 |0,_,_=>none|e+1,z9,a=>
  cond (decide ((i64.wrap<|z9+1)<(b.length:Int))) (a8 (aC b z9) fun d=>
   a8 (aC b<|i64.wrap<|z9+1) fun f=>
   aE ((a.length+1)*16<=140737488355328/\a.length+1<=140737488355328) ((I' c b e) (i64.wrap<|z9+2)<|a++[(aL.mk d f)])) (SJ c a)
def NH(n:Nat)(a:Int)(b:X Int):A (aU):=
 I' a b n 0 ([]:X aL)
theorem UP(n:Nat)(a:Int)(d:X Int)(r:aU)(O:NH n a d=some r):dL prog 36 [.int .i64 a,.O false<|d.map<|cI .i64] (.agg<|bL r):=by unfold NH at O;refine eO 32 wH ?_;refine gr ?_;refine gr ?_;refine gr ?_;refine dJ (tm':=fr 32 [(1,.iM (cI .i64) d),(4,.ptr 0 0 0),(5,.ptr 1 0 0),(6,.i6 0)]) (Y':=⟨[(2,.bv bB ([]:X aL) 105 2 0),(1,.row [.i6 a,.vl 2 0 0<|([]:X aL).length] 79),(0,.row [.i6 0,.J] 79)],3⟩) (Gh.trans (AG 1 1 105 2 cg NZ rfl rfl)<|xQ ⟨rfl,rfl,rfl,rfl,trivial⟩ rfl) NZ ?_;refine nN (a3:=0) (fun m z9 c _=>I' a d m z9 c) (fun z9 _ _=>[(1,.iM (cI .i64) d),(4,.ptr 0 0 0),(5,.ptr 1 0 0),(6,.i6 z9)]) (fun _ c f=>⟨[(2,.bv bB c 105 2 f),(1,.row [.i6 a,.vl 2 f 0 c.length] 79),(0,.row [.i6 0,.J] 79)],3⟩) (kW (fun b _=>SJ a b) (fun _ _=>[(4,.ptr 0 0 0),(5,.ptr 1 0 0)]) fun b e=>⟨[(2,.bv bB b 105 2 e),(1,.row [.i6 a,.vl 2 e 0 b.length] 79),(0,.row [.i6 0,.J] 79)],3⟩) O (mR ?_) ?_;intro b e O;unfold SJ at O;refine go ?_;obtain rfl:=sI O;exact rT (us:=[.agg [.i6 a,.vl 2 e 0 b.length]]) (u:=.agg [.i6 a,.iM bB b]) (uX (vX ET.h rfl (bG sD.h) rfl rfl rfl)<|eB)<|fR 2 2;intro o z9 c f O;unfold I' at O;refine gG O ?_ ?_<;>intro j O;obtain⟨l,i,p,g,O⟩:=c6 O;obtain⟨k,O⟩:=bY O;refine go ?_;refine dE [(0,12),(1,12)] ?_;refine gJ i ?_;refine iR g ?_;refine gd ?_;refine dS ?_;refine dS ?_;refine gd ?_;refine tC ?_;refine bC ⟨by kernel_rfl,⟨nC ET.h rfl (bG yF.h) rfl rfl rfl,⟨uA fZ.h rfl rfl rfl rfl,trivial⟩⟩,?_⟩;exact wx O;exact wx O
end Go.Proofs
