import Derived.Test.YtmflfedkfdkipaaGreatP10
set_option linter.all false
set_option maxRecDepth 20000
set_option maxHeartbeats 4000000
set_option synthInstance.maxSize 4000
set_option synthInstance.maxHeartbeats 200000
open List Go.IntKind
open Nat hiding beq_eq
namespace Go.Proofs
open Go Go.Rx Go.Vx Tryz
instance:mm prog tb:=⟨bQ⟩
structure oN where
 E2:Int
 Value:Int
def uG(x:oN):X U:=[.int .i64 x.E2,.int .i64 x.Value]
instance{a0:Int}{a:Int}:gf uG [.int .i64 a0,.int .i64 a] (oN.mk a0 a):=⟨rfl⟩
theorem ql6(n:Nat)(x:oN):aH n (uG x):=by simp only[uG,aH,aW,dG,cO]
theorem qta(x:oN):(uG x).length=2:=rfl
instance:gX uG 2:=⟨qta⟩
instance:BF uG:=⟨ql6⟩
structure hX where
 Name:X Yv
 Code:X Int
 F5:X Int
 E6:X oN
def hZ(x:hX):X U:=[.str x.Name,.O false<|x.Code.map<|cI .u64,.O false<|x.F5.map<|cI .i64,.O false<|x.E6.map uG]
instance{a0:X Yv}{a:X Int}{b:X Int}{a3:X oN}:gf hZ [.str a0,.O false<|a.map<|cI .u64,.O false<|b.map<|cI .i64,.O false<|a3.map uG] (hX.mk a0 a b a3):=⟨rfl⟩
theorem Nt(n:Nat)(x:hX):aH n (hZ x):=by simp only[hZ,aH,aW,dG,cO];exact⟨tF _ (fun q=>bq _ .u64 q) _,tF _ (fun q=>bq _ .i64 q) _,tF _ (fun q=>ql6 _ q) _⟩
theorem qkq(x:hX):(hZ x).length=4:=rfl
instance:gX hZ 4:=⟨qkq⟩
instance:BF hZ:=⟨Nt⟩
instance(n:Nat)(x:hX):jQ n (hZ x):=⟨Nt n x⟩
structure kH where
 Name:X Yv
 Intro:Int
def jC(x:kH):X U:=[.str x.Name,.int .i64 x.Intro]
instance{a0:X Yv}{a:Int}:gf jC [.str a0,.int .i64 a] (kH.mk a0 a):=⟨rfl⟩
theorem Xn(n:Nat)(x:kH):aH n (jC x):=by simp only[jC,aH,aW,dG,cO]
theorem qqk(x:kH):(jC x).length=2:=rfl
instance:gX jC 2:=⟨qqk⟩
instance:BF jC:=⟨Xn⟩
structure cR where
 Types:X hX
 E6:X kH
def fK(x:cR):X U:=[.O false<|x.Types.map hZ,.O false<|x.E6.map jC]
theorem qg9(n:Nat)(x:cR):aH n (fK x):=by simp only[fK,aH,aW,dG,cO];exact⟨tF _ (fun q=>Nt _ q) _,tF _ (fun q=>Xn _ q) _⟩
theorem qnc(x:cR):(fK x).length=2:=rfl
instance:gX fK 2:=⟨qnc⟩
instance(n:Nat)(x:cR):jQ n (fK x):=⟨qg9 n x⟩
theorem qhs(K:Nat)(b:B)(a:Nat)(x:cR):iO K b a (fK x)=fK x:=vS _ _ _ (qg9 K x)
structure sH where
 E2:X Yv
 Value:X Yv
def mH(x:sH):X U:=[.str x.E2,.str x.Value]
instance{a0:X Yv}{a:X Yv}:gf mH [.str a0,.str a] (sH.mk a0 a):=⟨rfl⟩
theorem qho(n:Nat)(x:sH):aH n (mH x):=by simp only[mH,aH,aW,dG,cO]
theorem qol(x:sH):(mH x).length=2:=rfl
instance:gX mH 2:=⟨qol⟩
instance:BF mH:=⟨qho⟩
structure bG where
 Name:X Yv
 F5:X (X Yv)
 E6:X sH
def bM(x:bG):X U:=[.str x.Name,.O false<|x.F5.map cS,.O false<|x.E6.map mH]
theorem qhp(n:Nat)(x:bG):aH n (bM x):=by simp only[bM,aH,aW,dG,cO];exact⟨tF _ (fun q=>z9u _ q) _,tF _ (fun q=>qho _ q) _⟩
theorem qom(x:bG):(bM x).length=3:=rfl
instance:gX bM 3:=⟨qom⟩
instance:BF bM:=⟨qhp⟩
instance(n:Nat)(x:bG):jQ n (bM x):=⟨qhp n x⟩
structure dW where
 Name:X Yv
 Code:X Int
instance:Inhabited dW:=⟨.mk default default⟩
def fV(x:dW):X U:=[.str x.Name,.O false<|x.Code.map<|cI .u64]
instance{a0:X Yv}{a:X Int}:gf fV [.str a0,.O false<|a.map<|cI .u64] (dW.mk a0 a):=⟨rfl⟩
theorem qmm(n:Nat)(x:dW):aH n (fV x):=by simp only[fV,aH,aW,dG,cO];exact tF _ (fun q=>bq _ .u64 q) _
theorem VG(x:dW):(fV x).length=2:=rfl
instance:gX fV 2:=⟨VG⟩
instance:BF fV:=⟨qmm⟩
instance(n:Nat)(x:dW):jQ n (fV x):=⟨qmm n x⟩
structure aI where
 E2:Int
 To:Int
def aU(x:aI):X U:=[.int .i64 x.E2,.int .i64 x.To]
instance{a0:Int}{a:Int}:gf aU [.int .i64 a0,.int .i64 a] (aI.mk a0 a):=⟨rfl⟩
theorem ai(n:Nat)(x:aI):aH n (aU x):=by simp only[aU,aH,aW,dG,cO]
theorem oO(x:aI):(aU x).length=2:=rfl
instance:gX aU 2:=⟨oO⟩
instance:BF aU:=⟨ai⟩
instance(n:Nat)(x:aI):jQ n (aU x):=⟨ai n x⟩
structure aK where
 R:Int
 E4:X aI
def bA(x:aK):X U:=[.int .i64 x.R,.O false<|x.E4.map aU]
instance{a0:Int}{a:X aI}:gf bA [.int .i64 a0,.O false<|a.map aU] (aK.mk a0 a):=⟨rfl⟩
instance{a0:Int}:gf bA [.int .i64 a0,.O false []] (aK.mk a0 []):=⟨rfl⟩
theorem y5(n:Nat)(x:aK):aH n (bA x):=by simp only[bA,aH,aW,dG,cO];exact tF _ (fun q=>ai _ q) _
theorem Ns(x:aK):(bA x).length=2:=rfl
instance:gX bA 2:=⟨Ns⟩
instance:BF bA:=⟨y5⟩
instance(n:Nat)(x:aK):jQ n (bA x):=⟨y5 n x⟩
structure az where
 D9:X aK
def eY(x:az):X U:=[.O false<|x.D9.map bA]
theorem Vk(n:Nat)(x:az):aH n (eY x):=by simp only[eY,aH,aW,dG,cO];exact tF _ (fun q=>y5 _ q) _
theorem qxn(x:az):(eY x).length=1:=rfl
instance:gX eY 1:=⟨qxn⟩
instance:BF eY:=⟨Vk⟩
instance(n:Nat)(x:az):jQ n (eY x):=⟨Vk n x⟩
instance:w8 tb 27 [.J,.J] [(0,1),(1,1)]:=⟨xH uV.h DD.h rfl ag⟩
instance:w8 tb 39 [.J] [(0,1)]:=⟨xH fH.h fZ.h rfl ag⟩
instance:w8 tb 79 [.int .i64 0,.J] [(0,1),(1,1)]:=⟨xH uS.h nL.h rfl ag⟩
instance:w8 tb 105 [.int .i64 0,.int .i64 0] [(0,1),(1,1)]:=⟨xH sR.h dI.h rfl ag⟩
instance mj:w8 tb 143 [.str [],.J] [(0,1),(1,1)]:=⟨xH U3.h tK.h rfl ag⟩
instance:w8 tb 147 [.str [],.J,.J,.J] [(0,1),(1,1),(2,1),(3,1)]:=⟨xH J1.h KT.h rfl ag⟩
instance:w8 tb 153 [.str [],.J,.J] [(0,1),(1,1),(2,1)]:=⟨xH yQ.h A8.h rfl ag⟩
instance:w8 tb 156 [.str [],.str []] [(0,1),(1,1)]:=⟨xH Tk.h WO.h rfl ag⟩
instance:w8 tb 186 [.int .i64 0,.int .i64 0] [(0,1),(1,1)]:=⟨xH Tj.h zh.h rfl ag⟩
instance:w8 tb 197 [.str [],.int .i64 0] [(0,1),(1,1)]:=⟨xH Ti.h zg.h rfl ag⟩
abbrev V8(a)(b:Nat):=([(1,.bv (cL<|cI .u64) a 141 1 b),(0,.row [] 141)]:X (Nat×B))
abbrev nV(a)(b:Nat):=([(0,.bv cS a 9 1 b)]:X (Nat×B))
abbrev Nd(a)(b:Nat)(c):=([(1,.bv (cI .i64) a 3 1 b),(0,.row [.iM bA c] 39)]:X (Nat×B))
abbrev FW(a)(b:Nat):=([(0,.bv (cI .i64) a 3 1 b)]:X (Nat×B))
abbrev Nc:=([(0,.row [.str [],.J,.J] 153)]:X (Nat×B))
abbrev Ve(a:U)(b)(c)(d:Nat):=([(2,.row [a,.iM (cI .u64) b] 143),(1,.bv fV c 143 2 d)]:X (Nat×B))
abbrev qxf:=([(1,.row [.str<|[70],.str<|[116,111,112],.str<|[71],.str<|[116,111,112]] 156),(0,.row [.J,.J] 27)]:X (Nat×B))
def ng: V (Int):=
 some 0
def Dh(e:X bG):Nat->Int->V (Int)
 |0,_=>none|c+1,z5=>cond (decide (z5<(e.length:Int))) (a8 (a8 (aB e z5) fun d=>cond (decide ((d.F5.length:Int)>256)) (some true)<|a8 (aB e z5) fun a=>some<|decide ((a.E6.length:Int)>256)) fun b=>cond b (some 7)<|(Dh e c)<|i64.wrap<|z5+1) (ng)
def Wp(n:Nat)(a:X bG):V (Int):=
 cond (decide ((a.length:Int)>256)) (some 7) (Dh a n 0)
theorem qre(n:Nat)(l:X bG)(r:Int)(O:Wp n l=some r):dB prog 121 [.O false<|l.map bM] (.int .i64 r):=by unfold Wp at O;refine mJ 29 YG ?_;refine gF O ?_ ?_<;>intro g O;exact gx O;refine go ?_;refine pM (Dh l) (fun z5=>[(0,.iM bM l),(3,.i6 z5)]) (fun _=>⟨[],0⟩) (qQ ng [] ⟨[],0⟩) O (sN ?_) ?_;intro O;unfold ng at O;exact gx O;intro j z5 O;unfold Dh at O;refine gG O ?_ ?_<;>intro h O;obtain⟨b,a,O⟩:=aJ O;refine gn ?_;refine lD [(0,.iM bM l),(3,.i6 z5),(28,.bool b)] ⟨[],0⟩ ?_ ?_;refine gF O ?_ ?_<;>intro i O;exact gx O;exact wx O;obtain⟨k,c,a⟩:=aJ a;refine gI c ?_;obtain⟨d,a⟩|⟨d,a⟩:=gB a;exact gy a;obtain⟨f,e,a⟩:=aJ a;obtain rfl:=sI a;refine gI e ?_;exact m8;exact wx O
def Ct(n:Nat)(b:Int):V (FK):=
 a8 (cond (decide (b>=48)) (some<|decide (b<=57))<|some false) fun a=>some a
theorem qjq(n:Nat)(d:Int)(r:FK)(O:Ct n d=some r):dB prog 176 [.int .u8 d] (.bool r):=by unfold Ct at O;refine mJ 9 LV ?_;obtain⟨b,a,O⟩:=aJ O;refine gr ?_;refine lD [(2,.bool b)] ⟨[],0⟩ ?_ ?_;exact gx O;refine go ?_;obtain⟨c,a⟩|⟨c,a⟩:=gB a;exact gy a;exact gy a
def dj(n:Nat)(b:Int):V (FK):=
 a8 (cond (decide (b>=65)) (some<|decide (b<=90))<|some false) fun a=>some a
theorem qr6(n:Nat)(d:Int)(r:FK)(O:dj n d=some r):dB prog 178 [.int .u8 d] (.bool r):=by unfold dj at O;refine mJ 9 XO ?_;obtain⟨b,a,O⟩:=aJ O;refine gr ?_;refine lD [(2,.bool b)] ⟨[],0⟩ ?_ ?_;exact gx O;refine go ?_;obtain⟨c,a⟩|⟨c,a⟩:=gB a;exact gy a;exact gy a
def Wv(n:Nat)(b:Int):V (FK):=
 a8 (cond (decide (b>=97)) (some<|decide (b<=122))<|some false) fun a=>some a
theorem qjr(n:Nat)(d:Int)(r:FK)(O:Wv n d=some r):dB prog 179 [.int .u8 d] (.bool r):=by unfold Wv at O;refine mJ 9 LU ?_;obtain⟨b,a,O⟩:=aJ O;refine gr ?_;refine lD [(2,.bool b)] ⟨[],0⟩ ?_ ?_;exact gx O;refine go ?_;obtain⟨c,a⟩|⟨c,a⟩:=gB a;exact gy a;exact gy a
def Wa(n:Nat)(g:Int)(a:FK):V (FK):=
 a8 (a8 (Ct n g) fun d=>cond d (some true)<|cond (g==45) (some true)<|cond a (a8 (dj n g) fun e=>cond e (some true)<|cond (!a) (a8 (Wv n g) fun b=>some b)<|some false)<|cond (!a) (a8 (Wv n g) fun c=>some c)<|some false) fun f=>some f
theorem qtv(n:Nat)(t:Int)(b:FK)(r:FK)(O:Wa n t b=some r):dB prog 177 [.int .u8 t,.bool b] (.bool r):=by
 unfold Wa at O;refine eO 26 XP ?_;obtain⟨s,a,O⟩:=aJ O;refine gr ?_;refine lD [(4,.bool s)] ⟨[],0⟩ ?_ ?_;exact gx O;obtain⟨p,f,a⟩:=aJ a;refine go ?_;refine aM rfl (pC (qjq n t p f) _) LV ?_;refine go ?_;obtain⟨g,a⟩|⟨g,a⟩:=gB a;obtain rfl:=sI a;refine go ?_
 repeat refine RS.no (HI rfl rfl rfl) rfl rfl ?_
 refine go ?_
 repeat refine RS.no (HI rfl rfl rfl) rfl rfl ?_
 refine go ?_;exact m8;refine go ?_;obtain⟨h,a⟩|⟨h,a⟩:=gB a;obtain rfl:=sI a;refine go ?_
 repeat refine RS.no (HI rfl rfl rfl) rfl rfl ?_
 refine go ?_
 repeat refine RS.no (HI rfl rfl rfl) rfl rfl ?_
 refine go ?_;exact m8;refine go ?_;obtain⟨i,a⟩|⟨i,a⟩:=gB a;obtain⟨q,j,a⟩:=aJ a;refine go ?_;refine aM rfl (pC (qr6 n t q j) _) XO ?_;refine go ?_;obtain⟨d,a⟩|⟨d,a⟩:=gB a;obtain rfl:=sI a;refine go ?_
 repeat refine RS.no (HI rfl rfl rfl) rfl rfl ?_
 refine go ?_;exact m8;refine go ?_;obtain⟨l,a⟩|⟨l,a⟩:=gB a;obtain⟨e,c,a⟩:=aJ a;obtain rfl:=sI a;refine go ?_;refine aM rfl (pC (qjr n t e c) _) LU ?_;refine go ?_;exact m8;exact gy a;refine go ?_;obtain⟨k,a⟩|⟨k,a⟩:=gB a;obtain⟨o,m,a⟩:=aJ a;obtain rfl:=sI a;refine go ?_;refine aM rfl (pC (qjr n t o m) _) LU ?_;refine go ?_;exact m8;exact gy a
def ol: V (FK):=
 some true
def Dl(f:X Yv)(b:FK)(n:Nat):Nat->Int->V (FK)
 |0,_=>none|d+1,a=>cond (decide (a<(f.length:Int))) (a8 (Bf f a) fun e=>a8 (Wa n e b) fun c=>cond (!c) (some false)<|(Dl f b n d)<|i64.wrap<|a+1) (ol)
def Oc(n:Nat)(f:X Yv)(c:FK):V (FK):=
 a8 (cond (decide ((f.length:Int)<1)) (some true)<|cond (decide ((f.length:Int)>32)) (some true)<|a8 (Bf f 0) fun e=>a8 (Ct n e) fun d=>cond d (some true)<|a8 (Bf f 0) fun a=>some<|a==45) fun b=>cond b (some false) (Dl f c n n 0)
theorem qjs(n:Nat)(A:X Yv)(b:FK)(r:FK)(O:Oc n A b=some r):dB prog 173 [.str A,.bool b] (.bool r):=by unfold Oc at O;refine eO 36 LW ?_;obtain⟨g,a,O⟩:=aJ O;refine gr ?_;refine lD [(0,.str A),(1,.bool b),(23,.bool g)] ⟨[],0⟩ ?_ ?_;refine gF O ?_ ?_<;>intro v O;exact gx O;refine go ?_;refine pM (Dl A b n) (fun d=>[(0,.str A),(1,.bool b),(5,.i6 d)]) (fun _=>⟨[],0⟩) (qQ ol [] ⟨[],0⟩) O (sN ?_) ?_;intro O;unfold ol at O;exact gx O;intro y d O;unfold Dl at O;refine go ?_;refine aS (u:=.i6 (A.length:Int)) rfl (HP rfl rfl rfl (by simp only[yU,NE.h])) ?_;refine gG O ?_ ?_<;>intro x O;obtain⟨e,t,i,q,O⟩:=bO O;refine go ?_;refine aS (u:=.int .u8 e) rfl (qvj NE.h rfl rfl t) ?_;refine go ?_;refine aM rfl (pC (qtv n e b i q) _) XP ?_;refine gF O ?_ ?_<;>intro z O;exact gx O;exact wx O;exact wx O;refine go ?_;refine aS (u:=.i6 (A.length:Int)) rfl (HP rfl rfl rfl (by simp only[yU,NE.h])) ?_;refine go ?_;obtain⟨j,a⟩|⟨j,a⟩:=gB a;exact gy a;refine go ?_;refine RS.w (u:=.i6 (A.length:Int)) rfl (HP rfl rfl rfl (by simp only[yU,NE.h])) ?_;refine go ?_;obtain⟨k,a⟩|⟨k,a⟩:=gB a;exact gy a;obtain⟨f,l,a⟩:=aJ a;obtain⟨s,m,a⟩:=aJ a;refine go ?_;refine RS.w (u:=.int .u8 f) rfl (qvj NE.h rfl rfl l) (aM rfl (pC (qjq n f s m) _) LV ?_);refine go ?_;obtain⟨o,a⟩|⟨o,a⟩:=gB a;exact gy a;obtain⟨c,p,a⟩:=aJ a;obtain rfl:=sI a;refine go ?_;refine RS.w (u:=.int .u8 c) rfl (qvj NE.h rfl rfl p) ?_;refine go ?_;exact m8
def Wb(n:Nat)(b:X Yv):V (FK):=
 a8 (Oc n b false) fun a=>some a
theorem qtu(n:Nat)(c:X Yv)(r:FK)(O:Wb n c=some r):dB prog 157 [.str c] (.bool r):=by unfold Wb at O;refine mJ 5 XZ ?_;obtain⟨b,a,O⟩:=aJ O;refine go ?_;refine aM rfl (pC (qjs n c false b a) _) LW ?_;exact gx O
def fv: V (Int):=
 some (-1)
def Cz(e:X bG)(b:X Yv):Nat->Int->V (Int)
 |0,_=>none|c+1,a=>cond (decide (a<(e.length:Int))) (a8 (aB e a) fun d=>cond (mR d.Name b) (some a)<|(Cz e b c)<|i64.wrap<|a+1) (fv)
def JQ(n:Nat)(b:X bG)(a:X Yv):V (Int):=
 Cz b a n 0
theorem Oh(n:Nat)(h:X bG)(a:X Yv)(r:Int)(O:JQ n h a=some r):dB prog 158 [.O false<|h.map bM,.str a] (.int .i64 r):=by unfold JQ at O;refine eO 20 tV ?_;refine go ?_;refine pM (Cz h a) (fun b=>[(0,.iM bM h),(1,.str a),(5,.i6 b)]) (fun _=>⟨[],0⟩) (qQ fv [] ⟨[],0⟩) O (sN ?_) ?_;intro O;unfold fv at O;exact gx O;intro g b O;unfold Cz at O;refine gG O ?_ ?_<;>intro f O;obtain⟨d,c,O⟩:=aJ O;refine gI c ?_;refine aS (u:=.bool<|mR d.Name a) rfl (HO rfl rfl rfl rfl) ?_;refine gF O ?_ ?_<;>intro e O;exact gx O;exact wx O;exact wx O
def ni: V (Int):=
 some 0
def Dj(f:X bG)(n:Nat):Nat->Int->V (Int)
 |0,_=>none|a+1,z4=>cond (decide (z4<(f.length:Int))) (a8 (aB f z4) fun e=>a8 (Wb n e.Name) fun d=>cond (!d) (some 1)<|a8 (aB f z4) fun c=>a8 (JQ n f c.Name) fun b=>cond (decide (b<z4)) (some 4)<|(Dj f n a)<|i64.wrap<|z4+1) (ni)
def dg(n:Nat)(a:X bG):V (Int):=
 Dj a n n 0
theorem qrc(n:Nat)(m:X bG)(r:Int)(O:dg n m=some r):dB prog 122 [.O false<|m.map bM] (.int .i64 r):=by unfold dg at O;refine mJ 26 v07 ?_;refine go ?_;refine pM (Dj m n) (fun z4=>[(0,.iM bM m),(3,.i6 z4)]) (fun _=>⟨[],0⟩) (qQ ni [] ⟨[],0⟩) O (sN ?_) ?_;intro O;unfold ni at O;exact gx O;intro l z4 O;unfold Dj at O;refine gG O ?_ ?_<;>intro j O;obtain⟨h,b,g,c,O⟩:=bO O;refine gI b ?_;refine aM rfl (pC (qtu n h.Name g c) _) XZ ?_;refine gF O ?_ ?_<;>intro i O;exact gx O;obtain⟨f,a,e,d,O⟩:=bO O;refine gI a ?_;refine aM rfl (pC (Oh n m f.Name e d) _) tV ?_;refine gF O ?_ ?_<;>intro k O;exact gx O;exact wx O;exact wx O
def ob: V (FK):=
 some false
def Pb(e:X (X Yv))(b:X Yv):Nat->Int->V (FK)
 |0,_=>none|c+1,a=>cond (decide (a<(e.length:Int))) (a8 (aB e a) fun d=>cond (mR d b) (some true)<|(Pb e b c)<|i64.wrap<|a+1) (ob)
def HW(n:Nat)(b:X (X Yv))(a:X Yv):V (FK):=
 Pb b a n 0
theorem R6(n:Nat)(h:X (X Yv))(a:X Yv)(r:FK)(O:HW n h a=some r):dB prog 126 [.O false<|h.map cS,.str a] (.bool r):=by unfold HW at O;refine eO 18 o5 ?_;refine go ?_;refine pM (Pb h a) (fun b=>[(0,.iM cS h),(1,.str a),(5,.i6 b)]) (fun _=>⟨[],0⟩) (qQ ob [] ⟨[],0⟩) O (sN ?_) ?_;intro O;unfold ob at O;exact gx O;intro g b O;unfold Pb at O;refine gG O ?_ ?_<;>intro f O;obtain⟨d,c,O⟩:=aJ O;refine gI c ?_;refine aS (u:=.bool<|mR d a) rfl (HO rfl rfl rfl rfl) ?_;refine gF O ?_ ?_<;>intro e O;exact gx O;exact wx O;exact wx O
def rk(z4:Int)(a:Int->V (Int)): V (Int):=
 a (i64.wrap<|z4+1)
def Dp(j:X bG)(n:Nat)(z4:Int)(c:Int->V (Int))(b:bG):Nat->Int->V (Int)
 |0,_=>none|e+1,a=>
  cond (decide (a<(b.F5.length:Int))) (a8 (aB b.F5 a) fun i=>
   a8 (JQ n j i) fun d=>cond (decide (d<0)) (some 5) (a8 (sX b.F5 0 a) fun f=>
    a8 (aB b.F5 a) fun h=>
    a8 (HW n f h) fun g=>cond g (some 4)<|(Dp j n z4 c b e)<|i64.wrap<|a+1)) (rk z4 c)
def rn: V (Int):=
 some 0
def OF(c:X bG)(n:Nat):Nat->Int->V (Int)
 |0,_=>none|a+1,z4=>cond (decide (z4<(c.length:Int))) (a8 (aB c z4) fun b=>Dp c n z4 (OF c n a) b n 0) (rn)
def dx(n:Nat)(a:X bG):V (Int):=
 OF a n n 0
theorem qop(n:Nat)(z:X bG)(r:Int)(O:dx n z=some r):dB prog 123 [.O false<|z.map bM] (.int .i64 r):=by unfold dx at O;refine mJ 38 YE ?_;refine go ?_;refine pM (OF z n) (fun z4=>[(0,.iM bM z),(3,.i6 z4)]) (fun _=>⟨[],0⟩) (qQ rn [] ⟨[],0⟩) O (sN ?_) ?_;intro O;unfold rn at O;exact gx O;intro b z4 O;unfold OF at O;refine gG O ?_ ?_<;>intro w O;obtain⟨d,f,O⟩:=aJ O;refine gI f ?_;refine pM (Dp z n z4 (OF z n b) d) (fun a=>[(0,.iM bM z),(3,.i6 z4),(4,.iM cS d.F5),(5,.i6 a)]) (fun _=>⟨[],0⟩) (qQ (rk z4<|OF z n b) [(0,.iM bM z),(3,.i6 z4)] ⟨[],0⟩) O (sN ?_) ?_;intro O;unfold rk at O;exact wx O;intro x a O;unfold Dp at O;refine gG O ?_ ?_<;>intro v O;obtain⟨s,i,e,g,O⟩:=bO O;refine gI i ?_;refine aM rfl (pC (Oh n z s e g) _) tV ?_;refine gF O ?_ ?_<;>intro t O;exact gx O;obtain⟨c,o,O⟩:=aJ O;obtain⟨l,p⟩:=bn cS .i64 o;obtain⟨q,k,m,j,O⟩:=bO O;refine go ?_;refine dE [] ?_;refine gd ?_;refine aQ (u:=.iM cS c) rfl (tE rfl uC (uB rfl) (zP cS lM.h (aV KS.h) Q4 l p)) ?_;refine gJ k ?_;refine dN rfl (pC<|R6 n c q m j) o5 ?_;refine bB ⟨by kernel_rfl,trivial,?_⟩;refine gF O ?_ ?_<;>intro y O;exact gx O;exact wx O;exact wx O;exact wx O
def nh: V (FK):=
 some true
def Di(f:bG)(c:X (X Yv))(n:Nat):Nat->Int->V (FK)
 |0,_=>none|e+1,b=>cond (decide (b<(f.F5.length:Int))) (a8 (aB f.F5 b) fun a=>a8 (HW n c a) fun d=>cond (!d) (some false)<|(Di f c n e)<|i64.wrap<|b+1) (nh)
def de(n:Nat)(b:bG)(a:X (X Yv)):V (FK):=
 Di b a n n 0
theorem qrd(n:Nat)(j:bG)(a:X (X Yv))(r:FK)(O:de n j a=some r):dB prog 159 [.agg<|bM j,.O false<|a.map cS] (.bool r):=by unfold de at O;refine eO 21 XY ?_;refine go ?_;refine pM (Di j a n) (fun c=>[(1,.iM cS a),(2,.ptr 0 0 0),(5,.i6 c)]) (fun _=>⟨[(0,.row (bM j) 153)],1⟩) (qQ nh [] ⟨[(0,.row (bM j) 153)],1⟩) O (sN ?_) ?_;intro O;unfold nh at O;exact gx O;intro i c O;unfold Di at O;refine gG O ?_ ?_<;>intro g O;obtain⟨b,f,e,d,O⟩:=bO O;refine gI f ?_;refine aM rfl (pC (R6 n a b e d) _) o5 ?_;refine gF O ?_ ?_<;>intro h O;exact gx O;exact wx O;exact wx O
def Yl(b:FK->(X<|X Yv)->V ((X<|X Yv)))(a:FK)(c:X (X Yv)):V ((X<|X Yv)):=
 b a c
def Yk(a:Int)(b:FK->(X Yv)->Int->V ((X<|X Yv)))(c:X Yv):V ((X<|X Yv)):=
 b true c (i64.wrap<|a+1)
def rq(a:X (X Yv))(c:FK->(X<|X Yv)->V ((X<|X Yv)))(b:FK)(d:X Yv):V ((X<|X Yv)):=
 cond b (aE ((a.length+1)*16<=140737488355328/\a.length+1<=140737488355328) (
  Yl c b (a++[d]))) (Yl c b a)
def OG(p:X bG)(n:Nat)(b:X (X Yv))(d:FK->(X<|X Yv)->V ((X<|X Yv))):Nat->FK->(X Yv)->Int->V ((X<|X Yv))
 |0,_,_,_=>none|f+1,e,c,a=>cond (decide (a<(p.length:Int))) (a8 (a8 (aB p a) fun m=>a8 (HW n b m.Name) fun h=>cond h (some true)<|a8 (aB p a) fun l=>a8 (de n l b) fun k=>some<|!k) fun j=>cond j ((OG p n b d f) e c<|i64.wrap<|a+1)<|a8 (cond (!e) (some true)<|a8 (aB p a) fun o=>some<|lP o.Name c) fun i=>cond i (a8 (aB p a) fun g=>Yk a (OG p n b d f) g.Name)<|Yk a (OG p n b d f) c) (rq b d e c)
def ru  (a:X (X Yv)):V ((X<|X Yv)):=
 some a
def JU(d:X bG)(n:Nat):Nat->FK->(X<|X Yv)->V ((X<|X Yv))
 |0,_,_=>none|c+1,b,a=>cond b (OG d n a (JU d n c) n false [] 0) (ru a)
def dy(n:Nat)(a:X bG):V ((X<|X Yv)):=
 JU a n n true ([]:X (X Yv))
theorem qoo(n:Nat)(R:X bG)(r:(X<|X Yv))(O:dy n R=some r):dB prog 124 [.O false<|R.map bM] (.O false<|r.map cS):=by unfold dy at O;refine mJ 52 YD ?_;refine gr ?_;refine gr ?_;refine gr ?_;refine gV 3 9 1 1 ?_;refine oH (a3:=0) (fun m j a _=>JU R n m j a) (fun j a t8=>[(0,.iM bM R),(3,.vl 0 t8 0 a.length),(4,.bool j)]) (fun _ a t8=>⟨nV a t8,1⟩) (lR (fun c _=>ru c) (fun c h=>[(3,.vl 0 h 0 c.length)]) fun c h=>⟨nV c h,1⟩) O (nS ?_) ?_;intro c h O;unfold ru at O;refine go ?_;obtain rfl:=sI O;exact rT (us:=[.vl 0 h 0 c.length]) (u:=.iM cS c) (dP rfl (dU))<|fR 0 1;intro k j a t8 O;unfold JU at O;refine gG O ?_ ?_<;>intro L O;refine go ?_;refine oH (OG R n a<|JU R n k) (fun l g f=>[(0,.iM bM R),(3,.vl 0 t8 0 a.length),(4,.bool l),(5,.str g),(6,.i6 f)]) (fun _ _ _=>⟨nV a t8,1⟩) (lR (rq a<|JU R n k) (fun i o=>[(0,.iM bM R),(3,.vl 0 t8 0 a.length),(4,.bool i),(5,.str o)]) fun _ _=>⟨nV a t8,1⟩) O (nS ?_) ?_;intro i o O;unfold rq at O;refine gr ?_;refine OZ r (fun e _=>Yl (JU R n k) i e) (fun e t25=>[(0,.iM bM R),(3,.vl 0 t25 0 e.length),(4,.bool i)]) (fun e t25=>⟨nV e t25,1⟩) ?_ ?_;intro e t25 O;unfold Yl at O;exact wx O;refine cF O ?_ ?_<;>intro N O;obtain⟨M,O⟩:=bU O;refine go ?_;refine bP ?_;refine bP ?_;exact wx O;exact wx O;intro z l g f O;unfold OG at O;refine gG O ?_ ?_<;>intro Q O;obtain⟨v,b,O⟩:=aJ O;refine gn ?_;refine lD [(0,.iM bM R),(3,.vl 0 t8 0 a.length),(4,.bool l),(5,.str g),(6,.i6 f),(29,.bool v)] ⟨nV a t8,1⟩ ?_ ?_;refine gF O ?_ ?_<;>intro K O;exact wx O;obtain⟨t,d,O⟩:=aJ O;refine gn ?_;refine lD [(0,.iM bM R),(3,.vl 0 t8 0 a.length),(5,.str g),(6,.i6 f),(40,.bool t)] ⟨nV a t8,1⟩ ?_ ?_;refine gn ?_;refine uc r (Yk f<|OG R n a (JU R n k) z) (fun p=>[(0,.iM bM R),(3,.vl 0 t8 0 a.length),(5,.str p),(6,.i6 f)]) (fun _=>⟨nV a t8,1⟩) ?_ ?_;intro p O;unfold Yk at O;exact wx O;refine cF O ?_ ?_<;>intro P O;obtain⟨I,x,O⟩:=aJ O;refine gI x ?_;exact n? O;exact wx O;refine go ?_;obtain⟨J,d⟩|⟨J,d⟩:=gB d;exact gy d;obtain⟨G,H,d⟩:=aJ d;obtain rfl:=sI d;refine gI H ?_;refine RS.w (u:=.bool<|lP G.Name g) rfl (HO rfl rfl rfl rfl) ?_;refine go ?_;exact m8;obtain⟨E,C,b⟩:=aJ b;obtain⟨s,F,b⟩:=aJ b;refine gI C ?_;refine aM rfl (vw (R6 n a E.Name s F)<|sO 0 1) o5 ?_;refine go ?_;obtain⟨B,b⟩|⟨B,b⟩:=gB b;exact gy b;obtain⟨D,A,b⟩:=aJ b;obtain⟨y,q,b⟩:=aJ b;obtain rfl:=sI b;refine gI A ?_;refine aM rfl (vw (qrd n D a y q)<|sO 0 1) XY ?_;refine go ?_;exact m8;exact wx O;exact wx O
def Ya(b:Int)(a:Int->Int->V (Int))(z25:Int):V (Int):=
 a z25 (i64.wrap<|b+1)
def nr(c:X bG)(n:Nat)(b:Int):V (Int):=
 cond (b != 1) (some 1) (a8 (dy n c) fun a=>cond (decide ((a.length:Int)<(c.length:Int))) (some 6)<|some 0)
def RE(e:X bG)(n:Nat):Nat->Int->Int->V (Int)
 |0,_,_=>none|c+1,b,a=>cond (decide (a<(e.length:Int))) (a8 (aB e a) fun d=>cond ((d.F5.length:Int)==0) (Ya a (RE e n c)<|i64.wrap<|b+1)<|Ya a (RE e n c) b) (nr e n b)
def Wr(n:Nat)(d:X bG):V (Int):=
 a8 (Wp n d) fun a=>cond (a != 0) (some a) (a8 (dg n d) fun b=>cond (b != 0) (some b)<|a8 (dx n d) fun c=>cond (c != 0) (some c)<|RE d n n 0 0)
theorem qrb(n:Nat)(x:X bG)(r:Int)(O:Wr n x=some r):dB prog 90 [.O false<|x.map bM] (.int .i64 r):=by unfold Wr at O;refine mJ 46 vi ?_;obtain⟨k,d,O⟩:=aJ O;refine go ?_;refine aM rfl (pC (qre n x k d) _) YG ?_;refine gF O ?_ ?_<;>intro p O;exact gx O;obtain⟨l,e,O⟩:=aJ O;refine go ?_;refine aM rfl (pC (qrc n x l e) _) v07 ?_;refine gF O ?_ ?_<;>intro q O;exact gx O;obtain⟨m,f,O⟩:=aJ O;refine go ?_;refine aM rfl (pC (qop n x m f) _) YE ?_;refine gF O ?_ ?_<;>intro o O;exact gx O;refine go ?_;refine CF (RE x n) (fun b a=>[(0,.iM bM x),(6,.i6 b),(7,.i6 a)]) (fun _ _=>⟨[],0⟩) (rJ (nr x n) (fun c=>[(0,.iM bM x),(6,.i6 c)]) fun _=>⟨[],0⟩) O (vF ?_) ?_;intro c O;unfold nr at O;refine gF O ?_ ?_<;>intro s O;exact gx O;obtain⟨h,g,O⟩:=aJ O;refine go ?_;refine aM rfl (pC (qoo n x h g) _) YD ?_;refine gF O ?_ ?_<;>intro w O;exact gx O;exact gx O;intro i b a O;unfold RE at O;refine gG O ?_ ?_<;>intro v O;obtain⟨t,j,O⟩:=aJ O;refine go ?_;refine c8 j ?_;refine gn ?_;refine uc r (Ya a<|RE x n i) (fun z25=>[(0,.iM bM x),(6,.i6 z25),(7,.i6 a)]) (fun _=>⟨[],0⟩) ?_ ?_;intro z25 O;unfold Ya at O;exact wx O;refine cF O ?_ ?_<;>intro u O;exact wx O;exact wx O;exact wx O
def Xb(g:X (X Yv))(b:X Yv)(c:Int):V ((X<|X Yv)):=
 a8 (cond (decide (c<(g.length:Int))) (a8 (aB g c) fun f=>some<|mR f b)<|some false) fun d=>cond d (some g) (a8 (sX g 0 c) fun a=>
  aE (a.length*16<=140737488355328/\a.length<=140737488355328) (
  aE ((a.length+1)*16<=140737488355328/\a.length+1<=140737488355328) (
  a8 (sX g c (g.length:Int)) fun e=>
  aE (((a++[b]).length+e.length)*16<=140737488355328/\(a++[b]).length+e.length<=140737488355328) (some<|(a++[b])++e))))
def Oi(f:X (X Yv))(b:X Yv):Nat->Int->V ((X<|X Yv))
 |0,_=>none|d+1,a=>a8 (cond (decide (a<(f.length:Int))) (a8 (aB f a) fun e=>some<|lP e b)<|some false) fun c=>cond c ((Oi f b d)<|i64.wrap<|a+1) (Xb f b a)
def QS(n:Nat)(b:X (X Yv))(a:X Yv):V ((X<|X Yv)):=
 Oi b a n 0
theorem Nz(n:Nat)(G:X (X Yv))(a:X Yv)(r:(X<|X Yv))(O:QS n G a=some r):dB prog 116 [.O false<|G.map cS,.str a] (.O false<|r.map cS):=by unfold QS at O;refine eO 48 tW ?_;refine go ?_;refine pM (Oi G a) (fun g=>[(0,.iM cS G),(1,.str a),(5,.J),(6,.i6 g)]) (fun _=>⟨[],0⟩) (rJ (Xb G a) (fun i=>[(0,.iM cS G),(1,.str a),(5,.J),(6,.i6 i)]) fun _=>⟨[],0⟩) O (vF ?_) ?_;intro i O;unfold Xb at O;obtain⟨e,b,O⟩:=aJ O;refine gn ?_;refine lD [(0,.iM cS G),(1,.str a),(5,.J),(6,.i6 i),(32,.bool e)] ⟨[],0⟩ ?_ ?_;refine gF O ?_ ?_<;>intro B O;exact gx O;obtain⟨d,p,O⟩:=aJ O;obtain⟨q,o⟩:=bn cS .i64 p;obtain⟨k,O⟩:=bU O;refine go ?_;refine aS (u:=.iM cS d) rfl (tE rfl uC (uB rfl) (zP cS lM.h (aV KS.h) Q4 q o)) (aS (u:=.vl 0 0 0 d.length) (Y':=⟨[(0,.bv cS d 9 1 0)],1⟩) rfl (qV rfl rfl rfl rfl (quq cS d lM.h lM.h KS.h rfl (QB cS Q4) k)) ?_);obtain⟨C,O⟩:=bU O;refine go ?_;refine bP ?_;refine bP ?_;obtain⟨f,t,O⟩:=aJ O;obtain⟨y,s⟩:=Ui cS .i64 t;obtain⟨E,O⟩:=bU O;refine go ?_;refine aS (u:=.iM cS f) rfl (tE rfl (uB rfl) uC (zP cS lM.h (aV KS.h) Q4 y s)) ?_;refine bP ?_;refine go ?_;obtain rfl:=sI O;exact rT (us:=[.vl 0 2 0<|((d++[a])++f).length]) (u:=.iM cS<|(d++[a])++f) (dP rfl (dU))<|fR 0 1;refine go ?_;obtain⟨m,b⟩|⟨m,b⟩:=gB b;obtain⟨x,l,b⟩:=aJ b;obtain rfl:=sI b;refine gI l ?_;refine RS.w (u:=.bool<|mR x a) rfl (HO rfl rfl rfl rfl) ?_;refine go ?_;exact m8;exact gy b;intro D g O;unfold Oi at O;obtain⟨j,c,O⟩:=aJ O;refine gn ?_;refine lD [(0,.iM cS G),(1,.str a),(5,.J),(6,.i6 g),(18,.bool j)] ⟨[],0⟩ ?_ ?_;refine gG O ?_ ?_<;>intro F O;exact wx O;exact wx O;refine go ?_;obtain⟨z,c⟩|⟨z,c⟩:=gB c;obtain⟨A,v,c⟩:=aJ c;obtain rfl:=sI c;refine gI v ?_;refine RS.w (u:=.bool<|lP A a) rfl (HO rfl rfl rfl rfl) ?_;refine go ?_;exact m8;exact gy c
def nk  (a:X (X Yv)):V ((X<|X Yv)):=
 some a
def Dk(f:X bG)(n:Nat):Nat->(X<|X Yv)->Int->V ((X<|X Yv))
 |0,_,_=>none|c+1,b,a=>cond (decide (a<(f.length:Int))) (a8 (aB f a) fun e=>a8 (QS n b e.Name) fun d=>(Dk f n c) d<|i64.wrap<|a+1) (nk b)
def Wq(n:Nat)(a:X bG):V ((X<|X Yv)):=
 Dk a n n [] 0
theorem qjv(n:Nat)(j:X bG)(r:(X<|X Yv))(O:Wq n j=some r):dB prog 91 [.O false<|j.map bM] (.O false<|r.map cS):=by unfold Wq at O;refine mJ 19 Iq ?_;refine gr ?_;refine gr ?_;refine gr ?_;refine cD (tm':=fr 19 [(0,.iM bM j),(3,.iM cS []),(4,.i6 0)]) (Gh.trans (Gh.sub (l':=[(0,.iM bM j),(3,.J),(4,.i6 0)]) ⟨rfl,rfl,rfl,trivial⟩)<|Gh.sD (l':=[(0,.iM bM j),(3,.iM cS []),(4,.i6 0)])<|.cons (.refl _)<|.cons (.nil false)<|.cons (.refl _) .nil) NZ ?_;refine CF (Dk j n) (fun a c=>[(0,.iM bM j),(3,.iM cS a),(4,.i6 c)]) (fun _ _=>⟨[],0⟩) (rJ nk (fun b=>[(3,.iM cS b)]) fun _=>⟨[],0⟩) O (vF ?_) ?_;intro b O;unfold nk at O;exact gx O;intro i a c O;unfold Dk at O;refine gG O ?_ ?_<;>intro h O;obtain⟨g,d,f,e,O⟩:=bO O;refine gI d ?_;refine aM rfl (pC (Nz n a g.Name f e) _) tW ?_;exact wx O;exact wx O
def ny  (a:X (X Yv)):V ((X<|X Yv)):=
 some a
def VN(n:Nat)(a:X (X Yv)):Nat->(X<|X Yv)->Int->V ((X<|X Yv))
 |0,_,_=>none|d+1,c,b=>cond (decide (b<(a.length:Int))) (a8 (aB a b) fun f=>a8 (QS n c f) fun e=>(VN n a d) e<|i64.wrap<|b+1) (ny c)
def Hq(a:Int)(b:Int->(X<|X Yv)->V ((X<|X Yv)))(c:X (X Yv)):V ((X<|X Yv)):=
 b (i64.wrap<|a+1) c
def nv(c:Int)(b:Int->(X<|X Yv)->V ((X<|X Yv)))(a:X (X Yv)):V ((X<|X Yv)):=
 b (i64.wrap<|c+1) a
def RG(m:X bG)(n:Nat)(c:Int)(e:Int->(X<|X Yv)->V ((X<|X Yv))):Nat->Int->(X<|X Yv)->V ((X<|X Yv))
 |0,_,_=>none|g+1,b,a=>
  cond (decide (b<(m.length:Int))) (a8 (a8 (aB m b) fun f=>
   a8 (aB a c) fun k=>
   a8 (HW n f.F5 k) fun l=>cond l (a8 (aB m b) fun h=>
    a8 (HW n a h.Name) fun i=>some<|!i)<|some false) fun d=>cond d (a8 (aB m b) fun j=>
    aE ((a.length+1)*16<=140737488355328/\a.length+1<=140737488355328) (
    Hq b (RG m n c e g) (a++[j.Name])))<|Hq b (RG m n c e g) a) (nv c e a)
def nz(n:Nat)(a:X (X Yv)):V ((X<|X Yv)):=
 VN n a n [] 0
def OC(d:X bG)(n:Nat):Nat->Int->(X<|X Yv)->V ((X<|X Yv))
 |0,_,_=>none|c+1,b,a=>cond (decide (b<(a.length:Int))) (RG d n b (OC d n c) n 0 a) (nz n a)
def Ws(n:Nat)(c:X bG)(a:X Yv):V ((X<|X Yv)):=
 a8 (JQ n c a) fun b=>cond (decide (b<0)) (some []) (OC c n n 0<|[a])
theorem qra(n:Nat)(p1:X bG)(l:X Yv)(r:(X<|X Yv))(O:Ws n p1 l=some r):dB prog 125 [.O false<|p1.map bM,.str l] (.O false<|r.map cS):=by unfold Ws at O;refine eO 69 YC ?_;obtain⟨L,H,O⟩:=aJ O;refine go ?_;refine aM rfl (pC (Oh n p1 l L H) _) tV ?_;refine gF O ?_ ?_<;>intro V O;refine go ?_;obtain rfl:=sI O;exact rT (us:=[.J]) (u:=.O false []) (dP rfl (dU)) wR;refine go ?_;refine RS.step (u:=.vl 0 0 0<|[l].length) (Y':=⟨[(0,.bv cS ([l]) 9 1 0)],1⟩) rfl (fY.jD (cs:=(List.map cS [l]).flatten) bQ rfl lM.h KS.h rfl rfl rfl rfl rfl rfl rfl rfl) rfl rfl ?_;refine go ?_;refine oH (a3:=0) (fun m c j _=>OC p1 n m c j) (fun c j o=>[(0,.iM bM p1),(5,.vl 0 o 0 j.length),(6,.i6 c)]) (fun _ j o=>⟨nV j o,1⟩) (lR (fun b _=>nz n b) (fun b d=>[(5,.vl 0 d 0 b.length)]) fun b d=>⟨nV b d,1⟩) O (nS ?_) ?_;intro b d O;unfold nz at O;refine gr ?_;refine gr ?_;refine cD (tm':=fr 69 [(5,.vl 0 d 0 b.length),(8,.iM cS []),(9,.i6 0)]) (Gh.trans (Gh.sub (l':=[(5,.vl 0 d 0 b.length),(8,.J),(9,.i6 0)]) ⟨rfl,rfl,rfl,trivial⟩)<|Gh.sD (l':=[(5,.vl 0 d 0 b.length),(8,.iM cS []),(9,.i6 0)])<|.cons (.refl _)<|.cons (.nil false)<|.cons (.refl _) .nil) NZ ?_;refine CF (VN n b) (fun w C=>[(5,.vl 0 d 0 b.length),(8,.iM cS w),(9,.i6 C)]) (fun _ _=>⟨nV b d,1⟩) (rJ ny (fun B=>[(8,.iM cS B)]) fun _=>⟨nV b d,1⟩) O (vF ?_) ?_;intro B O;unfold ny at O;exact gx O;intro W w C O;unfold VN at O;refine gG O ?_ ?_<;>intro xE O;obtain⟨R,D,M,K,O⟩:=bO O;refine go ?_;refine aS rfl (cV rfl rfl (gP cS lM.h (aV KS.h) bF Q4 (vo rfl) D)) ?_;refine aS rfl (o8 cS (fun x=>.str x) NE.h rfl (fun _=>rfl) rfl rfl D) (aM rfl (pC (Nz n w R M K) _) tW ?_);exact wx O;exact wx O;intro v c j o O;unfold OC at O;refine gG O ?_ ?_<;>intro Z O;refine go ?_;refine oH (a3:=o) (fun m g e _=>RG p1 n c (OC p1 n v) m g e) (fun g e f=>[(0,.iM bM p1),(5,.vl 0 f 0 e.length),(6,.i6 c),(7,.i6 g)]) (fun _ e f=>⟨nV e f,1⟩) (lR (fun i _=>nv c (OC p1 n v) i) (fun i q=>[(0,.iM bM p1),(5,.vl 0 q 0 i.length),(6,.i6 c)]) fun i q=>⟨nV i q,1⟩) O (nS ?_) ?_;intro i q O;unfold nv at O;exact wx O;intro J g e f O;unfold RG at O;refine gG O ?_ ?_<;>intro Y O;obtain⟨s,a,O⟩:=aJ O;refine gn ?_;refine lD [(0,.iM bM p1),(5,.vl 0 f 0 e.length),(6,.i6 c),(7,.i6 g),(47,.bool s)] ⟨nV e f,1⟩ ?_ ?_;refine gn ?_;refine OZ r (fun k _=>Hq g (RG p1 n c (OC p1 n v) J) k) (fun k p=>[(0,.iM bM p1),(5,.vl 0 p 0 k.length),(6,.i6 c),(7,.i6 g)]) (fun k p=>⟨nV k p,1⟩) ?_ ?_;intro k p O;unfold Hq at O;exact wx O;refine cF O ?_ ?_<;>intro T O;obtain⟨U,G,O⟩:=aJ O;obtain⟨S,O⟩:=bU O;refine gI G ?_;refine bP ?_;refine bP ?_;exact wx O;exact wx O;obtain⟨y,Q,a⟩:=aJ a;obtain⟨N,F,a⟩:=aJ a;obtain⟨P,I,a⟩:=aJ a;refine dE [] ?_;refine gJ Q ?_;refine aQ rfl (cV rfl rfl (gP cS lM.h (aV KS.h) bF Q4 (vo rfl) F)) ?_;refine aQ rfl (o8 cS (fun x=>.str x) NE.h rfl (fun _=>rfl) rfl rfl F) (dN rfl (pC<|R6 n y.F5 N P I) o5 ?_);refine gd ?_;obtain⟨E,a⟩|⟨E,a⟩:=gB a;obtain⟨z,f?,a⟩:=aJ a;obtain⟨A,t,a⟩:=aJ a;obtain rfl:=sI a;refine gJ f? ?_;refine RD.call (u:=.bool A) (args:=[.vl 0 f 0 e.length,.str z.Name]) (uy rfl rfl rfl E) (qW rfl rfl o5 rfl rfl rfl) (vw (R6 n e z.Name A t)<|sO 0 1) rfl rfl ?_;refine gd ?_;refine bB ⟨by kernel_rfl,trivial,?_⟩;refine go ?_;exact m8;obtain rfl:=sI a;refine gd ?_;refine bB ⟨by kernel_rfl,trivial,?_⟩;refine go ?_;exact m8;exact wx O;exact wx O
def Ym(b:X Int)(z5:Int):V ((X Int)):=
 a8 (sX b 0 z5) fun a=>
 aE (a.length*8<=140737488355328/\a.length<=140737488355328) (some a)
def VR(d:X Int):Nat->Int->V ((X Int))
 |0,_=>none|b+1,z4=>a8 (cond (decide (z4>0)) (a8 (aB d<|i64.wrap<|z4-1) fun c=>some<|c==0)<|some false) fun a=>cond a ((VR d b)<|i64.wrap<|z4-1) (Ym d z4)
def O8(n:Nat)(a:X Int):V ((X Int)):=
 VR a n (a.length:Int)
theorem oj(n:Nat)(o:X Int)(r:(X Int))(O:O8 n o=some r):dB prog 119 [.O false<|o.map<|cI .u64] (.O false<|r.map<|cI .u64):=by unfold O8 at O;refine mJ 23 B7 ?_;refine go ?_;refine pM (VR o) (fun z4=>[(0,.iM (cI .u64) o),(3,.i6 z4)]) (fun _=>⟨[],0⟩) (rJ (Ym o) (fun z5=>[(0,.iM (cI .u64) o),(3,.i6 z5)]) fun _=>⟨[],0⟩) O (vF ?_) ?_;intro z5 O;unfold Ym at O;obtain⟨b,f,O⟩:=aJ O;obtain⟨g,i⟩:=bn (cI .u64) .i64 f;obtain⟨e,O⟩:=bU O;refine go ?_;refine aS (u:=.sl 0 0 0 0) (Y':=⟨[(0,.row [] 213)],1⟩) rfl (vQ gS.h mT.h rfl rfl rfl rfl rfl rfl rfl) ?_;refine go ?_;refine aS (u:=.iM (cI .u64) b) rfl (tE rfl uC (uB rfl) (zP (cI .u64) gS.h (aV mT.h) (iK .u64) g i)) (aS (u:=.vl 1 0 0 b.length) (Y':=⟨[(1,.bv (cI .u64) b 213 1 0),(0,.row [] 213)],2⟩) rfl (qV rfl rfl rfl rfl (Ce (cI .u64) b gS.h gS.h mT.h rfl rfl rfl (QB (cI .u64)<|iK .u64) e)) ?_);refine go ?_;obtain rfl:=sI O;exact rT (us:=[.vl 1 0 0 b.length]) (u:=.iM (cI .u64) b) (dP rfl (dU))<|fR 1 1;intro k z4 O;unfold VR at O;obtain⟨c,a,O⟩:=aJ O;refine gn ?_;refine lD [(0,.iM (cI .u64) o),(3,.i6 z4),(15,.bool c)] ⟨[],0⟩ ?_ ?_;refine gG O ?_ ?_<;>intro l O;exact wx O;exact wx O;refine go ?_;obtain⟨j,a⟩|⟨j,a⟩:=gB a;obtain⟨m,d,a⟩:=aJ a;obtain rfl:=sI a;refine gI d ?_;exact m8;exact gy a
def dh(n:Nat)(a:X Int):V ((X Int)×Int):=
 aE ((64:Int).toNat=a.length) (
 a8 (O8 n a) fun b=>some (b,0))
def Cs(l:X Int)(n:Nat):Nat->Int->(X Int)->V ((X Int)×Int)
 |0,_,_=>none|g+1,a,b=>
  cond (decide (a<(l.length:Int))) (a8 (a8 (aB l a) fun e=>cond (decide (e<0)) (some true)<|a8 (aB l a) fun h=>some<|decide (h>4095)) fun f=>cond f (some ([],2)) (a8 (aB l a) fun c=>
    a8 (aB l a) fun j=>
    a8 (gU b 0 ((64:Int).toNat)<|i64.wrap<|j.tdiv 64) fun i=>
    a8 (aB l a) fun d=>
    aE (¬ (u64.wrap<|d.tmod 64)<0) (
    a8 (gU b 0 ((64:Int).toNat)<|i64.wrap<|c.tdiv 64) fun k=>(Cs l n g) (i64.wrap<|a+1)<|b.set (i64.wrap<|c.tdiv 64).toNat (Zk .u64 i<|u64.wrap<|1*(2^(min (u64.wrap<|d.tmod 64).toNat u64.bits)))))) (dh n b)
def Uy(n:Nat)(a:X Int):V ((X Int)×Int):=
 aE (0<=(64:Int)/\8*(64:Int).toNat<=281474976710656/\(64:Int)<=281474976710656) (
 Cs a n n 0 (replicate (64:Int).toNat 0))
theorem z09(n:Nat)(H:X Int)(r:(X Int)×Int)(O:Uy n H=some r):dB prog 127 [.O false<|H.map<|cI .i64] (.a7 [.O false<|r.1.map<|cI .u64,.int .i64 r.2]):=by unfold Uy at O;refine mJ 50 YB ?_;obtain⟨m,O⟩:=bU O;refine go ?_;refine aS (u:=.sl 0 0 ((64:Int).toNat)<|(64:Int).toNat) (Y':=⟨[(0,.row (List.map (cI .u64)<|replicate (64:Int).toNat 0).flatten 213)],1⟩) rfl (Lw (cI .u64) 0 rfl rfl gS.h mT.h rfl rfl rfl rfl m) ?_;refine go ?_;refine CF (Cs H n) (fun d _=>[(0,.iM (cI .i64) H),(4,.sl 0 0 ((64:Int).toNat)<|(64:Int).toNat),(5,.i6 d)]) (fun _ c=>⟨[(0,.row (c.map<|cI .u64).flatten 213)],1⟩) (rJ (dh n) (fun _=>[(4,.sl 0 0 ((64:Int).toNat)<|(64:Int).toNat)]) fun b=>⟨[(0,.row (b.map<|cI .u64).flatten 213)],1⟩) O (vF ?_) ?_;intro b O;unfold dh at O;obtain⟨e,O⟩:=bU O;refine gn ?_;refine cD (tm':=fr 50 [(4,.iM (cI .u64) b)]) (Y':=⟨[],1⟩) (Gh.trans (Gh.sub (l':=[(4,.sl 0 0 ((64:Int).toNat)<|(64:Int).toNat)]) ⟨rfl,trivial⟩)<|Gh.iJ (l':=[(4,.iM (cI .u64) b)]) (h':=[]) 0 (.row (b.map<|cI .u64).flatten 213) 1 rfl aZ (by simp only[iJ,nD,y3,v6,FS,O0,UW,QC,By,Bz,Ca,V2,JJ,Bu,Q6,UV,UN,JE,Lq (iK .u64) e]) (by simp only[dd,ek,ug,Nat.beq,zC,zD,nD,y3,v6,FS,O0,UW,QC,By,Bz,Ca,V2,JJ,Bu,Q6,UV,UN,JE,Lq (iK .u64) e])) NZ ?_;obtain⟨t,p,O⟩:=aJ O;refine go ?_;refine aM rfl (pC (oj n b t p) _) B7 ?_;refine go ?_;obtain rfl:=sI O;exact BI rfl rfl rfl rfl rfl;intro C d c O;unfold Cs at O;refine gG O ?_ ?_<;>intro B O;obtain⟨l,a,O⟩:=aJ O;refine gn ?_;refine lD [(0,.iM (cI .i64) H),(4,.sl 0 0 ((64:Int).toNat)<|(64:Int).toNat),(5,.i6 d),(24,.bool l)] ⟨[(0,.row (c.map<|cI .u64).flatten 213)],1⟩ ?_ ?_;refine gF O ?_ ?_<;>intro G O;refine go ?_;obtain rfl:=sI O;exact rT (us:=[.J,.i6 2]) (u:=.a7 [.O false [],.i6 2]) (dP rfl (dP rfl (dU))) wR;obtain⟨k,y,F,z,g,i,j,w,O⟩:=tD O;obtain⟨v,O⟩:=bU O;obtain⟨E,f,O⟩:=aJ O;refine go ?_;refine dE [] ?_;refine gJ y ?_;refine aQ rfl (xV rfl rfl (bf _ bF) rfl) ?_;refine gJ z ?_;refine aQ rfl (xV rfl rfl (bf _ bF) rfl) ?_;refine aQ rfl (cV rfl rfl (rP gS.h (aV mT.h) rfl i)) (aQ (u:=.int .u64 g) rfl (BV (cI .u64) (fun x=>.int .u64 x) Th.h rfl (fun _=>rfl) rfl rfl i) ?_);refine gJ w ?_;refine aQ rfl (xV rfl rfl (NJ _ bF) rfl) ?_;refine aQ (u:=.int .u64<|u64.wrap<|j.tmod 64) rfl (ec rfl rfl (by simp only[Q1,mZ.h,TZ.h]<;>rfl) rfl) ?_;refine aQ rfl (xV rfl rfl (Fc _ v) rfl) (aQ rfl (xV rfl rfl (qh _ _ _) rfl) (aQ rfl (cV rfl rfl (rP gS.h (aV mT.h) rfl f)) (Z2 (u:=.J9) (Y':=⟨[(0,.row (List.map (cI .u64)<|c.set (i64.wrap<|k.tdiv 64).toNat (Zk .u64 g<|u64.wrap<|1*(2^(min (u64.wrap<|j.tmod 64).toNat u64.bits)))).flatten 213)],1⟩) rfl (PX (cI .u64) (aV mT.h) (iK .u64) rfl rfl rfl rfl rfl rfl f rfl) rfl ?_)));refine bB ⟨by kernel_rfl,trivial,?_⟩;exact wx O;obtain⟨A,o,a⟩:=aJ a;refine gI o ?_;obtain⟨s,a⟩|⟨s,a⟩:=gB a;exact gy a;obtain⟨D,q,a⟩:=aJ a;obtain rfl:=sI a;refine gI q ?_;exact m8;exact wx O
def Xl(c:Int)(a:Int->(X Int)->V ((X Int)))(b:X Int):V ((X Int)):=
 a (i64.wrap<|c+1) b
def fp(n:Nat)(b:X Int):V ((X Int)):=
 a8 (Uy n b) fun a=>some a.1
def R5(c:X (X Yv))(n:Nat)(d:(X<|X Yv)):Nat->Int->(X Int)->V ((X Int))
 |0,_,_=>none|e+1,b,a=>
  cond (decide (b<(c.length:Int))) (a8 (aB c b) fun g=>
   a8 (HW n d g) fun f=>cond f (aE ((a.length+1)*8<=140737488355328/\a.length+1<=140737488355328) (
    Xl b (R5 c n d e) (a++[b])))<|Xl b (R5 c n d e) a) (fp n a)
def Vy(n:Nat)(d:X bG)(a:X (X Yv))(b:X Yv):V ((X Int)):=
 a8 (Ws n d b) fun c=>
 R5 a n c n 0 ([]:X Int)
theorem qty(n:Nat)(x:X bG)(e:X (X Yv))(i:X Yv)(r:(X Int))(O:Vy n x e i=some r):dB prog 92 [.O false<|x.map bM,.O false<|e.map cS,.str i] (.O false<|r.map<|cI .u64):=by unfold Vy at O;refine w4 37 vf ?_;obtain⟨f,o,O⟩:=aJ O;refine go ?_;refine aM rfl (pC (qra n x i f o) _) YC ?_;refine gr ?_;refine gr ?_;refine gV 8 3 1 1 ?_;refine oH (a3:=0) (fun m d c _=>R5 e n f m d c) (fun d c h=>[(1,.iM cS e),(7,.iM cS f),(8,.vl 0 h 0 c.length),(9,.i6 d)]) (fun _ c h=>⟨FW c h,1⟩) (lR (fun a _=>fp n a) (fun a g=>[(8,.vl 0 g 0 a.length)]) fun a g=>⟨FW a g,1⟩) O (nS ?_) ?_;intro a g O;unfold fp at O;refine gn ?_;refine cD (tm':=fr 37 [(8,.iM (cI .i64) a)]) (Y':=⟨[],1⟩) (Gh.trans (Gh.sub (l':=[(8,.vl 0 g 0 a.length)]) ⟨rfl,trivial⟩)<|FC 0 1) NZ ?_;obtain⟨j,p,O⟩:=aJ O;refine go ?_;refine aM rfl (pC (z09 n a j p) _) YB ?_;exact gx O;intro q d c h O;unfold R5 at O;refine gG O ?_ ?_<;>intro u O;obtain⟨l,s,k,t,O⟩:=bO O;refine gI s ?_;refine aM rfl (pC (R6 n f l k t) _) o5 ?_;refine gn ?_;refine OZ r (fun b _=>Xl d (R5 e n f q) b) (fun b t25=>[(1,.iM cS e),(7,.iM cS f),(8,.vl 0 t25 0 b.length),(9,.i6 d)]) (fun b t25=>⟨FW b t25,1⟩) ?_ ?_;intro b t25 O;unfold Xl at O;exact wx O;refine cF O ?_ ?_<;>intro w O;obtain⟨v,O⟩:=bU O;refine go ?_;refine bP ?_;refine bP ?_;exact wx O;exact wx O;exact wx O
def VD(n:Nat)(c:X Int)(a:Int):V (Int):=
 cond (decide (a<(c.length:Int))) (a8 (aB c a) fun b=>some b) (some 0)
theorem qli(n:Nat)(e:X Int)(a:Int)(r:Int)(O:VD n e a=some r):dB prog 156 [.O false<|e.map<|cI .u64,.int .i64 a] (.int .u64 r):=by unfold VD at O;refine eO 13 LX ?_;refine gF O ?_ ?_<;>intro c O;obtain⟨d,b,O⟩:=aJ O;refine go ?_;refine c8 b ?_;exact gx O;exact gx O
def QW(n:Nat)(a:X Int):V ((X Int)):=
 a8 (O8 n a) fun b=>some b
def Oj(g:X Int)(c:X Int)(n:Nat):Nat->Int->(X Int)->V ((X Int))
 |0,_,_=>none|e+1,b,a=>
  cond (decide (b<(g.length:Int))) (a8 (aB g b) fun f=>
   a8 (VD n c b) fun d=>
   aE ((a.length+1)*8<=140737488355328/\a.length+1<=140737488355328) ((Oj g c n e) (i64.wrap<|b+1)<|a++[(N6 .u64 f d)])) (QW n a)
def JN(n:Nat)(b:X Int)(a:X Int):V ((X Int)):=
 Oj b a n n 0 ([]:X Int)
theorem qik(n:Nat)(s:X Int)(d:X Int)(r:(X Int))(O:JN n s d=some r):dB prog 118 [.O false<|s.map<|cI .u64,.O false<|d.map<|cI .u64] (.O false<|r.map<|cI .u64):=by unfold JN at O;refine eO 26 F2 ?_;refine gr ?_;refine gr ?_;refine gr ?_;refine gV 5 213 1 1 ?_;refine oH (a3:=0) (fun m e b _=>Oj s d n m e b) (fun e b f=>[(0,.iM (cI .u64) s),(1,.iM (cI .u64) d),(5,.vl 0 f 0 b.length),(6,.i6 e)]) (fun _ b f=>⟨[(0,.bv (cI .u64) b 213 1 f)],1⟩) (lR (fun a _=>QW n a) (fun a c=>[(5,.vl 0 c 0 a.length)]) fun a c=>⟨[(0,.bv (cI .u64) a 213 1 c)],1⟩) O (nS ?_) ?_;intro a c O;unfold QW at O;refine gn ?_;refine cD (tm':=fr 26 [(5,.iM (cI .u64) a)]) (Y':=⟨[],1⟩) (Gh.trans (Gh.sub (l':=[(5,.vl 0 c 0 a.length)]) ⟨rfl,trivial⟩)<|FC 0 1) NZ ?_;obtain⟨k,g,O⟩:=aJ O;refine go ?_;refine aM rfl (pC (oj n a k g) _) B7 ?_;exact gx O;intro o e b f O;unfold Oj at O;refine gG O ?_ ?_<;>intro l O;obtain⟨p,h,j,i,O⟩:=bO O;obtain⟨q,O⟩:=bU O;refine go ?_;refine dE [(0,9)] ?_;refine gJ h ?_;refine dN rfl (pC<|qli n d e j i) LX (aQ rfl (xV rfl rfl (z2w _ _ _) rfl) ?_);refine dM ?_;refine dM ?_;refine gd ?_;refine bB ⟨by kernel_rfl,⟨jA rfl,trivial⟩,?_⟩;exact wx O;exact wx O
def U!: V (FK):=
 some true
def fx(f:X Int)(b:X Int):Nat->Int->V (FK)
 |0,_=>none|c+1,a=>cond (decide (a<(f.length:Int))) (a8 (aB f a) fun e=>a8 (aB b a) fun d=>cond (e != d) (some false)<|(fx f b c)<|i64.wrap<|a+1) (U!)
def QT(n:Nat)(b:X Int)(a:X Int):V (FK):=
 cond ((b.length:Int) != (a.length:Int)) (some false) (fx b a n 0)
theorem qgp(n:Nat)(k:X Int)(a:X Int)(r:FK)(O:QT n k a=some r):dB prog 120 [.O false<|k.map<|cI .u64,.O false<|a.map<|cI .u64] (.bool r):=by unfold QT at O;refine eO 26 F1 ?_;refine gF O ?_ ?_<;>intro f O;exact gx O;refine go ?_;refine pM (fx k a) (fun b=>[(0,.iM (cI .u64) k),(1,.iM (cI .u64) a),(5,.i6 b)]) (fun _=>⟨[],0⟩) (qQ U! [] ⟨[],0⟩) O (sN ?_) ?_;intro O;unfold U! at O;exact gx O;intro h b O;unfold fx at O;refine gG O ?_ ?_<;>intro g O;obtain⟨j,c,i,d,O⟩:=bO O;refine go ?_;refine dE [] ?_;refine gJ c ?_;refine dQ d ?_;refine gd ?_;refine bB ⟨by kernel_rfl,trivial,?_⟩;refine gF O ?_ ?_<;>intro e O;exact gx O;exact wx O;exact wx O
def dc: V (FK):=
 some false
def Cr(f:X (X Int))(b:X Int)(n:Nat):Nat->Int->V (FK)
 |0,_=>none|d+1,a=>cond (decide (a<(f.length:Int))) (a8 (aB f a) fun e=>a8 (QT n e b) fun c=>cond c (some true)<|(Cr f b n d)<|i64.wrap<|a+1) (dc)
def tq(n:Nat)(b:X (X Int))(a:X Int):V (FK):=
 Cr b a n n 0
theorem z0a(n:Nat)(j:X (X Int))(a:X Int)(r:FK)(O:tq n j a=some r):dB prog 128 [.O false<|List.map (cL<|cI .u64) j,.O false<|a.map<|cI .u64] (.bool r):=by unfold tq at O;refine eO 18 YA ?_;refine go ?_;refine pM (Cr j a n) (fun b=>[(0,.iM (cL<|cI .u64) j),(1,.iM (cI .u64) a),(5,.i6 b)]) (fun _=>⟨[],0⟩) (qQ dc [] ⟨[],0⟩) O (sN ?_) ?_;intro O;unfold dc at O;exact gx O;intro i b O;unfold Cr at O;refine gG O ?_ ?_<;>intro h O;obtain⟨f,c,e,d,O⟩:=bO O;refine gI c ?_;refine aM rfl (pC (qgp n f a e d) _) F1 ?_;refine gF O ?_ ?_<;>intro g O;exact gx O;exact wx O;exact wx O
def Yi(c:Int)(b:Int->(X<|X Int)->V ((X<|X Int)))(a:X (X Int)):V ((X<|X Int)):=
 b (i64.wrap<|c+1) a
def Yg(c:Int)(a:Int->(X<|X Int)->V ((X<|X Int)))(b:X (X Int)):V ((X<|X Int)):=
 a (i64.wrap<|c+1) b
def VP(n:Nat)(b:Int)(f:Int->(X<|X Int)->V ((X<|X Int))):Nat->Int->(X<|X Int)->V ((X<|X Int))
 |0,_,_=>none|g+1,c,a=>
  a8 (cond (decide (c<b)) (some<|decide ((a.length:Int)<=256))<|some false) fun e=>cond e (a8 (aB a b) fun k=>
   a8 (aB a c) fun h=>
   a8 (JN n k h) fun d=>
   a8 (cond (decide ((d.length:Int)>0)) (a8 (tq n a d) fun j=>some<|!j)<|some false) fun i=>cond i (aE ((a.length+1)*24<=140737488355328/\a.length+1<=140737488355328) (
    Yi c (VP n b f g) (a++[d])))<|Yi c (VP n b f g) a) (Yg b f a)
def Yh  (a:X (X Int)):V ((X<|X Int)):=
 some a
def OE(n:Nat):Nat->Int->(X<|X Int)->V ((X<|X Int))
 |0,_,_=>none|d+1,b,a=>a8 (cond (decide (b<(a.length:Int))) (some<|decide ((a.length:Int)<=256))<|some false) fun c=>cond c (VP n b (OE n d) n 0 a) (Yh a)
def Wz(n:Nat)(a:X (X Int)):V ((X<|X Int)):=
 aE (a.length*24<=140737488355328/\a.length<=140737488355328) (
 OE n n 0 a)
theorem qos(n:Nat)(Q:X (X Int))(r:(X<|X Int))(O:Wz n Q=some r):dB prog 93 [.O false<|List.map (cL<|cI .u64) Q] (.O false<|List.map (cL<|cI .u64) r):=by unfold Wz at O;refine mJ 54 vd ?_;obtain⟨D,O⟩:=bU O;refine go ?_;refine aS (u:=.sl 0 0 0 0) (Y':=⟨[(0,.row [] 141)],1⟩) rfl (vQ sP.h qX.h rfl rfl rfl rfl rfl rfl rfl) ?_;refine go ?_;refine aS (u:=.vl 1 0 0 Q.length) (Y':=⟨[(1,.bv (cL<|cI .u64) Q 141 1 0),(0,.row [] 141)],2⟩) rfl (qV rfl rfl rfl rfl (Ce (cL<|cI .u64) Q sP.h sP.h qX.h rfl rfl rfl (QB (cL<|cI .u64)<|FR<|cI .u64) D)) ?_;refine go ?_;refine oH (a3:=0) (fun m a d _=>OE n m a d) (fun a d t8=>[(3,.vl 1 t8 0 d.length),(4,.i6 a)]) (fun _ d t8=>⟨V8 d t8,2⟩) (lR (fun e _=>Yh e) (fun e k=>[(3,.vl 1 k 0 e.length)]) fun e k=>⟨V8 e k,2⟩) O (nS ?_) ?_;intro e k O;unfold Yh at O;refine go ?_;obtain rfl:=sI O;exact rT (us:=[.vl 1 k 0 e.length]) (u:=.iM (cL<|cI .u64) e) (dP rfl (dU))<|fR 1 1;intro v a d t8 O;unfold OE at O;obtain⟨C,l,O⟩:=aJ O;refine gn ?_;refine lD [(3,.vl 1 t8 0 d.length),(4,.i6 a),(18,.bool C)] ⟨V8 d t8,2⟩ ?_ ?_;refine gG O ?_ ?_<;>intro M O;refine go ?_;refine oH (a3:=t8) (fun m f b _=>VP n a (OE n v) m f b) (fun f b c=>[(3,.vl 1 c 0 b.length),(4,.i6 a),(5,.i6 f)]) (fun _ b c=>⟨V8 b c,2⟩) (lR (fun j _=>Yg a (OE n v) j) (fun j q=>[(3,.vl 1 q 0 j.length),(4,.i6 a)]) fun j q=>⟨V8 j q,2⟩) O (nS ?_) ?_;intro j q O;unfold Yg at O;exact wx O;intro G f b c O;unfold VP at O;obtain⟨t,o,O⟩:=aJ O;refine gn ?_;refine lD [(3,.vl 1 c 0 b.length),(4,.i6 a),(5,.i6 f),(28,.bool t)] ⟨V8 b c,2⟩ ?_ ?_;refine gG O ?_ ?_<;>intro P O;obtain⟨K,w,A,y,s,J,O⟩:=nJ O;refine go ?_;refine dE [] ?_;refine gd ?_;refine aQ rfl (cV rfl rfl (gP (cL<|cI .u64) sP.h (aV qX.h) bF (FR<|cI .u64) (vo rfl) w)) ?_;refine aQ rfl (o8 (cL<|cI .u64) (fun x=>.iM (cI .u64) x) gS.h rfl (fun _=>rfl) rfl rfl w) ?_;refine gd ?_;refine aQ rfl (cV rfl rfl (gP (cL<|cI .u64) sP.h (aV qX.h) bF (FR<|cI .u64) (vo rfl) y)) ?_;refine aQ rfl (o8 (cL<|cI .u64) (fun x=>.iM (cI .u64) x) gS.h rfl (fun _=>rfl) rfl rfl y) (dN rfl (pC<|qik n K A s J) F2 ?_);refine gd ?_;refine bB ⟨by kernel_rfl,trivial,?_⟩;obtain⟨B,g,O⟩:=aJ O;refine gn ?_;refine lD [(3,.vl 1 c 0 b.length),(4,.i6 a),(5,.i6 f),(6,.iM (cI .u64) s),(48,.bool B)] ⟨V8 b c,2⟩ ?_ ?_;refine gn ?_;refine OZ r (fun i _=>Yi f (VP n a (OE n v) G) i) (fun i p=>[(3,.vl 1 p 0 i.length),(4,.i6 a),(5,.i6 f)]) (fun i p=>⟨V8 i p,2⟩) ?_ ?_;intro i p O;unfold Yi at O;exact wx O;refine cF O ?_ ?_<;>intro L O;obtain⟨N,O⟩:=bU O;refine go ?_;refine bP ?_;refine bP ?_;exact wx O;exact wx O;refine go ?_;obtain⟨H,g⟩|⟨H,g⟩:=gB g;obtain⟨F,z,g⟩:=aJ g;obtain rfl:=sI g;refine go ?_;refine aM rfl (vw (z0a n b s F z)<|sO 1 1) YA ?_;refine go ?_;exact m8;exact gy g;exact wx O;refine go ?_;obtain⟨I,o⟩|⟨I,o⟩:=gB o;exact gy o;exact gy o;exact wx O;refine go ?_;obtain⟨E,l⟩|⟨E,l⟩:=gB l;exact gy l;exact gy l
def Pc(n:Nat)(a:X Int):V ((X Int)):=
 a8 (O8 n a) fun b=>some b
def Yd(g:X Int)(c:X Int)(n:Nat):Nat->Int->(X Int)->V ((X Int))
 |0,_,_=>none|e+1,b,a=>
  cond (decide (b<(g.length:Int))) (a8 (aB g b) fun f=>
   a8 (VD n c b) fun d=>
   aE ((a.length+1)*8<=140737488355328/\a.length+1<=140737488355328) ((Yd g c n e) (i64.wrap<|b+1)<|a++[(Cf .u64 f d)])) (Pc n a)
def Oa(n:Nat)(b:X Int)(a:X Int):V ((X Int)):=
 Yd b a n n 0 ([]:X Int)
theorem qr8(n:Nat)(s:X Int)(d:X Int)(r:(X Int))(O:Oa n s d=some r):dB prog 163 [.O false<|s.map<|cI .u64,.O false<|d.map<|cI .u64] (.O false<|r.map<|cI .u64):=by unfold Oa at O;refine eO 26 XU ?_;refine gr ?_;refine gr ?_;refine gr ?_;refine gV 5 213 1 1 ?_;refine oH (a3:=0) (fun m e b _=>Yd s d n m e b) (fun e b f=>[(0,.iM (cI .u64) s),(1,.iM (cI .u64) d),(5,.vl 0 f 0 b.length),(6,.i6 e)]) (fun _ b f=>⟨[(0,.bv (cI .u64) b 213 1 f)],1⟩) (lR (fun a _=>Pc n a) (fun a c=>[(5,.vl 0 c 0 a.length)]) fun a c=>⟨[(0,.bv (cI .u64) a 213 1 c)],1⟩) O (nS ?_) ?_;intro a c O;unfold Pc at O;refine gn ?_;refine cD (tm':=fr 26 [(5,.iM (cI .u64) a)]) (Y':=⟨[],1⟩) (Gh.trans (Gh.sub (l':=[(5,.vl 0 c 0 a.length)]) ⟨rfl,trivial⟩)<|FC 0 1) NZ ?_;obtain⟨k,g,O⟩:=aJ O;refine go ?_;refine aM rfl (pC (oj n a k g) _) B7 ?_;exact gx O;intro o e b f O;unfold Yd at O;refine gG O ?_ ?_<;>intro l O;obtain⟨p,h,j,i,O⟩:=bO O;obtain⟨q,O⟩:=bU O;refine go ?_;refine dE [(0,9)] ?_;refine gJ h ?_;refine dN rfl (pC<|qli n d e j i) LX (aQ rfl (xV rfl rfl (qt7 _ _ _) rfl) ?_);refine dM ?_;refine dM ?_;refine gd ?_;refine bB ⟨by kernel_rfl,⟨jA rfl,trivial⟩,?_⟩;exact wx O;exact wx O
def Cu(n:Nat)(c:X Int)(a:X Int):V (FK):=
 a8 (Oa n c a) fun b=>some ((b.length:Int)==0)
theorem NF(n:Nat)(d:X Int)(a:X Int)(r:FK)(O:Cu n d a=some r):dB prog 133 [.O false<|d.map<|cI .u64,.O false<|a.map<|cI .u64] (.bool r):=by unfold Cu at O;refine eO 10 EZ ?_;obtain⟨c,b,O⟩:=aJ O;refine go ?_;refine aM rfl (pC (qr8 n d a c b) _) XU ?_;exact gx O
def Wu(n:Nat)(e:X Int)(a:X Int):V (FK):=
 a8 (a8 (Cu n e a) fun c=>cond c (a8 (Cu n a e) fun d=>some d)<|some false) fun b=>some b
theorem qr7(n:Nat)(i:X Int)(b:X Int)(r:FK)(O:Wu n i b=some r):dB prog 129 [.O false<|i.map<|cI .u64,.O false<|b.map<|cI .u64] (.bool r):=by unfold Wu at O;refine eO 13 Y9 ?_;obtain⟨c,a,O⟩:=aJ O;refine gr ?_;refine lD [(4,.bool c)] ⟨[],0⟩ ?_ ?_;exact gx O;obtain⟨g,d,a⟩:=aJ a;refine go ?_;refine aM rfl (pC (NF n i b g d) _) EZ ?_;refine go ?_;obtain⟨e,a⟩|⟨e,a⟩:=gB a;obtain⟨h,f,a⟩:=aJ a;obtain rfl:=sI a;refine go ?_;refine aM rfl (pC (NF n b i h f) _) EZ ?_;refine go ?_;exact m8;exact gy a
def Nl(n:Nat)(d:X Int)(a:Int):V (FK):=
 a8 (cond (decide (a<0)) (some true)<|some<|decide ((i64.wrap<|a.tdiv 64)>=(d.length:Int))) fun b=>cond b (some false) (a8 (aB d<|i64.wrap<|a.tdiv 64) fun c=>aE (¬ (u64.wrap<|a.tmod 64)<0)<|some<|(N6 .u64 (c.fdiv<|2^(min (u64.wrap<|a.tmod 64).toNat u64.bits)) 1)==1)
theorem qnv(n:Nat)(j:X Int)(b:Int)(r:FK)(O:Nl n j b=some r):dB prog 130 [.O false<|j.map<|cI .u64,.int .i64 b] (.bool r):=by unfold Nl at O;refine eO 25 M6 ?_;obtain⟨c,a,O⟩:=aJ O;refine gr ?_;refine lD [(0,.iM (cI .u64) j),(1,.i6 b),(13,.bool c)] ⟨[],0⟩ ?_ ?_;refine gF O ?_ ?_<;>intro g O;exact gx O;obtain⟨i,d,O⟩:=aJ O;obtain⟨e,O⟩:=bU O;refine go ?_;refine aS rfl (xV rfl rfl (bf _ bF) rfl) ?_;refine c8 d ?_;refine go ?_;refine aS rfl (xV rfl rfl (NJ _ bF) rfl) ?_;refine aS (u:=.int .u64<|u64.wrap<|b.tmod 64) rfl (ec rfl rfl (by simp only[Q1,mZ.h,TZ.h]<;>rfl) rfl) ?_;refine aS rfl (xV rfl rfl (Fb _ e) rfl) (aS rfl (xV rfl rfl (z2w _ _ _) rfl) ?_);exact gx O;refine go ?_;obtain⟨f,a⟩|⟨f,a⟩:=gB a;exact gy a;obtain rfl:=sI a;refine go ?_;refine RS.w rfl (xV rfl rfl (bf _ bF) rfl) ?_;refine go ?_;exact m8
def Yr(c:Int)(a:(X<|X Yv)->Int->V ((X<|X Yv)))(b:X (X Yv)):V ((X<|X Yv)):=
 a b (i64.wrap<|c+1)
def j_  (a:X (X Yv)):V ((X<|X Yv)):=
 some a
def RP(i:X bG)(a:X (X Yv))(n:Nat):Nat->(X<|X Yv)->Int->V ((X<|X Yv))
 |0,_,_=>none|d+1,c,b=>
  cond (decide (b<(a.length:Int))) (a8 (aB a b) fun h=>
   a8 (JQ n i h) fun g=>cond (decide (g>=0)) (a8 (aB a b) fun e=>
    a8 (QS n c e) fun f=>
    Yr b (RP i a n d) f)<|Yr b (RP i a n d) c) (j_ c)
def nj(n:Nat)(b:X bG)(a:X (X Yv)):V ((X<|X Yv)):=
 RP b a n n [] 0
theorem qlu(n:Nat)(s:X bG)(a:X (X Yv))(r:(X<|X Yv))(O:nj n s a=some r):dB prog 160 [.O false<|s.map bM,.O false<|a.map cS] (.O false<|r.map cS):=by unfold nj at O;refine eO 27 XX ?_;refine gr ?_;refine gr ?_;refine gr ?_;refine cD (tm':=fr 27 [(0,.iM bM s),(1,.iM cS a),(5,.iM cS []),(6,.i6 0)]) (Gh.trans (Gh.sub (l':=[(0,.iM bM s),(1,.iM cS a),(5,.J),(6,.i6 0)]) ⟨rfl,rfl,rfl,rfl,trivial⟩)<|Gh.sD (l':=[(0,.iM bM s),(1,.iM cS a),(5,.iM cS []),(6,.i6 0)])<|.cons (.refl _)<|.cons (.refl _)<|.cons (.nil false)<|.cons (.refl _) .nil) NZ ?_;refine CF (RP s a n) (fun c b=>[(0,.iM bM s),(1,.iM cS a),(5,.iM cS c),(6,.i6 b)]) (fun _ _=>⟨[],0⟩) (rJ j_ (fun e=>[(5,.iM cS e)]) fun _=>⟨[],0⟩) O (vF ?_) ?_;intro e O;unfold j_ at O;exact gx O;intro k c b O;unfold RP at O;refine gG O ?_ ?_<;>intro p O;obtain⟨m,i,l,j,O⟩:=bO O;refine gI i ?_;refine aM rfl (pC (Oh n s m l j) _) tV ?_;refine gn ?_;refine uc r (Yr b<|RP s a n k) (fun d=>[(0,.iM bM s),(1,.iM cS a),(5,.iM cS d),(6,.i6 b)]) (fun _=>⟨[],0⟩) ?_ ?_;intro d O;unfold Yr at O;exact wx O;refine cF O ?_ ?_<;>intro q O;obtain⟨f,h,g,o,O⟩:=bO O;refine gI h ?_;refine aM rfl (pC (Nz n c f g o) _) tW ?_;exact wx O;exact wx O;exact wx O
def oh  (a:X (X Yv)):V ((X<|X Yv)):=
 some a
def VO(n:Nat)(a:X (X Yv)):Nat->(X<|X Yv)->Int->V ((X<|X Yv))
 |0,_,_=>none|d+1,c,b=>cond (decide (b<(a.length:Int))) (a8 (aB a b) fun f=>a8 (QS n c f) fun e=>(VO n a d) e<|i64.wrap<|b+1) (oh c)
def Yc(b:Int)(a:Int->(X<|X Yv)->V ((X<|X Yv)))(c:X (X Yv)):V ((X<|X Yv)):=
 a (i64.wrap<|b+1) c
def oe(b:Int)(a:Int->(X<|X Yv)->V ((X<|X Yv)))(c:X (X Yv)):V ((X<|X Yv)):=
 a (i64.wrap<|b+1) c
def RJ(n:Nat)(e:Int)(d:Int->(X<|X Yv)->V ((X<|X Yv)))(c:bG):Nat->Int->(X<|X Yv)->V ((X<|X Yv))
 |0,_,_=>none|f+1,b,a=>
  cond (decide (b<(c.F5.length:Int))) (a8 (aB c.F5 b) fun g=>
   a8 (HW n a g) fun h=>cond (!h) (a8 (aB c.F5 b) fun i=>
    aE ((a.length+1)*16<=140737488355328/\a.length+1<=140737488355328) (
    Yc b (RJ n e d c f) (a++[i])))<|Yc b (RJ n e d c f) a) (oe e d a)
def oi(n:Nat)(a:X (X Yv)):V ((X<|X Yv)):=
 VO n a n [] 0
def OD(g:X bG)(n:Nat):Nat->Int->(X<|X Yv)->V ((X<|X Yv))
 |0,_,_=>none|d+1,b,a=>
  cond (decide (b<(a.length:Int))) (a8 (aB a b) fun f=>
   a8 (JQ n g f) fun c=>
   a8 (aB g c) fun e=>
   RJ n b (OD g n d) e n 0 a) (oi n a)
def Wt(n:Nat)(c:X bG)(a:X Yv):V ((X<|X Yv)):=
 a8 (JQ n c a) fun b=>cond (decide (b<0)) (some []) (OD c n n 0<|[a])
theorem qr9(n:Nat)(Y:X bG)(i:X Yv)(r:(X<|X Yv))(O:Wt n Y i=some r):dB prog 161 [.O false<|Y.map bM,.str i] (.O false<|r.map cS):=by unfold Wt at O;refine eO 66 XW ?_;obtain⟨I,E,O⟩:=aJ O;refine go ?_;refine aM rfl (pC (Oh n Y i I E) _) tV ?_;refine gF O ?_ ?_<;>intro Q O;refine go ?_;obtain rfl:=sI O;exact rT (us:=[.J]) (u:=.O false []) (dP rfl (dU)) wR;refine go ?_;refine RS.step (u:=.vl 0 0 0<|[i].length) (Y':=⟨[(0,.bv cS ([i]) 9 1 0)],1⟩) rfl (fY.jD (cs:=(List.map cS [i]).flatten) bQ rfl lM.h KS.h rfl rfl rfl rfl rfl rfl rfl rfl) rfl rfl ?_;refine go ?_;refine oH (a3:=0) (fun m b f _=>OD Y n m b f) (fun b f k=>[(0,.iM bM Y),(5,.vl 0 k 0 f.length),(6,.i6 b)]) (fun _ f k=>⟨nV f k,1⟩) (lR (fun a _=>oi n a) (fun a c=>[(5,.vl 0 c 0 a.length)]) fun a c=>⟨nV a c,1⟩) O (nS ?_) ?_;intro a c O;unfold oi at O;refine gr ?_;refine gr ?_;refine cD (tm':=fr 66 [(5,.vl 0 c 0 a.length),(9,.iM cS []),(10,.i6 0)]) (Gh.trans (Gh.sub (l':=[(5,.vl 0 c 0 a.length),(9,.J),(10,.i6 0)]) ⟨rfl,rfl,rfl,trivial⟩)<|Gh.sD (l':=[(5,.vl 0 c 0 a.length),(9,.iM cS []),(10,.i6 0)])<|.cons (.refl _)<|.cons (.nil false)<|.cons (.refl _) .nil) NZ ?_;refine CF (VO n a) (fun v y=>[(5,.vl 0 c 0 a.length),(9,.iM cS v),(10,.i6 y)]) (fun _ _=>⟨nV a c,1⟩) (rJ oh (fun w=>[(9,.iM cS w)]) fun _=>⟨nV a c,1⟩) O (vF ?_) ?_;intro w O;unfold oh at O;exact gx O;intro S v y O;unfold VO at O;refine gG O ?_ ?_<;>intro W O;obtain⟨N,z,K,H,O⟩:=bO O;refine go ?_;refine aS rfl (cV rfl rfl (gP cS lM.h (aV KS.h) bF Q4 (vo rfl) z)) ?_;refine aS rfl (o8 cS (fun x=>.str x) NE.h rfl (fun _=>rfl) rfl rfl z) (aM rfl (pC (Nz n v N K H) _) tW ?_);exact wx O;exact wx O;intro t b f k O;unfold OD at O;refine gG O ?_ ?_<;>intro V O;obtain⟨L,A,B,M,o,J,O⟩:=nJ O;refine go ?_;refine aS rfl (cV rfl rfl (gP cS lM.h (aV KS.h) bF Q4 (vo rfl) A)) ?_;refine aS rfl (o8 cS (fun x=>.str x) NE.h rfl (fun _=>rfl) rfl rfl A) (aM rfl (pC (Oh n Y L B M) _) tV ?_);refine c8 J ?_;refine go ?_;refine oH (a3:=k) (fun m e d _=>RJ n b (OD Y n t) o m e d) (fun e d p=>[(0,.iM bM Y),(5,.vl 0 p 0 d.length),(6,.i6 b),(7,.iM cS o.F5),(8,.i6 e)]) (fun _ d p=>⟨nV d p,1⟩) (lR (fun g _=>oe b (OD Y n t) g) (fun g l=>[(0,.iM bM Y),(5,.vl 0 l 0 g.length),(6,.i6 b)]) fun g l=>⟨nV g l,1⟩) O (nS ?_) ?_;intro g l O;unfold oe at O;exact wx O;intro G e d p O;unfold RJ at O;refine gG O ?_ ?_<;>intro U O;obtain⟨C,f?,D,s,O⟩:=bO O;refine gI f? ?_;refine aM rfl (vw (R6 n d C D s)<|sO 0 1) o5 ?_;refine gn ?_;refine OZ r (fun j _=>Yc e (RJ n b (OD Y n t) o G) j) (fun j q=>[(0,.iM bM Y),(5,.vl 0 q 0 j.length),(6,.i6 b),(7,.iM cS o.F5),(8,.i6 e)]) (fun j q=>⟨nV j q,1⟩) ?_ ?_;intro j q O;unfold Yc at O;exact wx O;refine cF O ?_ ?_<;>intro R O;obtain⟨T,F,O⟩:=aJ O;obtain⟨P,O⟩:=bU O;refine gI F ?_;refine bP ?_;refine bP ?_;exact wx O;exact wx O;exact wx O;exact wx O
def Yo(b:Int)(a:Int->(X<|X Yv)->V ((X<|X Yv)))(c:X (X Yv)):V ((X<|X Yv)):=
 a (i64.wrap<|b+1) c
def e_(e:(X<|X Yv))(b:Int)(a:X (X Yv))(c:Int->(X<|X Yv)->V ((X<|X Yv)))(j?:FK):V ((X<|X Yv)):=
 cond j? (a8 (aB e b) fun d=>
  aE ((a.length+1)*16<=140737488355328/\a.length+1<=140737488355328) (
  Yo b c (a++[d]))) (Yo b c a)
def Dr(n:Nat)(a:(X<|X Yv))(d:Int)(i:X (X Yv))(h:Int->(X<|X Yv)->V ((X<|X Yv)))(j:(X<|X Yv)):Nat->FK->Int->V ((X<|X Yv))
 |0,_,_=>none|k+1,g,b=>cond (decide (b<(a.length:Int))) (a8 (cond g (cond (b==d) (some true)<|a8 (aB a b) fun f=>a8 (HW n j f) fun e=>some<|!e)<|some false) fun c=>(Dr n a d i h j k) c<|i64.wrap<|b+1) (e_ a d i h g)
def f_  (a:X (X Yv)):V ((X<|X Yv)):=
 some a
def JV(g:X bG)(n:Nat)(a:(X<|X Yv)):Nat->Int->(X<|X Yv)->V ((X<|X Yv))
 |0,_,_=>none|e+1,b,c=>
  cond (decide (b<(a.length:Int))) (a8 (aB a b) fun f=>
   a8 (Wt n g f) fun d=>
   Dr n a b c (JV g n a e) d n true 0) (f_ c)
def Ot(n:Nat)(c:X bG)(a:X (X Yv)):V ((X<|X Yv)):=
 a8 (nj n c a) fun b=>
 JV c n b n 0 ([]:X (X Yv))
theorem qgq(n:Nat)(K:X bG)(p:X (X Yv))(r:(X<|X Yv))(O:Ot n K p=some r):dB prog 131 [.O false<|K.map bM,.O false<|p.map cS] (.O false<|r.map cS):=by
 unfold Ot at O;refine eO 56 M5 ?_;obtain⟨c,y,O⟩:=aJ O;refine go ?_;refine aM rfl (pC (qlu n K p c y) _) XX ?_;refine gr ?_;refine gV 5 9 1 1 ?_;refine oH (a3:=0) (fun m d a _=>JV K n c m d a) (fun d a e=>[(0,.iM bM K),(5,.vl 0 e 0 a.length),(6,.iM cS c),(7,.i6 d)]) (fun _ a e=>⟨nV a e,1⟩) (lR (fun f _=>f_ f) (fun f h=>[(5,.vl 0 h 0 f.length)]) fun f h=>⟨nV f h,1⟩) O (nS ?_) ?_;intro f h O;unfold f_ at O;refine go ?_;obtain rfl:=sI O;exact rT (us:=[.vl 0 h 0 f.length]) (u:=.iM cS f) (dP rfl (dU))<|fR 0 1;intro o d a e O;unfold JV at O;refine gG O ?_ ?_<;>intro G O;obtain⟨C,z,i,A,O⟩:=bO O;refine gI z ?_;refine aM rfl (pC (qr9 n K C i A) _) XW ?_;refine go ?_;refine CF (Dr n c d a (JV K n c o) i) (fun v s=>[(0,.iM bM K),(5,.vl 0 e 0 a.length),(6,.iM cS c),(7,.i6 d),(8,.iM cS i),(9,.bool v),(10,.i6 s)]) (fun _ _=>⟨nV a e,1⟩) (rJ (e_ c d a<|JV K n c o) (fun j?=>[(0,.iM bM K),(5,.vl 0 e 0 a.length),(6,.iM cS c),(7,.i6 d),(9,.bool j?)]) fun _=>⟨nV a e,1⟩) O (vF ?_) ?_;intro j? O;unfold e_ at O;refine gr ?_;refine OZ r (fun g _=>Yo d (JV K n c o) g) (fun g j=>[(0,.iM bM K),(5,.vl 0 j 0 g.length),(6,.iM cS c),(7,.i6 d)]) (fun g j=>⟨nV g j,1⟩) ?_ ?_;intro g j O;unfold Yo at O;exact wx O;refine cF O ?_ ?_<;>intro J O;obtain⟨I,D,O⟩:=aJ O;obtain⟨E,O⟩:=bU O;refine gI D ?_;refine bP ?_;refine bP ?_;exact wx O;exact wx O;intro H v s O;unfold Dr at O;refine gG O ?_ ?_<;>intro F O;obtain⟨k,b,O⟩:=aJ O;refine gn ?_;refine lD [(0,.iM bM K),(5,.vl 0 e 0 a.length),(6,.iM cS c),(7,.i6 d),(8,.iM cS i),(9,.bool k),(10,.i6 s)] ⟨nV a e,1⟩ ?_ ?_;exact wx O;refine go ?_;obtain⟨B,b⟩|⟨B,b⟩:=gB b;refine go ?_;obtain⟨w,b⟩|⟨w,b⟩:=gB b;exact gy b;obtain⟨t,x,b⟩:=aJ b;obtain⟨q,l,b⟩:=aJ b;obtain rfl:=sI b;refine gI x ?_;refine aM rfl (pC (R6 n i t q l) _) o5 ?_;refine go ?_;exact m8;obtain rfl:=sI b;refine go ?_
 repeat refine RS.no (HI rfl rfl rfl) rfl rfl ?_
 refine go ?_;exact m8;exact wx O;exact wx O
def Xk(d:(X<|X Yv))(b:Int)(e:(X Yv)->Int->V ((X Yv)))(a:X Yv):V ((X Yv)):=
 a8 (aB d b) fun c=>
 aE (a.length+c.length<=9223372036854775807) (
 e (a++c) (i64.wrap<|b+1))
def fk  (a:X Yv):V ((X Yv)):=
 some a
def O9(a:(X<|X Yv)):Nat->(X Yv)->Int->V ((X Yv))
 |0,_,_=>none|d+1,b,c=>
  cond (decide (c<(a.length:Int))) (cond (decide (c>0)) (aE (b.length+([38]).length<=9223372036854775807) (
    Xk a c (O9 a d) (b++[38])))<|Xk a c (O9 a d) b) (fk b)
def Xj(b:Int)(a:Int->(X<|X Yv)->V ((X Yv)))(c:X (X Yv)):V ((X Yv)):=
 a (i64.wrap<|b+1) c
def fm(c:X bG)(n:Nat)(a:X (X Yv)):V ((X Yv)):=
 a8 (Ot n c a) fun b=>
 O9 b n [] 0
def R4(l:X bG)(c:X (X Yv))(e:X (X Int))(d:X Int)(n:Nat):Nat->Int->(X<|X Yv)->V ((X Yv))
 |0,_,_=>none|f+1,a,b=>
  cond (decide (a<(c.length:Int))) (a8 (aB e a) fun k=>
   a8 (Wu n k d) fun j=>cond j (a8 (aB c a) fun i=>some i) (a8 (Nl n d a) fun g=>cond g (a8 (aB c a) fun h=>
     aE ((b.length+1)*16<=140737488355328/\b.length+1<=140737488355328) (
     Xj a (R4 l c e d n f) (b++[h])))<|Xj a (R4 l c e d n f) b)) (fm l n b)
def Vw(n:Nat)(d:X bG)(a:X (X Yv))(b:X (X Int))(c:X Int):V ((X Yv)):=
 R4 d a b c n n 0 ([]:X (X Yv))
theorem qtz(n:Nat)(Q:X bG)(g:X (X Yv))(h:X (X Int))(b:X Int)(r:(X Yv))(O:Vw n Q g h b=some r):dB prog 94 [.O false<|Q.map bM,.O false<|g.map cS,.O false<|List.map (cL<|cI .u64) h,.O false<|b.map<|cI .u64] (.str r):=by unfold Vw at O;refine Kd 59 kz ?_;refine gr ?_;refine gr ?_;refine gr ?_;refine gV 9 9 1 1 ?_;refine oH (a3:=0) (fun m c d _=>R4 Q g h b n m c d) (fun c d l=>[(0,.iM bM Q),(1,.iM cS g),(2,.iM (cL<|cI .u64) h),(3,.iM (cI .u64) b),(9,.vl 0 l 0 d.length),(10,.i6 c)]) (fun _ d l=>⟨nV d l,1⟩) (lR (fun a _=>fm Q n a) (fun a i=>[(0,.iM bM Q),(9,.vl 0 i 0 a.length)]) fun a i=>⟨nV a i,1⟩) O (nS ?_) ?_;intro a i O;unfold fm at O;refine gn ?_;refine cD (tm':=fr 59 [(0,.iM bM Q),(9,.iM cS a)]) (Y':=⟨[],1⟩) (Gh.trans (Gh.sub (l':=[(0,.iM bM Q),(9,.vl 0 i 0 a.length)]) ⟨rfl,rfl,trivial⟩)<|FC 0 1) NZ ?_;obtain⟨e,y,O⟩:=aJ O;refine go ?_;refine aM rfl (pC (qgq n Q a e y) _) M5 ?_;refine go ?_;refine CF (O9 e) (fun o k=>[(9,.iM cS e),(11,.str o),(12,.i6 k)]) (fun _ _=>⟨[],1⟩) (rJ fk (fun q=>[(11,.str q)]) fun _=>⟨[],1⟩) O (vF ?_) ?_;intro q O;unfold fk at O;exact gx O;intro B o k O;unfold O9 at O;refine gG O ?_ ?_<;>intro P O;refine gr ?_;refine uc r (Xk e k<|O9 e B) (fun p=>[(9,.iM cS e),(11,.str p),(12,.i6 k)]) (fun _=>⟨[],1⟩) ?_ ?_;intro p O;unfold Xk at O;obtain⟨F,D,O⟩:=aJ O;obtain⟨H,O⟩:=bU O;refine gI D ?_;refine aS (u:=.str<|p++F) rfl (HO rfl rfl (zbc H) rfl) ?_;exact wx O;refine cF O ?_ ?_<;>intro L O;obtain⟨G,O⟩:=bU O;refine go ?_;refine aS (u:=.str<|o++[38]) rfl (HO rfl rfl (zbc G) rfl) ?_;exact wx O;exact wx O;exact wx O;intro A c d l O;unfold R4 at O;refine gG O ?_ ?_<;>intro M O;obtain⟨E,C,z,t,O⟩:=bO O;refine gI C ?_;refine aM rfl (pC (qr7 n E b z t) _) Y9 ?_;refine gF O ?_ ?_<;>intro I O;obtain⟨K,s,O⟩:=aJ O;refine go ?_;refine c8 s ?_;exact gx O;obtain⟨v,x,O⟩:=aJ O;refine go ?_;refine aM rfl (pC (qnv n b c v x) _) M6 ?_;refine gn ?_;refine OZ r (fun f _=>Xj c (R4 Q g h b n A) f) (fun f j=>[(0,.iM bM Q),(1,.iM cS g),(2,.iM (cL<|cI .u64) h),(3,.iM (cI .u64) b),(9,.vl 0 j 0 f.length),(10,.i6 c)]) (fun f j=>⟨nV f j,1⟩) ?_ ?_;intro f j O;unfold Xj at O;exact wx O;refine cF O ?_ ?_<;>intro N O;obtain⟨J,w,O⟩:=aJ O;obtain⟨f?,O⟩:=bU O;refine gI w ?_;refine bP ?_;refine bP ?_;exact wx O;exact wx O;exact wx O
def Xm(c:Int)(a:Int->(X Int)->V ((X Int)))(b:X Int):V ((X Int)):=
 a (i64.wrap<|c+1) b
def fy  (a:X Int):V ((X Int)):=
 some a
def R7(e:X Int)(n:Nat):Nat->Int->(X Int)->V ((X Int))
 |0,_,_=>none|c+1,b,a=>
  cond (decide (b<(i64.wrap<|64*(e.length:Int)))) (a8 (Nl n e b) fun d=>cond d (aE ((a.length+1)*8<=140737488355328/\a.length+1<=140737488355328) (
    Xm b (R7 e n c) (a++[b])))<|Xm b (R7 e n c) a) (fy a)
def aq(n:Nat)(a:X Int):V ((X Int)):=
 R7 a n n 0 ([]:X Int)
theorem qtw(n:Nat)(o:X Int)(r:(X Int))(O:aq n o=some r):dB prog 162 [.O false<|o.map<|cI .u64] (.O false<|r.map<|cI .i64):=by unfold aq at O;refine mJ 20 XV ?_;refine gr ?_;refine gr ?_;refine gr ?_;refine gV 3 3 1 1 ?_;refine oH (a3:=0) (fun m b d _=>R7 o n m b d) (fun b d t8=>[(0,.iM (cI .u64) o),(3,.vl 0 t8 0 d.length),(4,.i6 b)]) (fun _ d t8=>⟨FW d t8,1⟩) (lR (fun a _=>fy a) (fun a e=>[(3,.vl 0 e 0 a.length)]) fun a e=>⟨FW a e,1⟩) O (nS ?_) ?_;intro a e O;unfold fy at O;refine go ?_;obtain rfl:=sI O;exact rT (us:=[.vl 0 e 0 a.length]) (u:=.iM (cI .i64) a) (dP rfl (dU))<|fR 0 1;intro i b d t8 O;unfold R7 at O;refine gG O ?_ ?_<;>intro k O;obtain⟨h,g,O⟩:=aJ O;refine go ?_;refine aM rfl (pC (qnv n o b h g) _) M6 ?_;refine gn ?_;refine OZ r (fun c _=>Xm b (R7 o n i) c) (fun c f=>[(0,.iM (cI .u64) o),(3,.vl 0 f 0 c.length),(4,.i6 b)]) (fun c f=>⟨FW c f,1⟩) ?_ ?_;intro c f O;unfold Xm at O;exact wx O;refine cF O ?_ ?_<;>intro j O;obtain⟨l,O⟩:=bU O;refine go ?_;refine bP ?_;refine bP ?_;exact wx O;exact wx O;exact wx O
def Ob(n:Nat)(b:X Int):V (Int):=
 a8 (aq n b) fun a=>some (a.length:Int)
theorem qjt(n:Nat)(c:X Int)(r:Int)(O:Ob n c=some r):dB prog 132 [.O false<|c.map<|cI .u64] (.int .i64 r):=by unfold Ob at O;refine mJ 6 M4 ?_;obtain⟨b,a,O⟩:=aJ O;refine go ?_;refine aM rfl (pC (qtw n c b a) _) XV ?_;exact gx O
def Xa(n:Nat)(e:dW)(a:dW):V (FK):=
 a8 (Ob n e.Code) fun b=>
 a8 (Ob n a.Code) fun c=>
 a8 (cond (decide (b>c)) (some true)<|cond (b==c) (some<|lP e.Name a.Name)<|some false) fun d=>some d
theorem qor(n:Nat)(j:dW)(b:dW)(r:FK)(O:Xa n j b=some r):dB prog 95 [.agg<|fV j,.agg<|fV b] (.bool r):=by
 unfold Xa at O;refine eO 28 kw ?_;obtain⟨h,d,O⟩:=aJ O;refine go ?_;refine aM rfl (pC (qjt n j.Code h d) _) M4 ?_;obtain⟨i,e,O⟩:=aJ O;refine go ?_;refine aM rfl (pC (qjt n b.Code i e) _) M4 ?_;obtain⟨c,a,O⟩:=aJ O;refine gn ?_;refine lD [(4,.bool c)] ⟨[(1,.row (fV b) 143),(0,.row (fV j) 143)],2⟩ ?_ ?_;exact gx O;refine go ?_;obtain⟨f,a⟩|⟨f,a⟩:=gB a;obtain rfl:=sI a;refine go ?_
 repeat refine RS.no (HI rfl rfl rfl) rfl rfl ?_
 refine go ?_;exact m8;refine go ?_;obtain⟨g,a⟩|⟨g,a⟩:=gB a;obtain rfl:=sI a;refine go ?_;refine RS.w (u:=.bool<|lP j.Name b.Name) rfl (HO rfl rfl rfl rfl) ?_;refine go ?_;exact m8;exact gy a
def Xz(d:Int)(a:X dW)(e:Int->(X dW)->V ((X dW)×Int))(c:(X Yv))(b:X Int)(z50:Int):V ((X dW)×Int):=
 aE ((0:Int)<=z50/\z50<=((a.length:Nat):Int)) (
 aE (0+z50.toNat<=a.length) (
 aE (((a.drop 0).take z50.toNat).length*40<=140737488355328/\((a.drop 0).take z50.toNat).length<=140737488355328) (
 aE ((((a.drop 0).take z50.toNat).length+1)*40<=140737488355328/\((a.drop 0).take z50.toNat).length+1<=140737488355328) (
 aE ((0:Int)<=z50/\z50<=((a.length:Nat):Int)) (
 aE ((0+z50.toNat)+(a.length-z50.toNat)<=a.length) (
 aE (((((a.drop 0).take z50.toNat)++[(dW.mk c b)]).length+((a.drop<|0+z50.toNat).take (a.length-z50.toNat)).length)*40<=140737488355328/\(((a.drop 0).take z50.toNat)++[(dW.mk c b)]).length+((a.drop<|0+z50.toNat).take (a.length-z50.toNat)).length<=140737488355328) (
 e (i64.wrap<|d+1) ((((a.drop 0).take z50.toNat)++[(dW.mk c b)])++((a.drop<|0+z50.toNat).take (a.length-z50.toNat))))))))))
def Pa(n:Nat)(g:Int)(c:X dW)(h:Int->(X dW)->V ((X dW)×Int))(e:(X Yv))(d:X Int):Nat->Int->V ((X dW)×Int)
 |0,_=>none|j+1,a=>a8 (cond (decide (a>0)) (a8 (aB c<|i64.wrap<|a-1) fun i=>a8 (Xa n (dW.mk e d) i) fun f=>some f)<|some false) fun b=>cond b ((Pa n g c h e d j)<|i64.wrap<|a-1) (Xz g c h e d a)
def iz  (a:X dW):V ((X dW)×Int):=
 some (a,0)
def RC(j:X bG)(n:Nat)(e:(X<|X Yv))(d:X (X Int))(b:(X<|X Int)):Nat->Int->(X dW)->V ((X dW)×Int)
 |0,_,_=>none|h+1,a,c=>
  cond (decide (a<(b.length:Int))) (a8 (aB b a) fun i=>
   a8 (Vw n j e d i) fun g=>
   a8 (aB b a) fun f=>
   Pa n a c (RC j n e d b h) g f n (c.length:Int)) (iz c)
def na(d:X bG)(n:Nat)(c:(X<|X Yv))(a:X (X Int)):V ((X dW)×Int):=
 a8 (Wz n a) fun b=>cond (decide ((b.length:Int)>256)) (some ([],7)) (RC d n c a b n 0 ([]:X dW))
def Dg(g:X bG)(n:Nat)(a:(X<|X Yv)):Nat->Int->(X<|X Int)->V ((X dW)×Int)
 |0,_,_=>none|f+1,c,b=>
  cond (decide (c<(a.length:Int))) (a8 (aB a c) fun e=>
   a8 (Vy n g a e) fun d=>
   aE ((b.length+1)*24<=140737488355328/\b.length+1<=140737488355328) ((Dg g n a f) (i64.wrap<|c+1)<|b++[d])) (na g n a b)
def QV(n:Nat)(c:X bG):V ((X dW)×Int):=
 a8 (Wr n c) fun a=>cond (a != 0) (some ([],a)) (a8 (Wq n c) fun b=>Dg c n b n 0 ([]:X (X Int)))
theorem fu(n:Nat)(p1:X bG)(r:(X dW)×Int)(O:QV n p1=some r):dB prog 58 [.O false<|p1.map bM] (.a7 [.O false<|r.1.map fV,.int .i64 r.2]):=by unfold QV at O;refine mJ 92 LQ ?_;obtain⟨A,S,O⟩:=aJ O;refine go ?_;refine aM rfl (pC (qrb n p1 A S) _) vi ?_;refine gF O ?_ ?_<;>intro Z O;refine go ?_;obtain rfl:=sI O;exact rT (us:=[.J,.i6 A]) (u:=.a7 [.O false [],.i6 A]) (dP rfl (dP rfl (dU))) wR;obtain⟨d,T,O⟩:=aJ O;refine go ?_;refine aM rfl (pC (qjv n p1 d T) _) Iq ?_;refine gr ?_;refine gr ?_;refine gV 6 141 1 1 ?_;refine oH (a3:=0) (fun m q l _=>Dg p1 n d m q l) (fun q l s=>[(0,.iM bM p1),(5,.iM cS d),(6,.vl 0 s 0 l.length),(7,.i6 q)]) (fun _ l s=>⟨[(0,.bv (cL<|cI .u64) l 141 1 s)],1⟩) (lR (fun b _=>na p1 n d b) (fun b p=>[(0,.iM bM p1),(5,.iM cS d),(6,.vl 0 p 0 b.length)]) fun b p=>⟨[(0,.bv (cL<|cI .u64) b 141 1 p)],1⟩) O (nS ?_) ?_;intro b p O;unfold na at O;refine gn ?_;refine cD (tm':=fr 92 [(0,.iM bM p1),(5,.iM cS d),(6,.iM (cL<|cI .u64) b)]) (Y':=⟨[],1⟩) (Gh.trans (Gh.sub (l':=[(0,.iM bM p1),(5,.iM cS d),(6,.vl 0 p 0 b.length)]) ⟨rfl,rfl,rfl,trivial⟩)<|FC 0 1) NZ ?_;obtain⟨i,R,O⟩:=aJ O;refine go ?_;refine aM rfl (pC (qos n b i R) _) vd ?_;refine gF O ?_ ?_<;>intro lA O;refine go ?_;obtain rfl:=sI O;exact rT (us:=[.J,.i6 7]) (u:=.a7 [.O false [],.i6 7]) (dP rfl (dP rfl (dU))) wR;refine gr ?_;refine gr ?_;refine gV 9 143 2 2 ?_;refine oH (a3:=0) (fun m g a _=>RC p1 n d b i m g a) (fun g a f=>[(0,.iM bM p1),(5,.iM cS d),(6,.iM (cL<|cI .u64) b),(8,.iM (cL<|cI .u64) i),(9,.vl 1 f 0 a.length),(10,.i6 g)]) (fun _ a f=>⟨[(1,.bv fV a 143 2 f)],2⟩) (lR (fun k _=>iz k) (fun k o=>[(9,.vl 1 o 0 k.length)]) fun k o=>⟨[(1,.bv fV k 143 2 o)],2⟩) O (nS ?_) ?_;intro k o O;unfold iz at O;refine go ?_;obtain rfl:=sI O;exact rT (us:=[.vl 1 o 0 k.length,.i6 0]) (u:=.a7 [.iM fV k,.i6 0]) (dP rfl (dP rfl (dU)))<|fR 1 2;intro z g a f O;unfold RC at O;refine gG O ?_ ?_<;>intro pY O;obtain⟨W,I,c,K,e,H,O⟩:=nJ O;refine go ?_;refine dE [(0,13),(1,13),(2,13),(3,13),(4,13),(5,13),(6,13),(8,13),(9,13),(10,13),(11,13),(12,13)] ?_;refine gJ I ?_;refine dN rfl (pC<|qtz n p1 d b W c K) kz ?_;refine gJ H ?_;refine dM ?_;refine qB ?_;refine bB ⟨by kernel_rfl,⟨jA rfl,⟨jA rfl,⟨jA rfl,⟨jA rfl,⟨jA rfl,⟨cV rfl rfl (Lz (cL<|cI .u64) sP.h (aV qX.h) (FR<|cI .u64) I rfl),⟨Ug gS.h rfl rfl rfl,⟨jA rfl,⟨jA rfl,⟨cV rfl rfl (Lz (cL<|cI .u64) sP.h (aV qX.h) (FR<|cI .u64) H rfl),⟨Ug gS.h rfl rfl rfl,⟨gv mj.h rfl rfl rfl,trivial⟩⟩⟩⟩⟩⟩⟩⟩⟩⟩⟩⟩,?_⟩;refine go ?_;refine pM (Pa n g a (RC p1 n d b i z) c e) (fun t=>[(0,.iM bM p1),(5,.iM cS d),(6,.iM (cL<|cI .u64) b),(8,.iM (cL<|cI .u64) i),(9,.vl 1 f 0 a.length),(10,.i6 g),(11,.ptr 2 0 0),(12,.i6 t)]) (fun _=>⟨Ve (.str c) e a f,3⟩) (rJ (Xz g a (RC p1 n d b i z) c e) (fun z50=>[(0,.iM bM p1),(5,.iM cS d),(6,.iM (cL<|cI .u64) b),(8,.iM (cL<|cI .u64) i),(9,.vl 1 f 0 a.length),(10,.i6 g),(11,.ptr 2 0 0),(12,.i6 z50)]) fun _=>⟨Ve (.str c) e a f,3⟩) O (vF ?_) ?_;intro z50 O;unfold Xz at O;obtain⟨J,O⟩:=bU O;obtain⟨Q,O⟩:=bU O;obtain⟨x,O⟩:=bU O;refine go ?_;refine aS (u:=.vl 1 f 0 z50.toNat) rfl (tE rfl uC (uB rfl) (Kz fV sQ.h (aV tK.h) VG (vo rfl) (pe<|Ty _)<|bo J.1 J.2)) (aS (u:=.vl 3 0 0<|((a.drop 0).take z50.toNat).length) (Y':=⟨(3,.bv fV ((a.drop 0).take z50.toNat) 143 2 0)::Ve (.str c) e a f,4⟩) rfl (qV rfl rfl rfl rfl (quq fV ((a.drop 0).take z50.toNat) sQ.h sQ.h tK.h rfl (gi fV VG (vo rfl) Q) x)) ?_);obtain⟨jv,O⟩:=bU O;refine go ?_;refine bP ?_;refine bP ?_;obtain⟨G,O⟩:=bU O;obtain⟨P,O⟩:=bU O;obtain⟨N,O⟩:=bU O;refine go ?_;refine aS (u:=.vl 1 f (0+z50.toNat)<|a.length-z50.toNat) rfl (tE rfl (uB rfl) uC (Kz fV sQ.h (aV tK.h) VG (vo rfl) (pe<|Ty _)<|z1d G.1 G.2)) (aS (u:=.vl 3 2 0<|((((a.drop 0).take z50.toNat)++[(dW.mk c e)])++((a.drop<|0+z50.toNat).take (a.length-z50.toNat))).length) (Y':=⟨(4,.row [.str c,.iM (cI .u64) e] 143)::(3,.bv fV ((((a.drop 0).take z50.toNat)++[(dW.mk c e)])++((a.drop<|0+z50.toNat).take (a.length-z50.toNat))) 143 2 2)::Ve (.str c) e a f,5⟩) rfl (qV rfl rfl rfl rfl (ED fV ((a.drop<|0+z50.toNat).take (a.length-z50.toNat)) sQ.h sQ.h tK.h rfl VG rfl (gi fV VG (vo rfl) P) N)) ?_);refine go ?_;exact⟨z,_,_,zN _,⟨(i64.wrap<|g+1),((((a.drop 0).take z50.toNat)++[(dW.mk c e)])++((a.drop<|0+z50.toNat).take (a.length-z50.toNat))),2,O,rfl,rfl⟩,NZ,Gh.trans (Gh.sub (l':=[(0,.iM bM p1),(5,.iM cS d),(6,.iM (cL<|cI .u64) b),(8,.iM (cL<|cI .u64) i),(9,.vl 3 2 0<|((((a.drop 0).take z50.toNat)++[(dW.mk c e)])++((a.drop<|0+z50.toNat).take (a.length-z50.toNat))).length),(10,.i6<|i64.wrap<|g+1)]) ⟨rfl,rfl,rfl,rfl,rfl,rfl,trivial⟩)<|Gh.trans (Gh.mv (l':=[(0,.iM bM p1),(5,.iM cS d),(6,.iM (cL<|cI .u64) b),(8,.iM (cL<|cI .u64) i),(9,.vl 1 2 0<|((((a.drop 0).take z50.toNat)++[(dW.mk c e)])++((a.drop<|0+z50.toNat).take (a.length-z50.toNat))).length),(10,.i6<|i64.wrap<|g+1)]) (h':=[(4,.row [.str c,.iM (cI .u64) e] 143),(1,.bv fV ((((a.drop 0).take z50.toNat)++[(dW.mk c e)])++((a.drop<|0+z50.toNat).take (a.length-z50.toNat))) 143 2 2),(2,.row [.str c,.iM (cI .u64) e] 143)]) 1 3 NZ rfl rfl (by simp only[rS,rU,fP,UZ,C2,Nat.beq,zC,zD]) rfl (by simp only[mn,rB,Lu,fP,rU,UZ,gm,C2,Nat.beq,zC,zD,jm]))<|P0 (n1:=2) ⟨rfl,rfl,rfl,rfl,rfl,rfl,trivial⟩ rfl NZ aZ⟩;intro m3 t O;unfold Pa at O;obtain⟨v,j,O⟩:=aJ O;refine gn ?_;refine lD [(0,.iM bM p1),(5,.iM cS d),(6,.iM (cL<|cI .u64) b),(8,.iM (cL<|cI .u64) i),(9,.vl 1 f 0 a.length),(10,.i6 g),(11,.ptr 2 0 0),(12,.i6 t),(73,.bool v)] ⟨Ve (.str c) e a f,3⟩ ?_ ?_;refine gG O ?_ ?_<;>intro U O;exact wx O;exact wx O;refine dE [] ?_;refine gd ?_;obtain⟨L,j⟩|⟨L,j⟩:=gB j;obtain⟨E,F,j⟩:=aJ j;obtain⟨B,M,j⟩:=aJ j;obtain rfl:=sI j;refine gd ?_;refine RD.w rfl (cV rfl rfl (gP fV sQ.h (aV tK.h) bF VG (vo rfl) F)) ?_;refine RD.w (u:=.agg<|fV E) rfl (zaj fV U3.h rfl (aV tK.h) VG rfl rfl F rfl) (dN rfl (pC<|qor n (dW.mk c e) E B M) kw ?_);refine gd ?_;refine bB ⟨by kernel_rfl,trivial,?_⟩;refine go ?_;exact m8;obtain rfl:=sI j;refine gd ?_;refine bB ⟨by kernel_rfl,trivial,?_⟩;refine go ?_;exact m8;exact wx O;intro m1 q l s O;unfold Dg at O;refine gG O ?_ ?_<;>intro Y O;obtain⟨D,c?,C,y,O⟩:=bO O;obtain⟨V,O⟩:=bU O;refine gI c? ?_;refine aM rfl (pC (qty n p1 d D C y) _) vf ?_;refine bP ?_;refine bP ?_;exact wx O;exact wx O
def Da(n:Nat)(b:X Yv):V (FK):=
 a8 (Oc n b true) fun a=>some a
theorem qnu(n:Nat)(c:X Yv)(r:FK)(O:Da n c=some r):dB prog 155 [.str c] (.bool r):=by unfold Da at O;refine mJ 5 Y0 ?_;obtain⟨b,a,O⟩:=aJ O;refine go ?_;refine aM rfl (pC (qjs n c true b a) _) LW ?_;exact gx O
def n_(n:Nat)(e:(X<|X Yv))(f:bG)(a:Int)(d:Int->V (Int)): V (Int):=
 a8 (aB f.E6 a) fun b=>
 a8 (HW n e b.Value) fun c=>cond (!c) (some 5) (d<|i64.wrap<|a+1)
def Po(n:Nat)(e:(X<|X Yv))(b:bG)(a:Int)(d:Int->V (Int)):Nat->Int->V (Int)
 |0,_=>none|h+1,c=>cond (decide (c<a)) (a8 (aB b.E6 c) fun g=>a8 (aB b.E6 a) fun f=>cond (mR g.E2 f.E2) (some 4)<|(Po n e b a d h)<|i64.wrap<|c+1) (n_ n e b a d)
def o_(b:Int)(a:Int->V (Int)): V (Int):=
 a (i64.wrap<|b+1)
def OI(n:Nat)(e:(X<|X Yv))(f:Int)(d:Int->V (Int))(a:bG):Nat->Int->V (Int)
 |0,_=>none|h+1,b=>cond (decide (b<(a.E6.length:Int))) (a8 (aB a.E6 b) fun g=>a8 (Da n g.E2) fun c=>cond (!c) (some 1)<|Po n e a b (OI n e f d a h) n 0) (o_ f d)
def p_: V (Int):=
 some 0
def G2(e:X bG)(n:Nat)(b:(X<|X Yv)):Nat->Int->V (Int)
 |0,_=>none|c+1,a=>cond (decide (a<(e.length:Int))) (a8 (aB e a) fun d=>OI n b a (G2 e n b c) d n 0) (p_)
def Ys(n:Nat)(b:X bG):V (Int):=
 a8 (Wq n b) fun a=>
 G2 b n a n 0
theorem qhk(n:Nat)(F:X bG)(r:Int)(O:Ys n F=some r):dB prog 115 [.O false<|F.map bM] (.int .i64 r):=by unfold Ys at O;refine mJ 58 YH ?_;obtain⟨a,q,O⟩:=aJ O;refine go ?_;refine aM rfl (pC (qjv n F a q) _) Iq ?_;refine go ?_;refine pM (G2 F n a) (fun b=>[(0,.iM bM F),(3,.iM cS a),(4,.i6 b)]) (fun _=>⟨[],0⟩) (qQ p_ [] ⟨[],0⟩) O (sN ?_) ?_;intro O;unfold p_ at O;exact gx O;intro e b O;unfold G2 at O;refine gG O ?_ ?_<;>intro y O;obtain⟨c,p,O⟩:=aJ O;refine gI p ?_;refine pM (OI n a b (G2 F n a e) c) (fun d=>[(0,.iM bM F),(3,.iM cS a),(4,.i6 b),(5,.iM mH c.E6),(6,.i6 d)]) (fun _=>⟨[],0⟩) (qQ (o_ b<|G2 F n a e) [(0,.iM bM F),(3,.iM cS a),(4,.i6 b)] ⟨[],0⟩) O (sN ?_) ?_;intro O;unfold o_ at O;exact wx O;intro g d O;unfold OI at O;refine gG O ?_ ?_<;>intro z O;obtain⟨o,t,f,v,O⟩:=bO O;refine gI t ?_;refine aM rfl (pC (qnu n o.E2 f v) _) Y0 ?_;refine gF O ?_ ?_<;>intro E O;exact gx O;refine go ?_;refine pM (Po n a c d<|OI n a b (G2 F n a e) c g) (fun h=>[(0,.iM bM F),(3,.iM cS a),(4,.i6 b),(5,.iM mH c.E6),(6,.i6 d),(7,.i6 h)]) (fun _=>⟨[],0⟩) (qQ (n_ n a c d<|OI n a b (G2 F n a e) c g) [(0,.iM bM F),(3,.iM cS a),(4,.i6 b),(5,.iM mH c.E6),(6,.i6 d)] ⟨[],0⟩) O (sN ?_) ?_;intro O;unfold n_ at O;obtain⟨k,x,l,w,O⟩:=bO O;refine gI x ?_;refine aM rfl (pC (R6 n a k.Value l w) _) o5 ?_;refine gF O ?_ ?_<;>intro B O;exact gx O;exact wx O;intro A h O;unfold Po at O;refine gG O ?_ ?_<;>intro C O;obtain⟨s,j,m,i,O⟩:=bO O;refine go ?_;refine dE [] ?_;refine gJ j ?_;refine dQ i ?_;refine gd ?_;refine aQ (u:=.bool<|mR s.E2 m.E2) rfl (HO rfl rfl rfl rfl) ?_;refine bB ⟨by kernel_rfl,trivial,?_⟩;refine gF O ?_ ?_<;>intro D O;exact gx O;exact wx O;exact wx O;exact wx O;exact wx O
def it(c:Int)(a:(X<|X Yv)->Int->V ((X<|X Yv)))(b:X (X Yv)):V ((X<|X Yv)):=
 a b (i64.wrap<|c+1)
def Dd(j:X bG)(n:Nat)(a:Int)(c:(X<|X Yv)->Int->V ((X<|X Yv))):Nat->(X<|X Yv)->Int->V ((X<|X Yv))
 |0,_,_=>none|h+1,d,b=>
  a8 (aB j a) fun i=>cond (decide (b<(i.E6.length:Int))) (a8 (aB j a) fun g=>
   a8 (aB g.E6 b) fun f=>
   a8 (QS n d f.E2) fun e=>(Dd j n a c h) e<|i64.wrap<|b+1) (it a c d)
def iu  (a:X (X Yv)):V ((X<|X Yv)):=
 some a
def OA(d:X bG)(n:Nat):Nat->(X<|X Yv)->Int->V ((X<|X Yv))
 |0,_,_=>none|c+1,a,b=>cond (decide (b<(d.length:Int))) (Dd d n b (OA d n c) n a 0) (iu a)
def Cq(n:Nat)(a:X bG):V ((X<|X Yv)):=
 OA a n n [] 0
theorem qfo(n:Nat)(u:X bG)(r:(X<|X Yv))(O:Cq n u=some r):dB prog 87 [.O false<|u.map bM] (.O false<|r.map cS):=by unfold Cq at O;refine mJ 34 T0 ?_;refine gr ?_;refine gr ?_;refine gr ?_;refine cD (tm':=fr 34 [(0,.iM bM u),(3,.iM cS []),(4,.i6 0)]) (Gh.trans (Gh.sub (l':=[(0,.iM bM u),(3,.J),(4,.i6 0)]) ⟨rfl,rfl,rfl,trivial⟩)<|Gh.sD (l':=[(0,.iM bM u),(3,.iM cS []),(4,.i6 0)])<|.cons (.refl _)<|.cons (.nil false)<|.cons (.refl _) .nil) NZ ?_;refine CF (OA u n) (fun d a=>[(0,.iM bM u),(3,.iM cS d),(4,.i6 a)]) (fun _ _=>⟨[],0⟩) (rJ iu (fun e=>[(3,.iM cS e)]) fun _=>⟨[],0⟩) O (vF ?_) ?_;intro e O;unfold iu at O;exact gx O;intro g d a O;unfold OA at O;refine gG O ?_ ?_<;>intro q O;refine go ?_;refine CF (Dd u n a<|OA u n g) (fun b f=>[(0,.iM bM u),(3,.iM cS b),(4,.i6 a),(5,.i6 f)]) (fun _ _=>⟨[],0⟩) (rJ (it a<|OA u n g) (fun c=>[(0,.iM bM u),(3,.iM cS c),(4,.i6 a)]) fun _=>⟨[],0⟩) O (vF ?_) ?_;intro c O;unfold it at O;exact wx O;intro s b f O;unfold Dd at O;obtain⟨t,j,O⟩:=aJ O;refine go ?_;refine c8 j ?_;refine gG O ?_ ?_<;>intro p O;obtain⟨o,l,i,m,h,k,O⟩:=nJ O;refine gI l ?_;refine c8 m ?_;refine go ?_;refine aM rfl (pC (Nz n b i.E2 h k) _) tW ?_;exact wx O;exact wx O;exact wx O
def iq: V ((X Yv)×FK):=
 some ([],false)
def Dc(f:bG)(c:X Yv):Nat->Int->V ((X Yv)×FK)
 |0,_=>none|e+1,a=>cond (decide (a<(f.E6.length:Int))) (a8 (aB f.E6 a) fun b=>cond (mR b.E2 c) (a8 (aB f.E6 a) fun d=>some (d.Value,true))<|(Dc f c e)<|i64.wrap<|a+1) (iq)
def Wn(n:Nat)(b:bG)(a:X Yv):V ((X Yv)×FK):=
 Dc b a n 0
theorem qjy(n:Nat)(j:bG)(a:X Yv)(r:(X Yv)×FK)(O:Wn n j a=some r):dB prog 117 [.agg<|bM j,.str a] (.a7 [.str r.1,.bool r.2]):=by unfold Wn at O;refine eO 28 M7 ?_;refine go ?_;refine pM (Dc j a) (fun c=>[(1,.str a),(2,.ptr 0 0 0),(6,.i6 c)]) (fun _=>⟨[(0,.row (bM j) 153)],1⟩) (qQ iq [] ⟨[(0,.row (bM j) 153)],1⟩) O (sN ?_) ?_;intro O;unfold iq at O;refine go ?_;obtain rfl:=sI O;exact BI rfl rfl rfl rfl rfl;intro i c O;unfold Dc at O;refine gG O ?_ ?_<;>intro h O;obtain⟨b,e,O⟩:=aJ O;refine gI e ?_;refine aS (u:=.bool<|mR b.E2 a) rfl (HO rfl rfl rfl rfl) ?_;refine gF O ?_ ?_<;>intro g O;obtain⟨f,d,O⟩:=aJ O;refine gI d ?_;obtain rfl:=sI O;exact BI rfl rfl rfl rfl rfl;exact wx O;exact wx O
def VM(n:Nat)(f:X dW)(a:Int)(b:Int):V (FK):=
 a8 (aB f b) fun d=>
 a8 (aB f a) fun e=>
 a8 (Cu n d.Code e.Code) fun c=>some c
theorem d_(n:Nat)(i:X dW)(a:Int)(b:Int)(r:FK)(O:VM n i a b=some r):dB prog 96 [.O false<|i.map fV,.int .i64 a,.int .i64 b] (.bool r):=by unfold VM at O;refine w4 18 LP ?_;obtain⟨g,c,h,d,f,e,O⟩:=nJ O;refine go ?_;refine dE [] ?_;refine gJ c ?_;refine dQ d ?_;refine gd ?_;refine dN rfl (pC<|NF n g.Code h.Code f e) EZ ?_;refine gd ?_;refine bB ⟨by kernel_rfl,trivial,?_⟩;exact gx O
def ov: V (Int):=
 some (-1)
def Do(e:X dW)(b:X Yv):Nat->Int->V (Int)
 |0,_=>none|c+1,a=>cond (decide (a<(e.length:Int))) (a8 (aB e a) fun d=>cond (mR d.Name b) (some a)<|(Do e b c)<|i64.wrap<|a+1) (ov)
def Of(n:Nat)(b:X dW)(a:X Yv):V (Int):=
 Do b a n 0
theorem Qi(n:Nat)(h:X dW)(a:X Yv)(r:Int)(O:Of n h a=some r):dB prog 98 [.O false<|h.map fV,.str a] (.int .i64 r):=by unfold Of at O;refine eO 20 SZ ?_;refine go ?_;refine pM (Do h a) (fun b=>[(0,.iM fV h),(1,.str a),(5,.i6 b)]) (fun _=>⟨[],0⟩) (qQ ov [] ⟨[],0⟩) O (sN ?_) ?_;intro O;unfold ov at O;exact gx O;intro g b O;unfold Do at O;refine gG O ?_ ?_<;>intro f O;obtain⟨d,c,O⟩:=aJ O;refine gI c ?_;refine aS (u:=.bool<|mR d.Name a) rfl (HO rfl rfl rfl rfl) ?_;refine gF O ?_ ?_<;>intro e O;exact gx O;exact wx O;exact wx O
def k_  (b:FK) (a:X Int):V ((X Int)×FK):=
 some (a,b)
def VT(r:X bG)(a:X dW)(e:Int)(f:X Yv)(n:Nat):Nat->FK->(X Int)->Int->V ((X Int)×FK)
 |0,_,_,_=>none|k+1,i,d,b=>
  cond (decide (b<(r.length:Int))) (a8 (aB r b) fun q=>
   a8 (Wn n q f) fun j=>
   a8 (cond (!j.2) (some true) (a8 (aB r b) fun m=>
    a8 (Of n a m.Name) fun o=>
    a8 (VM n a o e) fun g=>some<|!g)) fun c=>cond c ((VT r a e f n k) i d<|i64.wrap<|b+1) (a8 (Of n a j.1) fun h=>
    a8 (aB a h) fun p=>
    a8 (JN n d p.Code) fun l=>(VT r a e f n k) true l<|i64.wrap<|b+1)) (k_ i d)
def Pg(n:Nat)(e:X bG)(a:X dW)(b:Int)(c:X Yv):V ((X Int)×FK):=
 a8 (aB a 0) fun d=>
 VT e a b c n n false d.Code 0
theorem qez(n:Nat)(I:X bG)(b:X dW)(c:Int)(d:X Yv)(r:(X Int)×FK)(O:Pg n I b c d=some r):dB prog 88 [.O false<|I.map bM,.O false<|b.map fV,.int .i64 c,.str d] (.a7 [.O false<|r.1.map<|cI .u64,.bool r.2]):=by unfold Pg at O;refine Kd 60 Ir ?_;obtain⟨H,u,O⟩:=aJ O;refine gI u ?_;refine oH (VT I b c d n) (fun f e i=>[(0,.iM bM I),(1,.iM fV b),(2,.i6 c),(3,.str d),(10,.bool f),(11,.iM (cI .u64) e),(12,.i6 i)]) (fun _ _ _=>⟨[],0⟩) (lR k_ (fun o m=>[(10,.bool o),(11,.iM (cI .u64) m)]) fun _ _=>⟨[],0⟩) O (nS ?_) ?_;intro o m O;unfold k_ at O;refine go ?_;obtain rfl:=sI O;exact BI rfl rfl rfl rfl rfl;intro F f e i O;unfold VT at O;refine gG O ?_ ?_<;>intro E O;obtain⟨B,A,g,y,O⟩:=bO O;refine gI A ?_;refine aM rfl (pC (qjy n B d g y) _) M7 ?_;obtain⟨h,a,O⟩:=aJ O;refine gn ?_;refine lD [(0,.iM bM I),(1,.iM fV b),(2,.i6 c),(3,.str d),(10,.bool f),(11,.iM (cI .u64) e),(12,.i6 i),(13,.str g.1),(48,.bool h)] ⟨[],0⟩ ?_ ?_;refine gF O ?_ ?_<;>intro G O;exact wx O;obtain⟨k,z,v,q,s,p,O⟩:=nJ O;refine go ?_;refine aM rfl (pC (Qi n b g.1 k z) _) SZ ?_;refine c8 q ?_;refine go ?_;refine aM rfl (pC (qik n e v.Code s p) _) F2 ?_;exact wx O;refine go ?_;obtain⟨x,a⟩|⟨x,a⟩:=gB a;exact gy a;obtain⟨t,w,a⟩:=aJ a;obtain⟨l,D,a⟩:=aJ a;obtain⟨j,C,a⟩:=aJ a;obtain rfl:=sI a;refine gI w ?_;refine aM rfl (pC (Qi n b t.Name l D) _) SZ ?_;refine go ?_;refine aM rfl (pC (d_ n b l c j C) _) LP ?_;refine go ?_;exact m8;exact wx O
def Xx(c:Int)(a:(X<|X Yv)->Int->V ((X Yv)×FK))(b:X (X Yv)):V ((X Yv)×FK):=
 a b (i64.wrap<|c+1)
def ir(d:X bG)(n:Nat)(c:X (X Yv)):V ((X Yv)×FK):=
 a8 (Ot n d c) fun a=>cond ((a.length:Int) != 1) (some ([],false)) (a8 (aB a 0) fun b=>some (b,true))
def RB(i:X bG)(c:X Yv)(n:Nat):Nat->(X<|X Yv)->Int->V ((X Yv)×FK)
 |0,_,_=>none|e+1,b,a=>
  cond (decide (a<(i.length:Int))) (a8 (aB i a) fun g=>
   a8 (Wn n g c) fun f=>cond f.2 (a8 (aB i a) fun h=>
    a8 (QS n b h.Name) fun d=>
    Xx a (RB i c n e) d)<|Xx a (RB i c n e) b) (ir i n b)
def Wo(n:Nat)(b:X bG)(a:X Yv):V ((X Yv)×FK):=
 RB b a n n [] 0
theorem qjx(n:Nat)(x:X bG)(a:X Yv)(r:(X Yv)×FK)(O:Wo n x a=some r):dB prog 97 [.O false<|x.map bM,.str a] (.a7 [.str r.1,.bool r.2]):=by unfold Wo at O;refine eO 43 Ip ?_;refine gr ?_;refine gr ?_;refine gr ?_;refine cD (tm':=fr 43 [(0,.iM bM x),(1,.str a),(6,.iM cS []),(7,.i6 0)]) (Gh.trans (Gh.sub (l':=[(0,.iM bM x),(1,.str a),(6,.J),(7,.i6 0)]) ⟨rfl,rfl,rfl,rfl,trivial⟩)<|Gh.sD (l':=[(0,.iM bM x),(1,.str a),(6,.iM cS []),(7,.i6 0)])<|.cons (.refl _)<|.cons (.refl _)<|.cons (.nil false)<|.cons (.refl _) .nil) NZ ?_;refine CF (RB x a n) (fun c b=>[(0,.iM bM x),(1,.str a),(6,.iM cS c),(7,.i6 b)]) (fun _ _=>⟨[],0⟩) (rJ (ir x n) (fun d=>[(0,.iM bM x),(6,.iM cS d)]) fun _=>⟨[],0⟩) O (vF ?_) ?_;intro d O;unfold ir at O;obtain⟨k,h,O⟩:=aJ O;refine go ?_;refine aM rfl (pC (qgq n x d k h) _) M5 ?_;refine gF O ?_ ?_<;>intro u O;refine go ?_;obtain rfl:=sI O;exact BI rfl rfl rfl rfl rfl;obtain⟨t,g,O⟩:=aJ O;refine gI g ?_;obtain rfl:=sI O;exact BI rfl rfl rfl rfl rfl;intro m c b O;unfold RB at O;refine gG O ?_ ?_<;>intro v O;obtain⟨o,i,l,j,O⟩:=bO O;refine gI i ?_;refine aM rfl (pC (qjy n o a l j) _) M7 ?_;refine gr ?_;refine uc r (Xx b<|RB x a n m) (fun f=>[(0,.iM bM x),(1,.str a),(6,.iM cS f),(7,.i6 b)]) (fun _=>⟨[],0⟩) ?_ ?_;intro f O;unfold Xx at O;exact wx O;refine cF O ?_ ?_<;>intro w O;obtain⟨p,q,e,s,O⟩:=bO O;refine gI q ?_;refine aM rfl (pC (Nz n c p.Name e s) _) tW ?_;exact wx O;exact wx O;exact wx O
def iv(a:Int)(b:Int->V (Int)): V (Int):=
 b (i64.wrap<|a+1)
def De(j:X bG)(n:Nat)(g:(X dW)×Int)(d:(X<|X Yv))(c:Int)(f:Int->V (Int)):Nat->Int->V (Int)
 |0,_=>none|h+1,b=>
  cond (decide (b<(d.length:Int))) (a8 (aB d b) fun i=>
   a8 (Pg n j g.1 c i) fun e=>
   a8 (cond e.2 (some<|(e.1.length:Int)==0)<|some false) fun a=>cond a (some 11)<|(De j n g d c f h)<|i64.wrap<|b+1) (iv c f)
def iw: V (Int):=
 some 0
def OB(e:X bG)(n:Nat)(a:(X dW)×Int)(c:(X<|X Yv)):Nat->Int->V (Int)
 |0,_=>none|d+1,b=>cond (decide (b<(a.1.length:Int))) (De e n a c b (OB e n a c d) n 0) (iw)
def iy(c:X bG)(n:Nat)(a:(X dW)×Int)(b:(X<|X Yv)): V (Int):=
 OB c n a b n 0
def Df(g:X bG)(n:Nat)(c:(X dW)×Int)(a:(X<|X Yv)):Nat->Int->V (Int)
 |0,_=>none|f+1,b=>cond (decide (b<(a.length:Int))) (a8 (aB a b) fun e=>a8 (Wo n g e) fun d=>cond (!d.2) (some 10)<|(Df g n c a f)<|i64.wrap<|b+1) (iy g n c a)
def VF(n:Nat)(d:X bG):V (Int):=
 a8 (QV n d) fun a=>cond (a.2 != 0) (some a.2) (a8 (Cq n d) fun b=>cond (decide ((b.length:Int)>64)) (some 7)<|a8 (Ys n d) fun c=>cond (c != 0) (some c)<|Df d n a b n 0)
theorem qjw(n:Nat)(H:X bG)(r:Int)(O:VF n H=some r):dB prog 86 [.O false<|H.map bM] (.int .i64 r):=by unfold VF at O;refine mJ 78 Is ?_;obtain⟨a,o,O⟩:=aJ O;refine go ?_;refine aM rfl (pC (fu n H a o) _) LQ ?_;refine gF O ?_ ?_<;>intro A O;exact gx O;obtain⟨b,p,O⟩:=aJ O;refine go ?_;refine aM rfl (pC (qfo n H b p) _) T0 ?_;refine gF O ?_ ?_<;>intro B O;exact gx O;obtain⟨t,q,O⟩:=aJ O;refine go ?_;refine aM rfl (pC (qhk n H t q) _) YH ?_;refine gF O ?_ ?_<;>intro z O;exact gx O;refine go ?_;refine pM (Df H n a b) (fun g=>[(0,.iM bM H),(3,.iM fV a.1),(5,.iM cS b),(7,.i6 g)]) (fun _=>⟨[],0⟩) (qQ (iy H n a b) [(0,.iM bM H),(3,.iM fV a.1),(5,.iM cS b)] ⟨[],0⟩) O (sN ?_) ?_;intro O;unfold iy at O;refine go ?_;refine pM (OB H n a b) (fun c=>[(0,.iM bM H),(3,.iM fV a.1),(5,.iM cS b),(10,.i6 c)]) (fun _=>⟨[],0⟩) (qQ iw [] ⟨[],0⟩) O (sN ?_) ?_;intro O;unfold iw at O;exact gx O;intro h c O;unfold OB at O;refine gG O ?_ ?_<;>intro E O;refine go ?_;refine pM (De H n a b c<|OB H n a b h) (fun f=>[(0,.iM bM H),(3,.iM fV a.1),(5,.iM cS b),(10,.i6 c),(11,.i6 f)]) (fun _=>⟨[],0⟩) (qQ (iv c<|OB H n a b h) [(0,.iM bM H),(3,.iM fV a.1),(5,.iM cS b),(10,.i6 c)] ⟨[],0⟩) O (sN ?_) ?_;intro O;unfold iv at O;exact wx O;intro D f O;unfold De at O;refine gG O ?_ ?_<;>intro G O;obtain⟨w,v,m,s,O⟩:=bO O;refine gI v ?_;refine aM rfl (pC (qez n H a.1 c w m s) _) Ir ?_;obtain⟨e,d,O⟩:=aJ O;refine gn ?_;refine lD [(0,.iM bM H),(3,.iM fV a.1),(5,.iM cS b),(10,.i6 c),(11,.i6 f),(77,.bool e)] ⟨[],0⟩ ?_ ?_;refine gF O ?_ ?_<;>intro x O;exact gx O;exact wx O;refine go ?_;obtain⟨u,d⟩|⟨u,d⟩:=gB d;exact gy d;exact gy d;exact wx O;exact wx O;intro C g O;unfold Df at O;refine gG O ?_ ?_<;>intro y O;obtain⟨k,i,j,l,O⟩:=bO O;refine gI i ?_;refine aM rfl (pC (qjx n H k j l) _) Ip ?_;refine gF O ?_ ?_<;>intro F O;exact gx O;exact wx O;exact wx O
def fq: V (Int):=
 some (-1)
def Cy(f:X dW)(n:Nat)(c:(X Int)):Nat->Int->V (Int)
 |0,_=>none|e+1,a=>cond (decide (a<(f.length:Int))) (a8 (aB f a) fun b=>a8 (QT n b.Code c) fun d=>cond d (some a)<|(Cy f n c e)<|i64.wrap<|a+1) (fq)
def Vz(n:Nat)(c:X dW)(a:X Int):V (Int):=
 a8 (O8 n a) fun b=>
 Cy c n b n 0
theorem qtx(n:Nat)(l:X dW)(b:X Int)(r:Int)(O:Vz n l b=some r):dB prog 89 [.O false<|l.map fV,.O false<|b.map<|cI .u64] (.int .i64 r):=by unfold Vz at O;refine eO 23 vj ?_;obtain⟨a,g,O⟩:=aJ O;refine go ?_;refine aM rfl (pC (oj n b a g) _) B7 ?_;refine go ?_;refine pM (Cy l n a) (fun d=>[(0,.iM fV l),(5,.iM (cI .u64) a),(6,.i6 d)]) (fun _=>⟨[],0⟩) (qQ fq [] ⟨[],0⟩) O (sN ?_) ?_;intro O;unfold fq at O;exact gx O;intro k d O;unfold Cy at O;refine gG O ?_ ?_<;>intro i O;obtain⟨c,h,f,e,O⟩:=bO O;refine gI h ?_;refine aM rfl (pC (qgp n c.Code a f e) _) F1 ?_;refine gF O ?_ ?_<;>intro j O;exact gx O;exact wx O;exact wx O
def Yf(a:Int)(b:Int->(X oN)->V ((X<|X oN)×Int))(c:X oN):V ((X<|X oN)×Int):=
 b (i64.wrap<|a+1) c
def ow(d:Int)(a:X (X oN))(c:Int->(X<|X oN)->V ((X<|X oN)×Int))(b:X oN):V ((X<|X oN)×Int):=
 aE ((a.length+1)*24<=140737488355328/\a.length+1<=140737488355328) (
 c (i64.wrap<|d+1) (a++[b]))
def RM(l:X bG)(n:Nat)(d:(X dW)×Int)(e:(X<|X Yv))(c:Int)(g:X (X oN))(f:Int->(X<|X oN)->V ((X<|X oN)×Int)):Nat->Int->(X oN)->V ((X<|X oN)×Int)
 |0,_,_=>none|i+1,a,b=>
  cond (decide (a<(e.length:Int))) (a8 (aB e a) fun k=>
   a8 (Pg n l d.1 c k) fun j=>cond j.2 (a8 (Vz n d.1 j.1) fun h=>
    aE ((b.length+1)*16<=140737488355328/\b.length+1<=140737488355328) (
    Yf a (RM l n d e c g f i) (b++[(oN.mk a h)])))<|Yf a (RM l n d e c g f i) b) (ow c g f b)
def re  (a:X (X oN)):V ((X<|X oN)×Int):=
 some (a,0)
def JT(f:X bG)(n:Nat)(a:(X dW)×Int)(d:(X<|X Yv)):Nat->Int->(X<|X oN)->V ((X<|X oN)×Int)
 |0,_,_=>none|e+1,c,b=>cond (decide (c<(a.1.length:Int))) (RM f n a d c b (JT f n a d e) n 0 ([]:X oN)) (re b)
def Og(n:Nat)(d:X bG):V ((X<|X oN)×Int):=
 a8 (VF n d) fun a=>cond (a != 0) (some ([],a)) (a8 (QV n d) fun b=>
  a8 (Cq n d) fun c=>
  JT d n b c n 0 ([]:X (X oN)))
theorem qot(n:Nat)(K:X bG)(r:(X<|X oN)×Int)(O:Og n K=some r):dB prog 57 [.O false<|K.map bM] (.a7 [.O false<|r.1.map<|cL uG,.int .i64 r.2]):=by unfold Og at O;refine mJ 63 yg ?_;obtain⟨s,w,O⟩:=aJ O;refine go ?_;refine aM rfl (pC (qjw n K s w) _) Is ?_;refine gF O ?_ ?_<;>intro H O;refine go ?_;obtain rfl:=sI O;exact rT (us:=[.J,.i6 s]) (u:=.a7 [.O false [],.i6 s]) (dP rfl (dP rfl (dU))) wR;obtain⟨b,x,O⟩:=aJ O;refine go ?_;refine aM rfl (pC (fu n K b x) _) LQ ?_;obtain⟨d,y,O⟩:=aJ O;refine go ?_;refine aM rfl (pC (qfo n K d y) _) T0 ?_;refine gr ?_;refine gr ?_;refine gV 8 145 1 1 ?_;refine oH (a3:=0) (fun m c a _=>JT K n b d m c a) (fun c a e=>[(0,.iM bM K),(5,.iM fV b.1),(7,.iM cS d),(8,.vl 0 e 0 a.length),(9,.i6 c)]) (fun _ a e=>⟨[(0,.bv (cL uG) a 145 1 e)],1⟩) (lR (fun g _=>re g) (fun g k=>[(8,.vl 0 k 0 g.length)]) fun g k=>⟨[(0,.bv (cL uG) g 145 1 k)],1⟩) O (nS ?_) ?_;intro g k O;unfold re at O;refine go ?_;obtain rfl:=sI O;exact rT (us:=[.vl 0 k 0 g.length,.i6 0]) (u:=.a7 [.iM (cL uG) g,.i6 0]) (dP rfl (dP rfl (dU)))<|fR 0 1;intro q c a e O;unfold JT at O;refine gG O ?_ ?_<;>intro J O;refine gr ?_;refine gr ?_;refine gV 10 186 2 2 ?_;refine oH (a3:=0) (fun m h i _=>RM K n b d c a (JT K n b d q) m h i) (fun h i o=>[(0,.iM bM K),(5,.iM fV b.1),(7,.iM cS d),(8,.vl 0 e 0 a.length),(9,.i6 c),(10,.vl 1 o 0 i.length),(11,.i6 h)]) (fun _ i o=>⟨[(1,.bv uG i 186 2 o),(0,.bv (cL uG) a 145 1 e)],2⟩) (lR (fun f _=>ow c a (JT K n b d q) f) (fun f l=>[(0,.iM bM K),(5,.iM fV b.1),(7,.iM cS d),(8,.vl 0 e 0 a.length),(9,.i6 c),(10,.vl 1 l 0 f.length)]) fun f l=>⟨[(1,.bv uG f 186 2 l),(0,.bv (cL uG) a 145 1 e)],2⟩) O (nS ?_) ?_;intro f l O;unfold ow at O;refine gn ?_;refine cD (tm':=fr 63 [(0,.iM bM K),(5,.iM fV b.1),(7,.iM cS d),(8,.vl 0 e 0 a.length),(9,.i6 c),(10,.iM uG f)]) (Y':=⟨[(0,.bv (cL uG) a 145 1 e)],2⟩) (Gh.trans (Gh.sub (l':=[(0,.iM bM K),(5,.iM fV b.1),(7,.iM cS d),(8,.vl 0 e 0 a.length),(9,.i6 c),(10,.vl 1 l 0 f.length)]) ⟨rfl,rfl,rfl,rfl,rfl,rfl,trivial⟩)<|FC 1 2) NZ ?_;obtain⟨I,O⟩:=bU O;refine go ?_;refine bP ?_;refine bP ?_;exact wx O;intro A h i o O;unfold RM at O;refine gG O ?_ ?_<;>intro E O;obtain⟨z,B,v,D,O⟩:=bO O;refine gI B ?_;refine aM rfl (pC (qez n K b.1 c z v D) _) Ir ?_;refine gr ?_;refine OZ r (fun j _=>Yf h (RM K n b d c a (JT K n b d q) A) j) (fun j p=>[(0,.iM bM K),(5,.iM fV b.1),(7,.iM cS d),(8,.vl 0 e 0 a.length),(9,.i6 c),(10,.vl 1 p 0 j.length),(11,.i6 h)]) (fun j p=>⟨[(1,.bv uG j 186 2 p),(0,.bv (cL uG) a 145 1 e)],2⟩) ?_ ?_;intro j p O;unfold Yf at O;exact wx O;refine cF O ?_ ?_<;>intro G O;obtain⟨t,C,O⟩:=aJ O;obtain⟨F,O⟩:=bU O;refine go ?_;refine aM rfl (pC (qtx n b.1 v.1 t C) _) vj ?_;refine go ?_;refine bP ?_;refine bP ?_;exact wx O;exact wx O;exact wx O;exact wx O
def Yj(c:Int)(a:Int->(X Int)->V ((X Int)))(b:X Int):V ((X Int)):=
 a (i64.wrap<|c+1) b
def rf(b:Int)(a:X Int)(c:Int->(X Int)->V ((X Int)))(k?:FK):V ((X Int)):=
 cond k? (aE ((a.length+1)*8<=140737488355328/\a.length+1<=140737488355328) (
  Yj b c (a++[b]))) (Yj b c a)
def VQ(k:X dW)(c:Int)(n:Nat)(b:Int)(e:X Int)(d:Int->(X Int)->V ((X Int))):Nat->FK->Int->V ((X Int))
 |0,_,_=>none|j+1,f,a=>cond (decide (a<(k.length:Int))) (a8 (cond f (cond (a==c) (some true)<|cond (a==b) (some true)<|a8 (VM n k b a) fun g=>cond (!g) (some true)<|a8 (VM n k a c) fun i=>some<|!i)<|some false) fun h=>(VQ k c n b e d j) h<|i64.wrap<|a+1) (rf b e d f)
def rh  (a:X Int):V ((X Int)):=
 some a
def G1(g:X dW)(a:Int)(n:Nat):Nat->Int->(X Int)->V ((X Int))
 |0,_,_=>none|d+1,b,c=>cond (decide (b<(g.length:Int))) (a8 (cond (b==a) (some true)<|a8 (VM n g b a) fun e=>some<|!e) fun f=>cond f ((G1 g a n d) (i64.wrap<|b+1) c)<|VQ g a n b c (G1 g a n d) n true 0) (rh c)
def dw(n:Nat)(b:X dW)(a:Int):V ((X Int)):=
 G1 b a n n 0 ([]:X Int)
theorem qoq(n:Nat)(K:X dW)(c:Int)(r:(X Int))(O:dw n K c=some r):dB prog 59 [.O false<|K.map fV,.int .i64 c] (.O false<|r.map<|cI .i64):=by
 unfold dw at O;refine eO 62 yf ?_;refine gr ?_;refine gr ?_;refine gr ?_;refine gV 5 3 1 1 ?_;refine oH (a3:=0) (fun m d b _=>G1 K c n m d b) (fun d b e=>[(0,.iM fV K),(1,.i6 c),(5,.vl 0 e 0 b.length),(6,.i6 d)]) (fun _ b e=>⟨FW b e,1⟩) (lR (fun f _=>rh f) (fun f j=>[(5,.vl 0 j 0 f.length)]) fun f j=>⟨FW f j,1⟩) O (nS ?_) ?_;intro f j O;unfold rh at O;refine go ?_;obtain rfl:=sI O;exact rT (us:=[.vl 0 j 0 f.length]) (u:=.iM (cI .i64) f) (dP rfl (dU))<|fR 0 1;intro l d b e O;unfold G1 at O;refine gG O ?_ ?_<;>intro E O;obtain⟨C,g,O⟩:=aJ O;refine gn ?_;refine lD [(0,.iM fV K),(1,.i6 c),(5,.vl 0 e 0 b.length),(6,.i6 d),(24,.bool C)] ⟨FW b e,1⟩ ?_ ?_;refine gF O ?_ ?_<;>intro F O;exact wx O;refine go ?_;refine CF (VQ K c n d b<|G1 K c n l) (fun o i=>[(0,.iM fV K),(1,.i6 c),(5,.vl 0 e 0 b.length),(6,.i6 d),(7,.bool o),(8,.i6 i)]) (fun _ _=>⟨FW b e,1⟩) (rJ (rf d b<|G1 K c n l) (fun k?=>[(0,.iM fV K),(1,.i6 c),(5,.vl 0 e 0 b.length),(6,.i6 d),(7,.bool k?)]) fun _=>⟨FW b e,1⟩) O (vF ?_) ?_;intro k? O;unfold rf at O;refine gr ?_;refine OZ r (fun h _=>Yj d (G1 K c n l) h) (fun h k=>[(0,.iM fV K),(1,.i6 c),(5,.vl 0 k 0 h.length),(6,.i6 d)]) (fun h k=>⟨FW h k,1⟩) ?_ ?_;intro h k O;unfold Yj at O;exact wx O;refine cF O ?_ ?_<;>intro J O;obtain⟨I,O⟩:=bU O;refine go ?_;refine bP ?_;refine bP ?_;exact wx O;exact wx O;intro G o i O;unfold VQ at O;refine gG O ?_ ?_<;>intro H O;obtain⟨v,a,O⟩:=aJ O;refine gn ?_;refine lD [(0,.iM fV K),(1,.i6 c),(5,.vl 0 e 0 b.length),(6,.i6 d),(7,.bool v),(8,.i6 i)] ⟨FW b e,1⟩ ?_ ?_;exact wx O;refine go ?_;obtain⟨A,a⟩|⟨A,a⟩:=gB a;refine go ?_;obtain⟨q,a⟩|⟨q,a⟩:=gB a;exact gy a;refine go ?_;obtain⟨s,a⟩|⟨s,a⟩:=gB a;exact gy a;obtain⟨t,p,a⟩:=aJ a;refine go ?_;refine aM rfl (pC (d_ n K d i t p) _) LP ?_;refine go ?_;obtain⟨D,a⟩|⟨D,a⟩:=gB a;exact gy a;obtain⟨w,B,a⟩:=aJ a;obtain rfl:=sI a;refine go ?_;refine aM rfl (pC (d_ n K i c w B) _) LP ?_;refine go ?_;exact m8;obtain rfl:=sI a;refine go ?_
 repeat refine RS.no (HI rfl rfl rfl) rfl rfl ?_
 refine go ?_
 repeat refine RS.no (HI rfl rfl rfl) rfl rfl ?_
 refine go ?_
 repeat refine RS.no (HI rfl rfl rfl) rfl rfl ?_
 refine go ?_;exact m8;exact wx O;refine go ?_;obtain⟨x,g⟩|⟨x,g⟩:=gB g;exact gy g;obtain⟨z,y,g⟩:=aJ g;obtain rfl:=sI g;refine go ?_;refine aM rfl (pC (d_ n K d c z y) _) LP ?_;refine go ?_;exact m8;exact wx O
def i_  (a:X kH):V ((X kH)×Int):=
 some (a,0)
def Ds(j:X bG)(n:Nat)(d:(X dW)×Int)(c:(X<|X Yv)):Nat->Int->(X kH)->V ((X kH)×Int)
 |0,_,_=>none|i+1,b,a=>
  cond (decide (b<(c.length:Int))) (a8 (aB c b) fun f=>
   a8 (Wo n j f) fun e=>
   a8 (aB c b) fun g=>
   a8 (Of n d.1 e.1) fun h=>
   aE ((a.length+1)*24<=140737488355328/\a.length+1<=140737488355328) ((Ds j n d c i) (i64.wrap<|b+1)<|a++[(kH.mk g h)])) (i_ a)
def Xy(n:Nat)(d:X bG):V ((X kH)×Int):=
 a8 (VF n d) fun a=>cond (a != 0) (some ([],a)) (a8 (QV n d) fun b=>
  a8 (Cq n d) fun c=>
  Ds d n b c n 0 ([]:X kH))
theorem qlv(n:Nat)(B:X bG)(r:(X kH)×Int)(O:Xy n B=some r):dB prog 60 [.O false<|B.map bM] (.a7 [.O false<|r.1.map jC,.int .i64 r.2]):=by unfold Xy at O;refine mJ 51 ye ?_;obtain⟨g,l,O⟩:=aJ O;refine go ?_;refine aM rfl (pC (qjw n B g l) _) Is ?_;refine gF O ?_ ?_<;>intro x O;refine go ?_;obtain rfl:=sI O;exact rT (us:=[.J,.i6 g]) (u:=.a7 [.O false [],.i6 g]) (dP rfl (dP rfl (dU))) wR;obtain⟨e,o,O⟩:=aJ O;refine go ?_;refine aM rfl (pC (fu n B e o) _) LQ ?_;obtain⟨h,p,O⟩:=aJ O;refine go ?_;refine aM rfl (pC (qfo n B h p) _) T0 ?_;refine gr ?_;refine gr ?_;refine gV 8 197 2 1 ?_;refine oH (a3:=0) (fun m d b _=>Ds B n e h m d b) (fun d b f=>[(0,.iM bM B),(5,.iM fV e.1),(7,.iM cS h),(8,.vl 0 f 0 b.length),(9,.i6 d)]) (fun _ b f=>⟨[(0,.bv jC b 197 2 f)],1⟩) (lR (fun a _=>i_ a) (fun a c=>[(8,.vl 0 c 0 a.length)]) fun a c=>⟨[(0,.bv jC a 197 2 c)],1⟩) O (nS ?_) ?_;intro a c O;unfold i_ at O;refine go ?_;obtain rfl:=sI O;exact rT (us:=[.vl 0 c 0 a.length,.i6 0]) (u:=.a7 [.iM jC a,.i6 0]) (dP rfl (dP rfl (dU)))<|fR 0 2;intro y d b f O;unfold Ds at O;refine gG O ?_ ?_<;>intro A O;obtain⟨j,v,i,s,O⟩:=bO O;refine gI v ?_;refine aM rfl (pC (qjx n B j i s) _) Ip ?_;obtain⟨w,q,k,t,O⟩:=bO O;obtain⟨z,O⟩:=bU O;refine go ?_;refine dE [(0,9)] ?_;refine gJ q ?_;refine dN rfl (pC<|Qi n e.1 i.1 k t) SZ ?_;refine gd ?_;refine dM ?_;refine dM ?_;refine gd ?_;refine bB ⟨by kernel_rfl,⟨jA rfl,trivial⟩,?_⟩;exact wx O;exact wx O
def c_(c:X bG)(n:Nat)(a:X hX):V (cR×Int):=
 a8 (Xy n c) fun b=>some ((cR.mk a b.1),0)
def Dq(j:X bG)(n:Nat)(d:(X<|X oN)×Int)(b:(X dW)×Int):Nat->Int->(X hX)->V (cR×Int)
 |0,_,_=>none|f+1,a,c=>
  cond (decide (a<(b.1.length:Int))) (a8 (aB b.1 a) fun e=>
   a8 (aB b.1 a) fun i=>
   a8 (dw n b.1 a) fun h=>
   a8 (aB d.1 a) fun g=>
   aE ((c.length+1)*88<=140737488355328/\c.length+1<=140737488355328) ((Dq j n d b f) (i64.wrap<|a+1)<|c++[(hX.mk e.Name i.Code h g)])) (c_ j n c)
def R3(n:Nat)(c:X bG):V (cR×Int):=
 a8 (Og n c) fun a=>cond (a.2 != 0) (some ((cR.mk [] []),a.2)) (a8 (QV n c) fun b=>Dq c n a b n 0 ([]:X hX))
theorem g'(n:Nat)(C:X bG)(r:cR×Int)(O:R3 n C=some r):dB prog 32 [.O false<|C.map bM] (.a7 [.agg<|fK r.1,.int .i64 r.2]):=by unfold R3 at O;refine mJ 63 T6 ?_;obtain⟨b,j,O⟩:=aJ O;refine go ?_;refine aM rfl (pC (qot n C b j) _) yg ?_;refine gF O ?_ ?_<;>intro w O;refine go ?_;obtain rfl:=sI O;exact rT (us:=[.agg [.J,.J],.i6 b.2]) (u:=.a7 [.agg [.O false [],.O false []],.i6 b.2]) (nK (kR uV.h rfl (aV DD.h) rfl rfl rfl)<|dP rfl (dU)) wR;obtain⟨e,k,O⟩:=aJ O;refine go ?_;refine aM rfl (pC (fu n C e k) _) LQ ?_;refine gr ?_;refine gr ?_;refine cD (tm':=fr 63 [(0,.iM bM C),(2,.ptr 0 0 0),(4,.iM (cL uG) b.1),(6,.iM fV e.1),(8,.ptr 1 0 0),(9,.i6 0)]) (Y':=⟨[(2,.bv hZ ([]:X hX) 147 4 0),(1,.row [.vl 2 0 0<|([]:X hX).length,.J] 27),(0,.row [.J,.J] 27)],3⟩) (Gh.trans (xK 1 0 147 4 bF NZ rfl rfl)<|qR ⟨rfl,rfl,rfl,rfl,rfl,rfl,trivial⟩ rfl) NZ ?_;refine oH (a3:=0) (fun m c d _=>Dq C n b e m c d) (fun c _ _=>[(0,.iM bM C),(2,.ptr 0 0 0),(4,.iM (cL uG) b.1),(6,.iM fV e.1),(8,.ptr 1 0 0),(9,.i6 c)]) (fun _ d g=>⟨[(2,.bv hZ d 147 4 g),(1,.row [.vl 2 g 0 d.length,.J] 27),(0,.row [.J,.J] 27)],3⟩) (lR (fun a _=>c_ C n a) (fun _ _=>[(0,.iM bM C),(2,.ptr 0 0 0),(8,.ptr 1 0 0)]) fun a f=>⟨[(2,.bv hZ a 147 4 f),(1,.row [.vl 2 f 0 a.length,.J] 27),(0,.row [.J,.J] 27)],3⟩) O (nS ?_) ?_;intro a f O;unfold c_ at O;obtain⟨i,l,O⟩:=aJ O;refine go ?_;refine aM rfl (pC (qlv n C i l) _) ye ?_;refine go ?_;obtain rfl:=sI O;exact rT (us:=[.agg [.vl 2 f 0 a.length,.iM jC i.1],.i6 0]) (u:=.a7 [.agg [.iM hZ a,.iM jC i.1],.i6 0]) (nK (kR uV.h rfl (aV DD.h) rfl rfl rfl)<|dP rfl (dU))<|fR 2 4;intro x c d g O;unfold Dq at O;refine gG O ?_ ?_<;>intro A O;obtain⟨v,t,B,p,q,o,y,s,O⟩:=tD O;obtain⟨z,O⟩:=bU O;refine go ?_;refine dE [(0,20),(1,20)] ?_;refine gJ t ?_;refine dQ p ?_;refine gd ?_;refine dN rfl (pC<|qoq n e.1 c q o) yf ?_;refine gJ s ?_;refine dM ?_;refine dM ?_;refine gd ?_;refine qB ?_;refine bB ⟨by kernel_rfl,⟨oW uV.h rfl (aV Fw.h) rfl rfl rfl,⟨uE IY.h rfl rfl rfl rfl,trivial⟩⟩,?_⟩;exact wx O;exact wx O
def dp(n:Nat): V (cR):=
 a8 (R3 n<|[(bG.mk ([116,111,112]) []<|[(sH.mk ([70])<|[116,111,112]),(sH.mk ([71])<|[116,111,112])]),(bG.mk ([120]) ([[116,111,112]]) []),(bG.mk ([121]) ([[116,111,112]]) [])]) fun a=>some (cR.mk a.1.Types a.1.E6)
theorem qqj(n:Nat)(r:cR)(O:dp n  = some r):dB prog 34 [] (.agg<|fK r):=by unfold dp at O;refine bg0 17 yq ?_;obtain⟨b,a,O⟩:=aJ O;refine go ?_;refine aS (u:=.sl 1 0 2 2) (Y':=⟨qxf,2⟩) rfl (vQ J0.h WO.h rfl rfl rfl rfl rfl rfl rfl) ?_;refine go ?_;refine bP ?_;refine go ?_;refine bP ?_;refine go ?_;refine aS (u:=.sl 4 0 3 3) (Y':=⟨(4,.row [.str<|[116,111,112],.J,.sl 1 0 2 2,.str<|[120],.sl 2 0 1 1,.J,.str<|[121],.sl 3 0 1 1,.J] 153)::(3,.row [.str<|[116,111,112]] 9)::(2,.row [.str<|[116,111,112]] 9)::qxf,5⟩) rfl (vQ Tg.h A8.h rfl rfl rfl rfl rfl rfl rfl) (RS.fc rfl (Gh.trans (sO 1 2)<|Gh.trans (sO 2 1)<|Gh.trans (sO 3 1)<|Gh.trans (Gh.AD 4)<|sO 4 3) (pC (g' n ([(bG.mk ([116,111,112]) []<|[(sH.mk ([70])<|[116,111,112]),(sH.mk ([71])<|[116,111,112])]),(bG.mk ([120]) ([[116,111,112]]) []),(bG.mk ([121]) ([[116,111,112]]) [])]) b a) _) T6 ?_);refine go ?_;obtain rfl:=sI O;exact rT (nK (kR uV.h rfl (aV DD.h) rfl rfl rfl)<|dU) (w9 _ rfl)
def PT(c:X Yv)(b:X Yv)(a:X sH):V (bG):=
 some (bG.mk c ([b]) a)
def fj(h:X Yv)(d:X Yv)(c:X (X Yv)):Nat->Int->(X sH)->V (bG)
 |0,_,_=>none|f+1,b,a=>
  cond (decide ((i64.wrap<|b+1)<(c.length:Int))) (a8 (aB c b) fun e=>
   a8 (aB c<|i64.wrap<|b+1) fun g=>
   aE ((a.length+1)*32<=140737488355328/\a.length+1<=140737488355328) ((fj h d c f) (i64.wrap<|b+2)<|a++[(sH.mk e g)])) (PT h d a)
def qfq(b:X Yv)(a:X sH):V (bG):=
 some (bG.mk b [] a)
def fi(g:X Yv)(b:X (X Yv)):Nat->Int->(X sH)->V (bG)
 |0,_,_=>none|f+1,c,a=>
  cond (decide ((i64.wrap<|c+1)<(b.length:Int))) (a8 (aB b c) fun d=>
   a8 (aB b<|i64.wrap<|c+1) fun e=>
   aE ((a.length+1)*32<=140737488355328/\a.length+1<=140737488355328) ((fi g b f) (i64.wrap<|c+2)<|a++[(sH.mk d e)])) (qfq g a)
def D2(n:Nat)(c:X Yv)(a:X Yv)(b:X (X Yv)):V (bG):=
 cond (!mR a []) (fj c a b n 0 ([]:X sH)) (fi c b n 0 ([]:X sH))
theorem G0(n:Nat)(G:X Yv)(a:X Yv)(c:X (X Yv))(r:bG)(O:D2 n G a c=some r):dB prog 61 [.str G,.str a,.O false<|c.map cS] (.agg<|bM r):=by unfold D2 at O;refine w4 39 pJ ?_;refine go ?_;refine aS (u:=.bool<|!mR a []) rfl (HO rfl rfl rfl rfl) ?_;refine gF O ?_ ?_<;>intro y O;refine go ?_;refine bP ?_;refine gr ?_;refine cD (tm':=fr 39 [(2,.iM cS c),(6,.ptr 0 0 0),(7,.ptr 1 0 0),(8,.i6 0)]) (Y':=⟨(3,.bv mH ([]:X sH) 156 2 0)::(2,.row [.str a] 9)::(1,.row [.str G,.sl 2 0 1 1,.vl 3 0 0<|([]:X sH).length] 153)::Nc,4⟩) (Gh.trans (xK 1 2 156 2 bF NZ rfl rfl)<|qR ⟨rfl,rfl,rfl,rfl,trivial⟩ rfl) NZ ?_;refine oH (a3:=0) (fun m i e _=>fj G a c m i e) (fun i _ _=>[(2,.iM cS c),(6,.ptr 0 0 0),(7,.ptr 1 0 0),(8,.i6 i)]) (fun _ e o=>⟨(3,.bv mH e 156 2 o)::(2,.row [.str a] 9)::(1,.row [.str G,.sl 2 0 1 1,.vl 3 o 0 e.length] 153)::Nc,4⟩) (lR (fun b _=>PT G a b) (fun _ _=>[(6,.ptr 0 0 0),(7,.ptr 1 0 0)]) fun b j=>⟨(3,.bv mH b 156 2 j)::(2,.row [.str a] 9)::(1,.row [.str G,.sl 2 0 1 1,.vl 3 j 0 b.length] 153)::Nc,4⟩) O (nS ?_) ?_;intro b j O;unfold PT at O;refine go ?_;obtain rfl:=sI O;exact⟨.inr rfl,[.agg [.str G,.sl 2 0 1 1,.vl 3 j 0 b.length]],nK (kR yQ.h rfl (aV A8.h) rfl rfl rfl)<|dU,.agg [.str G,.iM cS<|[a],.iM mH b],⟨[],0⟩,zF _,Gh.trans (sO 2 1)<|Gh.trans (sO 3 2)<|w9 (.agg [.str G,.iM cS<|[a],.iM mH b]) rfl,rfl,BU.h⟩;intro B i e o O;unfold fj at O;refine gG O ?_ ?_<;>intro A O;obtain⟨w,q,E,t,O⟩:=bO O;obtain⟨F,O⟩:=bU O;refine go ?_;refine dE [(0,12),(1,12)] ?_;refine gJ q ?_;refine dQ t ?_;refine gd ?_;refine dM ?_;refine dM ?_;refine gd ?_;refine qB ?_;refine bB ⟨by kernel_rfl,⟨oW yQ.h rfl (aV WQ.h) rfl rfl rfl,⟨uE J0.h rfl rfl rfl rfl,trivial⟩⟩,?_⟩;exact wx O;exact wx O;refine gr ?_;refine cD (tm':=fr 39 [(2,.iM cS c),(6,.ptr 0 0 0),(7,.ptr 1 0 0),(8,.i6 0)]) (Y':=⟨(2,.bv mH ([]:X sH) 156 2 0)::(1,.row [.str G,.J,.vl 2 0 0<|([]:X sH).length] 153)::Nc,3⟩) (Gh.trans (xK 1 2 156 2 bF NZ rfl rfl)<|qR ⟨rfl,rfl,rfl,rfl,trivial⟩ rfl) NZ ?_;refine oH (a3:=0) (fun m k f _=>fi G c m k f) (fun k _ _=>[(2,.iM cS c),(6,.ptr 0 0 0),(7,.ptr 1 0 0),(8,.i6 k)]) (fun _ f l=>⟨(2,.bv mH f 156 2 l)::(1,.row [.str G,.J,.vl 2 l 0 f.length] 153)::Nc,3⟩) (lR (fun d _=>qfq G d) (fun _ _=>[(6,.ptr 0 0 0),(7,.ptr 1 0 0)]) fun d g=>⟨(2,.bv mH d 156 2 g)::(1,.row [.str G,.J,.vl 2 g 0 d.length] 153)::Nc,3⟩) O (nS ?_) ?_;intro d g O;unfold qfq at O;refine go ?_;obtain rfl:=sI O;exact⟨.inr rfl,[.agg [.str G,.J,.vl 2 g 0 d.length]],nK (kR yQ.h rfl (aV A8.h) rfl rfl rfl)<|dU,.agg [.str G,.O false [],.iM mH d],⟨[],0⟩,zF _,Gh.trans (sO 2 2)<|Gh.trans (Gh.wk<|.cons (.agg<|.cons (.refl _)<|.cons (.nil false)<|.cons (.refl _) .nil) .nil)<|w9 (.agg [.str G,.O false [],.iM mH d]) rfl,rfl,BU.h⟩;intro C k f l O;unfold fi at O;refine gG O ?_ ?_<;>intro D O;obtain⟨x,p,z,s,O⟩:=bO O;obtain⟨v,O⟩:=bU O;refine go ?_;refine dE [(0,12),(1,12)] ?_;refine gJ p ?_;refine dQ s ?_;refine gd ?_;refine dM ?_;refine dM ?_;refine gd ?_;refine qB ?_;refine bB ⟨by kernel_rfl,⟨oW yQ.h rfl (aV WQ.h) rfl rfl rfl,⟨uE J0.h rfl rfl rfl rfl,trivial⟩⟩,?_⟩;exact wx O;exact wx O
def Xi(n:Nat): V ((X bG)):=
 a8 (D2 n ([116,111,112]) [] []) fun g=>
 a8 (D2 n ([108,105,115,116]) ([116,111,112]) []) fun h=>
 a8 (D2 n ([99,111,110,115]) ([108,105,115,116])<|[[70,73,82,83,84],[116,111,112],[82,69,83,84],[108,105,115,116]]) fun i=>
 a8 (D2 n ([110,117,108,108]) ([108,105,115,116]) []) fun j=>
 a8 (D2 n ([100,108,105,115,116]) ([116,111,112])<|[[76,73,83,84],[108,105,115,116],[76,65,83,84],[108,105,115,116]]) fun k=>
 a8 (D2 n ([105,110,100,101,120]) ([116,111,112]) []) fun l=>
 a8 (D2 n ([104,97,110,100,108,101]) ([105,110,100,101,120]) []) fun e=>
 a8 (D2 n ([101,118,101,110,116]) ([105,110,100,101,120]) []) fun f=>
 a8 (D2 n ([101,110,116,105,116,121]) ([105,110,100,101,120]) []) fun d=>
 a8 (D2 n ([114,101,108]) ([116,111,112])<|[[76,65,66,69,76],[104,97,110,100,108,101]]) fun c=>
 a8 (D2 n ([113,101,113]) ([116,111,112])<|[[72,73,71,72],[104,97,110,100,108,101],[76,79,87],[104,97,110,100,108,101]]) fun b=>
 a8 (D2 n ([115,101,109]) ([116,111,112])<|[[84,79,80],[104,97,110,100,108,101],[73,78,68,69,88],[105,110,100,101,120],[82,69,76,83],[100,108,105,115,116],[67,79,78,83],[100,108,105,115,116]]) fun a=>
 a8 (D2 n ([115,105,103,110]) ([116,111,112])<|[[83,69,77],[115,101,109],[65,82,71,83],[108,105,115,116]]) fun m=>some ([g,h,i,j,k,l,e,f,d,c,b,a,m])
theorem qnw(n:Nat)(r:(X bG))(O:Xi n  = some r):dB prog 33 [] (.O false<|r.map bM):=by unfold Xi at O;refine bg0 21 yr ?_;obtain⟨g,t,i,v,j,w,k,x,O⟩:=tD O;obtain⟨l,q,m,s,e,y,f,B,O⟩:=tD O;obtain⟨d,p,c,C,b,D,a,A,O⟩:=tD O;obtain⟨o,z,O⟩:=aJ O;refine go ?_;refine aM rfl (IK (args':=[.str<|[116,111,112],.str [],.O false []]) (.cons (.refl _)<|.cons (.refl _)<|.cons (.nil false) .nil) (pC<|G0 n ([116,111,112]) [] [] g t) _) pJ (aM rfl (IK (args':=[.str<|[108,105,115,116],.str<|[116,111,112],.O false []]) (.cons (.refl _)<|.cons (.refl _)<|.cons (.nil false) .nil) (pC<|G0 n ([108,105,115,116]) ([116,111,112]) [] i v) _) pJ ?_);refine bP ?_;refine RS.fc rfl (sO 0 1) (pC (G0 n ([99,111,110,115]) ([108,105,115,116]) ([[70,73,82,83,84],[116,111,112],[82,69,83,84],[108,105,115,116]]) j w) _) pJ (aM rfl (IK (args':=[.str<|[110,117,108,108],.str<|[108,105,115,116],.O false []]) (.cons (.refl _)<|.cons (.refl _)<|.cons (.nil false) .nil) (pC<|G0 n ([110,117,108,108]) ([108,105,115,116]) [] k x) _) pJ ?_);refine bP ?_;refine RS.fc rfl (sO 1 1) (pC (G0 n ([100,108,105,115,116]) ([116,111,112]) ([[76,73,83,84],[108,105,115,116],[76,65,83,84],[108,105,115,116]]) l q) _) pJ (aM rfl (IK (args':=[.str<|[105,110,100,101,120],.str<|[116,111,112],.O false []]) (.cons (.refl _)<|.cons (.refl _)<|.cons (.nil false) .nil) (pC<|G0 n ([105,110,100,101,120]) ([116,111,112]) [] m s) _) pJ (aM rfl (IK (args':=[.str<|[104,97,110,100,108,101],.str<|[105,110,100,101,120],.O false []]) (.cons (.refl _)<|.cons (.refl _)<|.cons (.nil false) .nil) (pC<|G0 n ([104,97,110,100,108,101]) ([105,110,100,101,120]) [] e y) _) pJ (aM rfl (IK (args':=[.str<|[101,118,101,110,116],.str<|[105,110,100,101,120],.O false []]) (.cons (.refl _)<|.cons (.refl _)<|.cons (.nil false) .nil) (pC<|G0 n ([101,118,101,110,116]) ([105,110,100,101,120]) [] f B) _) pJ (aM rfl (IK (args':=[.str<|[101,110,116,105,116,121],.str<|[105,110,100,101,120],.O false []]) (.cons (.refl _)<|.cons (.refl _)<|.cons (.nil false) .nil) (pC<|G0 n ([101,110,116,105,116,121]) ([105,110,100,101,120]) [] d p) _) pJ ?_))));refine bP ?_;refine RS.fc rfl (sO 2 1) (pC (G0 n ([114,101,108]) ([116,111,112]) ([[76,65,66,69,76],[104,97,110,100,108,101]]) c C) _) pJ ?_;refine bP ?_;refine RS.fc rfl (sO 3 1) (pC (G0 n ([113,101,113]) ([116,111,112]) ([[72,73,71,72],[104,97,110,100,108,101],[76,79,87],[104,97,110,100,108,101]]) b D) _) pJ (aS (u:=.sl 4 0 8 8) (Y':=⟨[(4,.row [.str<|[84,79,80],.str<|[104,97,110,100,108,101],.str<|[73,78,68,69,88],.str<|[105,110,100,101,120],.str<|[82,69,76,83],.str<|[100,108,105,115,116],.str<|[67,79,78,83],.str<|[100,108,105,115,116]] 9)],5⟩) rfl (vQ lM.h KS.h rfl rfl rfl rfl rfl rfl rfl) (RS.fc rfl (sO 4 1) (pC (G0 n ([115,101,109]) ([116,111,112]) ([[84,79,80],[104,97,110,100,108,101],[73,78,68,69,88],[105,110,100,101,120],[82,69,76,83],[100,108,105,115,116],[67,79,78,83],[100,108,105,115,116]]) a A) _) pJ ?_));refine bP ?_;refine RS.fc rfl (sO 5 1) (pC (G0 n ([115,105,103,110]) ([116,111,112]) ([[83,69,77],[115,101,109],[65,82,71,83],[108,105,115,116]]) o z) _) pJ (aS (u:=.sl 6 0 13 13) (Y':=⟨[(6,.row [.str g.Name,.iM cS g.F5,.iM mH g.E6,.str i.Name,.iM cS i.F5,.iM mH i.E6,.str j.Name,.iM cS j.F5,.iM mH j.E6,.str k.Name,.iM cS k.F5,.iM mH k.E6,.str l.Name,.iM cS l.F5,.iM mH l.E6,.str m.Name,.iM cS m.F5,.iM mH m.E6,.str e.Name,.iM cS e.F5,.iM mH e.E6,.str f.Name,.iM cS f.F5,.iM mH f.E6,.str d.Name,.iM cS d.F5,.iM mH d.E6,.str c.Name,.iM cS c.F5,.iM mH c.E6,.str b.Name,.iM cS b.F5,.iM mH b.E6,.str a.Name,.iM cS a.F5,.iM mH a.E6,.str o.Name,.iM cS o.F5,.iM mH o.E6] 153)],7⟩) rfl (vQ Tg.h A8.h rfl rfl rfl rfl rfl rfl rfl) ?_);refine go ?_;obtain rfl:=sI O;exact rT (us:=[.sl 6 0 13 13]) (u:=.iM bM<|[g,i,j,k,l,m,e,f,d,c,b,a,o]) (dP rfl (dU)) (fR 6 3)
def a_(c:Int)(b:Int->(X Int)->V ((X Int)))(a:X Int):V ((X Int)):=
 b (i64.wrap<|c+1) a
def Ph(d:Int)(c:Int->(X Int)->V ((X Int)))(a:aK):Nat->Int->(X Int)->V ((X Int))
 |0,_,_=>none|e+1,z25,b=>
  cond (decide (z25<(a.E4.length:Int))) (a8 (aB a.E4 z25) fun f=>
   a8 (aB a.E4 z25) fun g=>
   aE ((b.length+2)*8<=140737488355328/\b.length+2<=140737488355328) ((Ph d c a e) (i64.wrap<|z25+1)<|b++[f.E2,g.To])) (a_ d c b)
def b_  (a:X Int):V ((X Int)):=
 some a
def RN(f:az)(n:Nat):Nat->Int->(X Int)->V ((X Int))
 |0,_,_=>none|d+1,b,a=>
  cond (decide (b<(f.D9.length:Int))) (a8 (aB f.D9 b) fun c=>
   a8 (aB f.D9 b) fun e=>
   aE ((a.length+2)*8<=140737488355328/\a.length+2<=140737488355328) (
   Ph b (RN f n d) c n 0 (a++[e.R,(c.E4.length:Int)]))) (b_ a)
def Om(n:Nat)(a:az):V ((X Int)):=
 RN a n n 0 ([(a.D9.length:Int)])
theorem qgr(n:Nat)(B:az)(r:(X Int))(O:Om n B=some r):dB prog 64 [.agg [.O false<|B.D9.map bA]] (.O false<|r.map<|cI .i64):=by unfold Om at O;refine mJ 55 Iv ?_;refine go ?_;refine RS.step (u:=.vl 1 0 0<|[(B.D9.length:Int)].length) (Y':=⟨[(1,.bv (cI .i64) ([(B.D9.length:Int)]) 3 1 0),(0,.row [.iM bA B.D9] 39)],2⟩) rfl (fY.jD (cs:=(List.map (cI .i64) [(B.D9.length:Int)]).flatten) bQ rfl bI.h eP.h rfl rfl rfl rfl rfl rfl rfl rfl) rfl rfl ?_;refine go ?_;refine oH (a3:=0) (fun m f b _=>RN B n m f b) (fun f b t8=>[(1,.ptr 0 0 0),(3,.vl 1 t8 0 b.length),(4,.i6 f)]) (fun _ b t8=>⟨Nd b t8 B.D9,2⟩) (lR (fun c _=>b_ c) (fun c j=>[(3,.vl 1 j 0 c.length)]) fun c j=>⟨Nd c j B.D9,2⟩) O (nS ?_) ?_;intro c j O;unfold b_ at O;refine go ?_;obtain rfl:=sI O;exact rT (us:=[.vl 1 j 0 c.length]) (u:=.iM (cI .i64) c) (dP rfl (dU))<|fR 1 1;intro p f b t8 O;unfold RN at O;refine gG O ?_ ?_<;>intro y O;obtain⟨a,q,O⟩:=aJ O;refine go ?_;refine c8 q ?_;obtain⟨e,s,O⟩:=aJ O;obtain⟨v,O⟩:=bU O;refine gI s ?_;refine bP ?_;refine aS (u:=.vl 1 (t8+1) 0<|(b++[e.R,(a.E4.length:Int)]).length) (Y':=⟨(2,.row [.i6 e.R,.i6 (a.E4.length:Int)] 3)::Nd (b++[e.R,(a.E4.length:Int)]) (t8+1) B.D9,3⟩) rfl (qV rfl rfl rfl rfl (ED (cI .i64) ([e.R,(a.E4.length:Int)]) bI.h bI.h eP.h rfl (iK .i64) rfl (FU (cI .i64) [e.R,(a.E4.length:Int)] rfl rfl rfl rfl) v)) ?_;refine go ?_;refine oH (a3:=(t8+1)) (fun m z25 d _=>Ph f (RN B n p) a m z25 d) (fun z25 d g=>[(1,.ptr 0 0 0),(3,.vl 1 g 0 d.length),(4,.i6 f),(5,.iM aU a.E4),(6,.i6 z25)]) (fun _ d g=>⟨(2,.row [.i6 e.R,.i6 (a.E4.length:Int)] 3)::Nd d g B.D9,3⟩) (lR (fun i _=>a_ f (RN B n p) i) (fun i o=>[(1,.ptr 0 0 0),(3,.vl 1 o 0 i.length),(4,.i6 f)]) fun i o=>⟨(2,.row [.i6 e.R,.i6 (a.E4.length:Int)] 3)::Nd i o B.D9,3⟩) O (nS ?_) ?_;intro i o O;unfold a_ at O;exact wx O;intro z z25 d g O;unfold Ph at O;refine gG O ?_ ?_<;>intro A O;obtain⟨k,w,l,t,O⟩:=bO O;obtain⟨x,O⟩:=bU O;refine go ?_;refine dE [(0,11)] ?_;refine gJ w ?_;refine dQ t ?_;refine gd ?_;refine dM ?_;refine RD.act (u:=.vl 1 (g+1) 0<|(d++[k.E2,l.To]).length) (Y':=⟨(3,.row [.i6 k.E2,.i6 l.To] 3)::(2,.row [.i6 e.R,.i6 (a.E4.length:Int)] 3)::Nd (d++[k.E2,l.To]) (g+1) B.D9,4⟩) rfl (qV rfl rfl rfl rfl (ED (cI .i64) ([k.E2,l.To]) bI.h bI.h eP.h rfl (iK .i64) rfl (FU (cI .i64) [k.E2,l.To] rfl rfl rfl rfl) x)) rfl rfl ?_;refine gd ?_;refine bB ⟨by kernel_rfl,⟨jA rfl,trivial⟩,?_⟩;exact wx O;exact wx O;exact wx O
def Yn: V (Int):=
 some 0
def Pi(b:(X Int))(c:(X Int)):Nat->Int->V (Int)
 |0,_=>none|g+1,a=>a8 (cond (decide (a<(b.length:Int))) (some<|decide (a<(c.length:Int)))<|some false) fun d=>cond d (a8 (aB b a) fun e=>a8 (aB c a) fun f=>cond (decide (e<f)) (some<|-1)<|a8 (aB b a) fun h=>a8 (aB c a) fun i=>cond (decide (h>i)) (some 1)<|(Pi b c g)<|i64.wrap<|a+1) (Yn)
def Xh(n:Nat)(d:az)(a:az):V (Int):=
 a8 (Om n d) fun b=>
 a8 (Om n a) fun c=>
 Pi b c n 0
theorem qnx(n:Nat)(x:az)(a:az)(r:Int)(O:Xh n x a=some r):dB prog 44 [.agg [.O false<|x.D9.map bA],.agg [.O false<|a.D9.map bA]] (.int .i64 r):=by unfold Xh at O;refine eO 42 yk ?_;obtain⟨c,i,O⟩:=aJ O;refine go ?_;refine aM rfl (pC (qgr n x c i) _) Iv ?_;obtain⟨d,j,O⟩:=aJ O;refine go ?_;refine aM rfl (pC (qgr n a d j) _) Iv ?_;refine go ?_;refine pM (Pi c d) (fun e=>[(5,.iM (cI .i64) c),(6,.iM (cI .i64) d),(7,.i6 e)]) (fun _=>⟨[(1,.row [.iM bA a.D9] 39),(0,.row [.iM bA x.D9] 39)],2⟩) (qQ Yn [] ⟨[(1,.row [.iM bA a.D9] 39),(0,.row [.iM bA x.D9] 39)],2⟩) O (sN ?_) ?_;intro O;unfold Yn at O;exact gx O;intro q e O;unfold Pi at O;obtain⟨f,b,O⟩:=aJ O;refine gn ?_;refine lD [(5,.iM (cI .i64) c),(6,.iM (cI .i64) d),(7,.i6 e),(21,.bool f)] ⟨[(1,.row [.iM bA a.D9] 39),(0,.row [.iM bA x.D9] 39)],2⟩ ?_ ?_;refine gG O ?_ ?_<;>intro u O;obtain⟨o,g,p,l,O⟩:=bO O;refine go ?_;refine dE [] ?_;refine gJ g ?_;refine dQ l ?_;refine gd ?_;refine bB ⟨by kernel_rfl,trivial,?_⟩;refine gF O ?_ ?_<;>intro v O;exact gx O;obtain⟨s,k,w,m,O⟩:=bO O;refine go ?_;refine dE [] ?_;refine gJ k ?_;refine dQ m ?_;refine gd ?_;refine bB ⟨by kernel_rfl,trivial,?_⟩;refine gF O ?_ ?_<;>intro t O;exact gx O;exact wx O;exact wx O;refine go ?_;obtain⟨h,b⟩|⟨h,b⟩:=gB b;exact gy b;exact gy b
def O7(n:Nat)(c:az)(a:az):V (FK):=
 a8 (Xh n c a) fun b=>some (b==0)
theorem Xg(n:Nat)(d:az)(a:az)(r:FK)(O:O7 n d a=some r):dB prog 20 [.agg [.O false<|d.D9.map bA],.agg [.O false<|a.D9.map bA]] (.bool r):=by unfold O7 at O;refine eO 9 GO ?_;obtain⟨c,b,O⟩:=aJ O;refine go ?_;refine aM rfl (pC (qnx n d a c b) _) yk ?_;exact gx O
def Mx(n:Nat)(a:X aK):V (az):=
 some (az.mk a)
theorem aw(n:Nat)(a:X aK)(r:az)(O:Mx n a=some r):dB prog 35 [.O false<|a.map bA] (.agg [.O false<|r.D9.map bA]):=by unfold Mx at O;refine mJ 5 LR ?_;refine go ?_;obtain rfl:=sI O;exact rT (nK (kR fH.h rfl (aV fZ.h) rfl rfl rfl)<|dU) (w9 _ rfl)
def qff(b:Int)(a:X aI):V (aK):=
 some (aK.mk b a)
def ic(f:Int)(b:X Int):Nat->Int->(X aI)->V (aK)
 |0,_,_=>none|d+1,z9,a=>
  cond (decide ((i64.wrap<|z9+1)<(b.length:Int))) (a8 (aB b z9) fun e=>
   a8 (aB b<|i64.wrap<|z9+1) fun c=>
   aE ((a.length+1)*16<=140737488355328/\a.length+1<=140737488355328) ((ic f b d) (i64.wrap<|z9+2)<|a++[(aI.mk e c)])) (qff f a)
def O5(n:Nat)(b:Int)(a:X Int):V (aK):=
 ic b a n 0 ([]:X aI)
theorem VH(n:Nat)(p:Int)(c:X Int)(r:aK)(O:O5 n p c=some r):dB prog 36 [.int .i64 p,.O false<|c.map<|cI .i64] (.agg<|bA r):=by unfold O5 at O;refine eO 32 xF ?_;refine gr ?_;refine gr ?_;refine gr ?_;refine cD (tm':=fr 32 [(1,.iM (cI .i64) c),(4,.ptr 0 0 0),(5,.ptr 1 0 0),(6,.i6 0)]) (Y':=⟨[(2,.bv aU ([]:X aI) 105 2 0),(1,.row [.i6 p,.vl 2 0 0<|([]:X aI).length] 79),(0,.row [.i6 0,.J] 79)],3⟩) (Gh.trans (xK 1 1 105 2 bF NZ rfl rfl)<|qR ⟨rfl,rfl,rfl,rfl,trivial⟩ rfl) NZ ?_;refine oH (a3:=0) (fun m z9 a _=>ic p c m z9 a) (fun z9 _ _=>[(1,.iM (cI .i64) c),(4,.ptr 0 0 0),(5,.ptr 1 0 0),(6,.i6 z9)]) (fun _ a e=>⟨[(2,.bv aU a 105 2 e),(1,.row [.i6 p,.vl 2 e 0 a.length] 79),(0,.row [.i6 0,.J] 79)],3⟩) (lR (fun b _=>qff p b) (fun _ _=>[(4,.ptr 0 0 0),(5,.ptr 1 0 0)]) fun b d=>⟨[(2,.bv aU b 105 2 d),(1,.row [.i6 p,.vl 2 d 0 b.length] 79),(0,.row [.i6 0,.J] 79)],3⟩) O (nS ?_) ?_;intro b d O;unfold qff at O;refine go ?_;obtain rfl:=sI O;exact rT (us:=[.agg [.i6 p,.vl 2 d 0 b.length]]) (u:=.agg [.i6 p,.iM aU b]) (nK (kR uS.h rfl (aV nL.h) rfl rfl rfl)<|dU)<|fR 2 2;intro l z9 a e O;unfold ic at O;refine gG O ?_ ?_<;>intro j O;obtain⟨o,g,i,f,O⟩:=bO O;obtain⟨k,O⟩:=bU O;refine go ?_;refine dE [(0,12),(1,12)] ?_;refine gJ g ?_;refine dQ f ?_;refine gd ?_;refine dM ?_;refine dM ?_;refine gd ?_;refine qB ?_;refine bB ⟨by kernel_rfl,⟨oW uS.h rfl (aV iG.h) rfl rfl rfl,⟨uE dL.h rfl rfl rfl rfl,trivial⟩⟩,?_⟩;exact wx O;exact wx O
end Go.Proofs
