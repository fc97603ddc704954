import Derived.Test.YtmflfedkfdkipaaGreatP13
set_option linter.all false
set_option maxRecDepth 20000
set_option maxHeartbeats 4000000
set_option synthInstance.maxSize 4000
set_option synthInstance.maxHeartbeats 200000
open List Go.IntKind
open Nat hiding beq_eq
namespace Go.Proofs
open Go Go.Rx Go.Vx Tryz
instance:nn prog tb:=⟨cf⟩
def Vz(b:X Int)(z5:Int):A ((X Int)):=
 a8 (xX b 0 z5) fun a=>some a
def Co(b:X Int):Nat->Int->A ((X Int))
 |0,_=>none|d+1,z4=>a8 (cond (decide (z4>0)) (a8 (aC b<|i64.wrap<|z4-1) fun c=>some<|c==0)<|some false) fun a=>cond a ((Co b d)<|i64.wrap<|z4-1) (Vz b z4)
def cy(n:Nat)(a:X Int):A ((X Int)):=
 Co a n (a.length:Int)
theorem qow(n:Nat)(b:X Int)(r:(X Int))(O:cy n b=some r):dL prog 111 [.O false<|b.map<|cI .u64] (.O false<|r.map<|cI .u64):=by unfold cy at O;refine m6 21 XD ?_;refine go ?_;refine oX (Co b) (fun z4=>[(0,.iM (cI .u64) b),(3,.i6 z4)]) (fun _=>⟨[],0⟩) (pR (Vz b) (fun z5=>[(0,.iM (cI .u64) b),(3,.i6 z5)]) fun _=>⟨[],0⟩) O (tW ?_) ?_;intro z5 O;unfold Vz at O;obtain⟨j,e,O⟩:=aK O;obtain⟨f,g⟩:=uq (cI .u64) .i64 e;refine go ?_;refine aX (u:=.iM (cI .u64) j) rfl (F6 rfl GT (GS rfl) (Rw (cI .u64) g8.h (bG mF.h) (wZ .u64) f g)) ?_;exact gx O;intro m z4 O;unfold Co at O;obtain⟨c,a,O⟩:=aK O;refine gn ?_;refine kI [(0,.iM (cI .u64) b),(3,.i6 z4),(15,.bool c)] ⟨[],0⟩ ?_ ?_;refine gG O ?_ ?_<;>intro k O;exact wx O;exact wx O;refine go ?_;obtain⟨i,a⟩|⟨i,a⟩:=gB a;obtain⟨l,d,a⟩:=aK a;obtain rfl:=sI a;refine gI d ?_;exact mL;exact gy a
def Va(b:X Int)(c:X Int)(n:Nat)(a:X Int):A ((X Int)):=
 aE ((if(c.length:Int)<(b.length:Int)then(c.length:Int)else(b.length:Int)).toNat=a.length) (
 a8 (cy n a) fun d=>some d)
def cz(a:X Int)(b:X Int)(n:Nat):Nat->Int->(X Int)->A ((X Int))
 |0,_,_=>none|e+1,z9,c=>
  cond (decide (z9<(((if(b.length:Int)<(a.length:Int)then(b.length:Int)else(a.length:Int)).toNat:Nat):Int))) (a8 (aC a z9) fun f=>
   a8 (aC b z9) fun d=>
   a8 (pD c 0 ((if(b.length:Int)<(a.length:Int)then(b.length:Int)else(a.length:Int)).toNat) z9) fun g=>(cz a b n e) (i64.wrap<|z9+1)<|c.set z9.toNat<|OM .u64 f d) (Va a b n c)
def Tq(n:Nat)(a:X Int)(b:X Int):A ((X Int)):=
 aE (0<=(if(b.length:Int)<(a.length:Int)then(b.length:Int)else(a.length:Int))/\8*(if(b.length:Int)<(a.length:Int)then(b.length:Int)else(a.length:Int)).toNat<=281474976710656/\(if(b.length:Int)<(a.length:Int)then(b.length:Int)else(a.length:Int))<=281474976710656) (
 cz a b n n 0 (replicate (if(b.length:Int)<(a.length:Int)then(b.length:Int)else(a.length:Int)).toNat 0))
theorem qxs(n:Nat)(a:X Int)(b:X Int)(r:(X Int))(O:Tq n a b=some r):dL prog 78 [.O false<|a.map<|cI .u64,.O false<|b.map<|cI .u64] (.O false<|r.map<|cI .u64):=by unfold Tq at O;refine eO 33 xy ?_;obtain⟨k,O⟩:=bY O;refine go ?_;refine aX (u:=.i6<|if(b.length:Int)<(a.length:Int)then(b.length:Int)else(a.length:Int)) rfl (Di rfl rfl rfl rfl rfl rfl rfl) (aX (u:=.sl 0 0 ((if(b.length:Int)<(a.length:Int)then(b.length:Int)else(a.length:Int)).toNat)<|(if(b.length:Int)<(a.length:Int)then(b.length:Int)else(a.length:Int)).toNat) (Y':=⟨[(0,.row (List.map (cI .u64)<|replicate (if(b.length:Int)<(a.length:Int)then(b.length:Int)else(a.length:Int)).toNat 0).flatten 213)],1⟩) rfl (c? (cI .u64) 0 rfl rfl g8.h mF.h rfl rfl rfl rfl k) ?_);refine go ?_;refine aX rfl (H3 rfl rfl rfl (z8i g8.h rfl)) ?_;refine go ?_;refine BV (cz a b n) (fun z9 _=>[(0,.iM (cI .u64) a),(1,.iM (cI .u64) b),(5,.sl 0 0 ((if(b.length:Int)<(a.length:Int)then(b.length:Int)else(a.length:Int)).toNat)<|(if(b.length:Int)<(a.length:Int)then(b.length:Int)else(a.length:Int)).toNat),(14,.i6 (((if(b.length:Int)<(a.length:Int)then(b.length:Int)else(a.length:Int)).toNat:Nat):Int)),(15,.i6 z9)]) (fun _ d=>⟨[(0,.row (d.map<|cI .u64).flatten 213)],1⟩) (pR (Va a b n) (fun _=>[(5,.sl 0 0 ((if(b.length:Int)<(a.length:Int)then(b.length:Int)else(a.length:Int)).toNat)<|(if(b.length:Int)<(a.length:Int)then(b.length:Int)else(a.length:Int)).toNat)]) fun c=>⟨[(0,.row (c.map<|cI .u64).flatten 213)],1⟩) O (tW ?_) ?_;intro c O;unfold Va at O;obtain⟨e,O⟩:=bY O;refine gn ?_;refine dJ (tm':=fr 33 [(5,.iM (cI .u64) c)]) (Y':=⟨[],1⟩) (Gh.trans (Gh.sub (l':=[(5,.sl 0 0 ((if(b.length:Int)<(a.length:Int)then(b.length:Int)else(a.length:Int)).toNat)<|(if(b.length:Int)<(a.length:Int)then(b.length:Int)else(a.length:Int)).toNat)]) ⟨rfl,trivial⟩)<|Gh.h_ (l':=[(5,.iM (cI .u64) c)]) (h':=[]) 0 (.row (c.map<|cI .u64).flatten 213) 1 rfl ca (by simp only[h_,mC,JB,F9,J9,JA,U2,U7,Az,Ba,Bb,U8,J8,Ar,U3,TZ,TQ,IZ,yz (wZ .u64) e]) (by simp only[dA,fv,ug,Nat.beq,zC,zD,mC,JB,F9,J9,JA,U2,U7,Az,Ba,Bb,U8,J8,Ar,U3,TZ,TQ,IZ,yz (wZ .u64) e])) NZ ?_;obtain⟨i,l,O⟩:=aK O;refine go ?_;refine aM rfl (pC (qow n c i l) _) XD ?_;exact gx O;intro q z9 d O;unfold cz at O;refine gG O ?_ ?_<;>intro p O;obtain⟨o,j,g,m,s,f,O⟩:=pH O;refine go ?_;refine dE [] ?_;refine gJ j ?_;refine iR m ?_;refine gd ?_;refine aQ rfl (wY rfl rfl (l? _ _ _) rfl) (aQ rfl (eM rfl rfl (J0 g8.h (bG mF.h) rfl f)) (SQ (u:=.L2) (Y':=⟨[(0,.row (List.map (cI .u64)<|d.set z9.toNat<|OM .u64 o g).flatten 213)],1⟩) rfl (F_ (cI .u64) (bG mF.h) (wZ .u64) rfl rfl rfl rfl rfl rfl f rfl) rfl ?_));refine bC ⟨by kernel_rfl,trivial,?_⟩;exact wx O;exact wx O
def q2y: A (Int):=
 some (-1)
def Oj(b:X gN)(c:X Int)(f1:gN->(X Int)->A (Rl)):Nat->Int->A (Int)
 |0,_=>none|d+1,a=>cond (decide (a<(b.length:Int))) (a8 (aC b a) fun e=>a8 (f1 e c) fun f=>cond f (some a)<|(Oj b c f1 d)<|i64.wrap<|a+1) (q2y)
def iu(f1:gN->(X Int)->A (Rl))(n:Nat)(b:X gN)(a:X Int):A (Int):=
 Oj b a f1 n 0
theorem qal(f1:gN->(X Int)->A (Rl))(e:∀(a0:gN)(a:X Int)(r:Rl),f1 a0 a=some r->aT prog 80 [.agg<|jV a0,.b4 [.O false<|a.map<|cI .u64]] ⟨[],0⟩ (fun u _=>u=.bool r/\aS 0 u))(n:Nat)(d:X gN)(b:X Int)(r:Int)(O:iu f1 n d b=some r):dL prog 79 [.O false<|d.map jV,.fn (.func 80) [] [.b4 [.O false<|b.map<|cI .u64]]] (.int .i64 r):=by unfold iu at O;have c:∀(a0:gN)(a:X Int)(r:Rl),f1 a0 a=some r->∀Y,aT prog 80 [.agg<|jV a0,.b4 [.iM (cI .u64) a]] Y (fun u j=>u=.bool r/\j=Y):=fun a0 a r h Y=>C_ (e a0 a r h) Y;refine eO 19 xx ?_;refine go ?_;refine oX (Oj d b f1) (fun i=>[(0,.iM jV d),(1,.fn (.func 80) [] [.b4 [.iM (cI .u64) b]]),(7,.i6 (d.length:Int)),(8,.i6 i)]) (fun _=>⟨[],0⟩) (qY q2y [] ⟨[],0⟩) O (tX ?_) ?_;intro O;unfold q2y at O;exact gx O;intro p i O;unfold Oj at O;refine gG O ?_ ?_<;>intro o O;obtain⟨f,k,g,l,O⟩:=c6 O;refine gI k ?_;refine RS.call (u:=.bool g) (args:=[.agg<|jV f,.b4 [.iM (cI .u64) b]]) rfl (tJ rfl rfl xw rfl rfl (rfl)) (c f b g l _) rfl rfl ?_;refine gF O ?_ ?_<;>intro m O;exact gx O;exact wx O;exact wx O
def Q!(n:Nat)(a:X Int)(b:Int):A (Int):=
 cond (decide (b<(a.length:Int))) (a8 (aC a b) fun c=>some c) (some 0)
theorem qti(n:Nat)(a:X Int)(b:Int)(r:Int)(O:Q! n a b=some r):dL prog 153 [.O false<|a.map<|cI .u64,.int .i64 b] (.int .u64 r):=by unfold Q! at O;refine eO 13 WZ ?_;refine gF O ?_ ?_<;>intro d O;obtain⟨e,c,O⟩:=aK O;refine go ?_;refine dO c ?_;exact gx O;exact gx O
def OZ: A (Rl):=
 some true
def dp(b:X Int)(c:X Int)(n:Nat):Nat->Int->A (Rl)
 |0,_=>none|d+1,a=>cond (decide (a<(b.length:Int))) (a8 (aC b a) fun f=>a8 (Q! n c a) fun e=>cond ((Be .u64 f e) != 0) (some false)<|(dp b c n d)<|i64.wrap<|a+1) (OZ)
def Na(n:Nat)(a:X Int)(b:X Int):A (Rl):=
 dp a b n n 0
theorem qhn(n:Nat)(a:X Int)(b:X Int)(r:Rl)(O:Na n a b=some r):dL prog 112 [.O false<|a.map<|cI .u64,.O false<|b.map<|cI .u64] (.bool r):=by unfold Na at O;refine eO 21 LR ?_;refine go ?_;refine oX (dp a b n) (fun c=>[(1,.iM (cI .u64) b),(7,.iM (cI .u64) a),(8,.i6 (a.length:Int)),(9,.i6 c)]) (fun _=>⟨[],0⟩) (qY OZ [] ⟨[],0⟩) O (tX ?_) ?_;intro O;unfold OZ at O;exact gx O;intro i c O;unfold dp at O;refine gG O ?_ ?_<;>intro h O;obtain⟨j,e,O⟩:=aK O;refine go ?_;refine dO e ?_;obtain⟨f,d,O⟩:=aK O;refine go ?_;refine aM rfl (pC (qti n b c f d) _) WZ (aX rfl (wY rfl rfl (qrv _ _ _) rfl) ?_);refine gF O ?_ ?_<;>intro g O;exact gx O;exact wx O;exact wx O
def Uk(n:Nat)(a:X Int)(b:X Int):A (Rl):=
 a8 (a8 (Na n a b) fun d=>cond d (a8 (Na n b a) fun e=>some e)<|some false) fun c=>some c
theorem qr3(n:Nat)(b:X Int)(c:X Int)(r:Rl)(O:Uk n b c=some r):dL prog 81 [.O false<|b.map<|cI .u64,.O false<|c.map<|cI .u64] (.bool r):=by unfold Uk at O;refine eO 13 xv ?_;obtain⟨d,a,O⟩:=aK O;refine gr ?_;refine kI [(4,.bool d)] ⟨[],0⟩ ?_ ?_;exact gx O;obtain⟨h,e,a⟩:=aK a;refine go ?_;refine aM rfl (pC (qhn n b c h e) _) LR ?_;refine go ?_;obtain⟨f,a⟩|⟨f,a⟩:=gB a;obtain⟨i,g,a⟩:=aK a;obtain rfl:=sI a;refine go ?_;refine aM rfl (pC (qhn n c b i g) _) LR ?_;refine go ?_;exact mL;exact gy a
def Mz(n:Nat)(b:gN)(a:X Int):A (Rl):=
 a8 (Uk n b.Code a) fun c=>some c
theorem qpe(n:Nat)(b:gN)(a:X Int)(r:Rl)(O:Mz n b a=some r):dL prog 80 [.agg<|jV b,.b4 [.O false<|a.map<|cI .u64]] (.bool r):=by unfold Mz at O;refine eO 8 xw ?_;obtain⟨d,c,O⟩:=aK O;refine go ?_;refine aM rfl (pC (qr3 n b.Code a d c) _) xv ?_;exact gx O
def FC(n:Nat)(a:dK)(d:Int)(e:Int):A (Int×Rl):=
 a8 (aC a.Types d) fun f=>
 a8 (aC a.Types e) fun g=>
 a8 (Tq n f.Code g.Code) fun b=>cond ((b.length:Int)==0) (some (0,false)) (a8 (iu (Mz n) n a.Types b) fun c=>cond (decide (c<0)) (some (0,false))<|some (c,true))
theorem qm2(n:Nat)(a:dK)(d:Int)(e:Int)(r:Int×Rl)(O:FC n a d e=some r):dL prog 53 [.agg<|kO a,.int .i64 d,.int .i64 e] (.a7 [.int .i64 r.1,.bool r.2]):=by unfold FC at O;refine HV 33 Hu ?_;obtain⟨k,b,l,c,f,i,O⟩:=pH O;refine go ?_;refine dE [(0,13),(1,13),(2,13),(3,13),(4,13),(5,13),(6,13),(7,13),(8,13),(9,13),(10,13),(11,13)] ?_;refine gJ b ?_;refine iR c ?_;refine gd ?_;refine eA rfl (pC<|qxs n k.Code l.Code f i) xy ?_;refine dS ?_;refine tC ?_;refine bC ⟨by kernel_rfl,⟨nC vQ.h rfl (bG Es.h) rfl rfl rfl,⟨uA IB.h rfl rfl rfl rfl,⟨kN rfl,⟨eM rfl rfl (Lg jV IB.h (bG KA.h) Rq b rfl),⟨J_ IF.h rfl (bG pZ.h) rfl rfl,⟨Sb g8.h rfl rfl rfl,⟨nC vQ.h rfl (bG Es.h) rfl rfl rfl,⟨uA IB.h rfl rfl rfl rfl,⟨kN rfl,⟨eM rfl rfl (Lg jV IB.h (bG KA.h) Rq c rfl),⟨J_ IF.h rfl (bG pZ.h) rfl rfl,⟨Sb g8.h rfl rfl rfl,trivial⟩⟩⟩⟩⟩⟩⟩⟩⟩⟩⟩⟩,?_⟩;refine gF O ?_ ?_<;>intro o O;refine go ?_;obtain rfl:=sI O;exact MX rfl rfl rfl rfl rfl;obtain⟨j,g,O⟩:=aK O;refine go ?_;refine aX rfl (La rfl rfl) (aM rfl (vw (qal (Mz n) (qpe n) n a.Types f j g)<|rD 1 1) xx ?_);refine gF O ?_ ?_<;>intro m O;refine go ?_;obtain rfl:=sI O;exact MX rfl rfl rfl rfl rfl;refine go ?_;obtain rfl:=sI O;exact MX rfl rfl rfl rfl rfl
instance:nn prog tb:=⟨cf⟩
abbrev px(a)(b:Nat)(c:Int)(d:Int):=([(0,.bv bB a 105 2 b),(1,.row [.i6 c,.i6 d] 105)]:X (Nat×B))
def fy(n:Nat)(b:Int)(a:X aL)(c:Int)(d:Int):A ((X aL)):=
 aE ((0:Int)<=b/\b<=((a.length:Nat):Int)) (cond (1==0) (some a)<|cond (b==(a.length:Int)) (aE ((a.length+1)*16<=140737488355328/\a.length+1<=140737488355328)<|some<|a++[(aL.mk c d)])<|none)
theorem qge(n:Nat)(d:Int)(a:X aL)(b:Int)(c:Int)(r:(X aL))(O:fy n d a b c=some r):∀t3:Nat,aT prog 85 [.vl 0 t3 0 a.length,.int .i64 d,.sl 1 0 1 1] ⟨px a t3 b c,2⟩ (fun u f=>∃t:Nat->Nat,u=.vl 0 (t 0) 0 r.length/\f=⟨px r (t 0) b c,2⟩):=by unfold fy at O;intro t3;refine HV 95 xq ?_;obtain⟨e,O⟩:=bY O;refine go ?_;refine aX (u:=.vl 0 t3 (0+d.toNat)<|a.length-d.toNat) rfl (F6 rfl (GS rfl) GT (TM bB fZ.h (bG gC.h) tL (vo rfl) (la<|Wy _)<|ur e.1 e.2)) ?_;refine go ?_;refine aX (u:=.i6 1) rfl (H3 rfl rfl rfl (by simp only[wP,live,gt,Nat.beq,zC,zD,B.st,fZ.h]<;>rfl)) ?_;refine gF O ?_ ?_<;>intro g O;refine go ?_;obtain rfl:=sI O;exact⟨.inr rfl,[.vl 0 t3 0 a.length],eL rfl (eB),.vl 0 t3 0 a.length,⟨px a t3 b c,2⟩,NL,Gh.to (n1:=2) [] rfl rfl NL NL i8.h BH.h,AM [t3],rfl,rfl⟩;refine gF O ?_ ?_<;>intro i O;obtain⟨j,O⟩:=bY O;refine go ?_;refine cE ?_;refine go ?_;obtain rfl:=sI O;exact⟨.inr rfl,[.vl 0 (t3+1) 0<|(a++[(aL.mk b c)]).length],eL rfl (eB),.vl 0 (t3+1) 0<|(a++[(aL.mk b c)]).length,⟨px (a++[(aL.mk b c)]) (t3+1) b c,2⟩,NL,Gh.to (n1:=2) [] rfl rfl NL NL i8.h BH.h,AM [(t3+1)],rfl,rfl⟩;refine gn ?_;cases O
end Go.Proofs
