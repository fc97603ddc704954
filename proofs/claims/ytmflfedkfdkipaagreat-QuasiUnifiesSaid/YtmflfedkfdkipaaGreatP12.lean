import Derived.Test.YtmflfedkfdkipaaGreatP11
set_option linter.all false
set_option maxRecDepth 20000
set_option maxHeartbeats 4000000
set_option synthInstance.maxSize 4000
set_option synthInstance.maxHeartbeats 200000
open List Go.IntKind
open Nat hiding beq_eq
namespace Go.Proofs
open Go Go.Rx Go.Vx Tryz
instance:mm prog tb:=⟨bQ⟩
instance:w8 tb 237 [.J,.J,.J] [(0,1),(1,1),(2,1)]:=⟨xH TY.h zf.h rfl ag⟩
abbrev QK(a)(b:Nat)(c)(d:Nat)(e)(f:Nat)(g)(h):=([(6,.bv bA a 79 2 b),(5,.row [.vl 6 b 0 a.length] 39),(4,.bv (cI .i64) c 3 1 d),(3,.bv (cI .i64) e 3 1 f),(2,.row [.iM bA g,.vl 3 f 0 e.length,.vl 4 d 0 c.length] 237),(1,.row [.J] 39),(0,.row [.iM bA h] 39)]:X (Nat×B))
abbrev QJ(a)(b:Nat)(c:Nat)(d)(e):=([(0,.row [.iM bA a,.vl 1 b 0 d.length,.vl 2 c 0 e.length] 237),(1,.bv (cI .i64) d 3 1 b),(2,.bv (cI .i64) e 3 1 c)]:X (Nat×B))
abbrev Mz(a):=([(1,.row [.J] 39),(0,.row [.iM bA a] 39)]:X (Nat×B))
def Pf(f:X aI)(d:Int)(b:X aI)(e:Int->(X aI)->V ((X aI)))(a:Int):V ((X aI)):=
 aE ((0:Int)<=a/\a<=((b.length:Nat):Int)) (
 aE (0+a.toNat<=b.length) (
 aE (((b.drop 0).take a.toNat).length*16<=140737488355328/\((b.drop 0).take a.toNat).length<=140737488355328) (
 a8 (aB f d) fun c=>
 aE ((((b.drop 0).take a.toNat).length+1)*16<=140737488355328/\((b.drop 0).take a.toNat).length+1<=140737488355328) (
 aE ((0:Int)<=a/\a<=((b.length:Nat):Int)) (
 aE ((0+a.toNat)+(b.length-a.toNat)<=b.length) (
 aE (((((b.drop 0).take a.toNat)++[c]).length+((b.drop<|0+a.toNat).take (b.length-a.toNat)).length)*16<=140737488355328/\(((b.drop 0).take a.toNat)++[c]).length+((b.drop<|0+a.toNat).take (b.length-a.toNat)).length<=140737488355328) (
 e (i64.wrap<|d+1) ((((b.drop 0).take a.toNat)++[c])++((b.drop<|0+a.toNat).take (b.length-a.toNat))))))))))
def Pe(i:X aI)(d:Int)(c:X aI)(e:Int->(X aI)->V ((X aI))):Nat->Int->V ((X aI))
 |0,_=>none|f+1,a=>a8 (cond (decide (a>0)) (a8 (aB c<|i64.wrap<|a-1) fun h=>a8 (aB i d) fun g=>some<|decide (h.E2>g.E2))<|some false) fun b=>cond b ((Pe i d c e f)<|i64.wrap<|a-1) (Pf i d c e a)
def ot  (a:X aI):V ((X aI)):=
 some a
def RL(d:X aI)(n:Nat):Nat->Int->(X aI)->V ((X aI))
 |0,_,_=>none|c+1,b,a=>cond (decide (b<(d.length:Int))) (Pe d b a (RL d n c) n (a.length:Int)) (ot a)
def Wy(n:Nat)(a:X aI):V ((X aI)):=
 RL a n n 0 ([]:X aI)
theorem qhv(n:Nat)(I:X aI)(r:(X aI))(O:Wy n I=some r):b7 prog 142 [.O false<|I.map aU] ⟨[],0⟩ (fun u Y'=>∃t,u=.vl 0 t 0 r.length/\Y'=⟨[(0,.bv aU r 105 2 t)],0+1⟩):=by unfold Wy at O;refine mJ 52 LY ?_;refine gr ?_;refine gr ?_;refine gr ?_;refine gV 3 105 2 1 ?_;refine oH (a3:=0) (fun m c a _=>RL I n m c a) (fun c a t8=>[(0,.iM aU I),(3,.vl 0 t8 0 a.length),(4,.i6 c)]) (fun _ a t8=>⟨[(0,.bv aU a 105 2 t8)],1⟩) (lR (fun d _=>ot d) (fun d g=>[(3,.vl 0 g 0 d.length)]) fun d g=>⟨[(0,.bv aU d 105 2 g)],1⟩) O (nS ?_) ?_;intro d g O;unfold ot at O;refine go ?_;obtain rfl:=sI O;exact⟨.inr rfl,[.vl 0 g 0 d.length],dP rfl dU,.vl 0 g 0 d.length,⟨[(0,.bv aU d 105 2 g)],1⟩,NZ,Gh.trans (Gh.only fun k=>Nat.beq k 0)<|Gh.to (n1:=1) [] rfl rfl NZ NL jQ.h BH.h,g,rfl,rfl⟩;intro l c a t8 O;unfold RL at O;refine gG O ?_ ?_<;>intro D O;refine go ?_;refine pM (Pe I c a<|RL I n l) (fun i=>[(0,.iM aU I),(3,.vl 0 t8 0 a.length),(4,.i6 c),(5,.i6 i)]) (fun _=>⟨[(0,.bv aU a 105 2 t8)],1⟩) (rJ (Pf I c a<|RL I n l) (fun b=>[(0,.iM aU I),(3,.vl 0 t8 0 a.length),(4,.i6 c),(5,.i6 b)]) fun _=>⟨[(0,.bv aU a 105 2 t8)],1⟩) O (vF ?_) ?_;intro b O;unfold Pf at O;obtain⟨o,O⟩:=bU O;obtain⟨A,O⟩:=bU O;obtain⟨y,O⟩:=bU O;refine go ?_;refine aS (u:=.vl 0 t8 0 b.toNat) rfl (tE rfl uC (uB rfl) (Kz aU dL.h (aV dI.h) oO (vo rfl) (pe<|Ty _)<|bo o.1 o.2)) (aS (u:=.vl 1 0 0<|((a.drop 0).take b.toNat).length) (Y':=⟨[(1,.bv aU ((a.drop 0).take b.toNat) 105 2 0),(0,.bv aU a 105 2 t8)],2⟩) rfl (qV rfl rfl rfl rfl (quq aU ((a.drop 0).take b.toNat) dL.h dL.h dI.h rfl (gi aU oO (vo rfl) A) y)) ?_);obtain⟨f,x,O⟩:=aJ O;obtain⟨G,O⟩:=bU O;refine gI x ?_;refine aS (u:=.sl 2 0 1 1) (Y':=⟨[(2,.row (aU f) 105),(1,.bv aU ((a.drop 0).take b.toNat) 105 2 0),(0,.bv aU a 105 2 t8)],3⟩) rfl (vQ dL.h dI.h rfl rfl rfl rfl rfl rfl rfl) ?_;refine bP ?_;obtain⟨q,O⟩:=bU O;obtain⟨s,O⟩:=bU O;obtain⟨z,O⟩:=bU O;refine go ?_;refine aS (u:=.vl 0 t8 (0+b.toNat)<|a.length-b.toNat) rfl (tE rfl (uB rfl) uC (Kz aU dL.h (aV dI.h) oO (vo rfl) (pe<|Ty _)<|z1d q.1 q.2)) (aS (u:=.vl 1 2 0<|((((a.drop 0).take b.toNat)++[f])++((a.drop<|0+b.toNat).take (a.length-b.toNat))).length) (Y':=⟨[(2,.row (aU f) 105),(1,.bv aU ((((a.drop 0).take b.toNat)++[f])++((a.drop<|0+b.toNat).take (a.length-b.toNat))) 105 2 2),(0,.bv aU a 105 2 t8)],3⟩) rfl (qV rfl rfl rfl rfl (ED aU ((a.drop<|0+b.toNat).take (a.length-b.toNat)) dL.h dL.h dI.h rfl oO rfl (gi aU oO (vo rfl) s) z)) ?_);refine go ?_;exact⟨l,_,_,zN _,⟨(i64.wrap<|c+1),((((a.drop 0).take b.toNat)++[f])++((a.drop<|0+b.toNat).take (a.length-b.toNat))),2,O,rfl,rfl⟩,NZ,Gh.trans (Gh.sub (l':=[(0,.iM aU I),(3,.vl 1 2 0<|((((a.drop 0).take b.toNat)++[f])++((a.drop<|0+b.toNat).take (a.length-b.toNat))).length),(4,.i6<|i64.wrap<|c+1)]) ⟨rfl,rfl,rfl,trivial⟩)<|Gh.trans (Gh.mv (l':=[(0,.iM aU I),(3,.vl 0 2 0<|((((a.drop 0).take b.toNat)++[f])++((a.drop<|0+b.toNat).take (a.length-b.toNat))).length),(4,.i6<|i64.wrap<|c+1)]) (h':=[(2,.row (aU f) 105),(0,.bv aU ((((a.drop 0).take b.toNat)++[f])++((a.drop<|0+b.toNat).take (a.length-b.toNat))) 105 2 2)]) 0 1 NZ rfl rfl (by simp only[rS,rU,fP,UZ,C2,Nat.beq,zC,zD]) rfl (by simp only[mn,rB,Lu,fP,rU,UZ,gm,C2,Nat.beq,zC,zD,jm]))<|P0 (n1:=1) ⟨rfl,rfl,rfl,trivial⟩ rfl NZ aZ⟩;intro E i O;unfold Pe at O;obtain⟨j,e,O⟩:=aJ O;refine gn ?_;refine lD [(0,.iM aU I),(3,.vl 0 t8 0 a.length),(4,.i6 c),(5,.i6 i),(30,.bool j)] ⟨[(0,.bv aU a 105 2 t8)],1⟩ ?_ ?_;refine gG O ?_ ?_<;>intro H O;exact wx O;exact wx O;refine dE [] ?_;refine gd ?_;obtain⟨B,e⟩|⟨B,e⟩:=gB e;obtain⟨C,p,e⟩:=aJ e;obtain⟨F,v,e⟩:=aJ e;obtain rfl:=sI e;refine gd ?_;refine RD.w rfl (cV rfl rfl (gP aU dL.h (aV dI.h) bF oO (vo rfl) p)) ?_;refine RD.w rfl (oW sR.h rfl (aV eP.h) rfl (EC rfl) rfl) (RD.w (u:=.i6 C.E2) rfl (HK aU mZ.h rfl oO rfl rfl (vR p) rfl) ?_);refine gJ v ?_;refine bB ⟨by kernel_rfl,trivial,?_⟩;refine go ?_;exact m8;obtain rfl:=sI e;refine gd ?_;refine bB ⟨by kernel_rfl,trivial,?_⟩;refine go ?_;exact m8;exact wx O
def Pp(d:Int)(c:Int->(X Int)->(X Int)->V ((X Int)×(X Int)))(a:X Int)(b:X Int):V ((X Int)×(X Int)):=
 c (i64.wrap<|d+1) a b
def q_  (a:X Int) (b:X Int):V ((X Int)×(X Int)):=
 some (a,b)
def VU(e:X aK)(c:X aI)(self:Int->(X aK)->(X Int)->(X Int)->V ((X Int)×(X Int))):Nat->Int->(X Int)->(X Int)->V ((X Int)×(X Int))
 |0,_,_,_=>none|h+1,b,d,a=>
  cond (decide (b<(c.length:Int))) (a8 (aB c b) fun i=>
   a8 (aB d i.To) fun j=>cond (decide (j<0)) (a8 (aB c b) fun f=>
    a8 (self f.To e d a) fun g=>
    Pp b (VU e c self h) g.1 g.2)<|Pp b (VU e c self h) d a) (q_ d a)
def m_(n:Nat)(self:Int->(X aK)->(X Int)->(X Int)->V ((X Int)×(X Int)))(g:Int)(c:X aK)(d:X Int)(a:X Int):V ((X Int)×(X Int)):=
 a8 (aB d g) fun f=>
 aE ((a.length+1)*8<=140737488355328/\a.length+1<=140737488355328) (
 a8 (aB c g) fun b=>
 a8 (Wy n b.E4) fun e=>
 VU c e self n 0 (d.set (0+g.toNat) (a.length:Int)) (a++[g]))
def RT:Nat->Int->(X aK)->(X Int)->(X Int)->V ((X Int)×(X Int))
 |0,_,_,_,_=>none|n+1,d,a,b,c=>m_ n (RT n) d a b c
theorem qbo:∀(n:Nat)(P:Int)(a:X aK)(f:X Int)(b:X Int)(r:(X Int)×(X Int)),RT n P a f b=some r->∀t4 t6:Nat,b7 prog 141 [.ptr 0 0 0,.int .i64 P] ⟨QJ a t4 t6 f b,3⟩ (fun u Y'=>∃t:Nat->Nat,u=.a7 []/\Y'=⟨QJ a t4 (t 0) r.1 r.2,3⟩)
 |0,P,a,f,b,r,O=>by cases O
 |n+1,P,a,f,b,r,O=>by have D:=qbo n;unfold RT m_ at O;intro t4 t6;refine eO 62 LZ ?_;obtain⟨N,w,O⟩:=aJ O;refine gn ?_;refine lD [(0,.ptr 0 0 0),(1,.i6 P)] ⟨QJ a t4 t6 (f.set (0+P.toNat) (b.length:Int)) b,3⟩ ?_ ?_;obtain⟨J,O⟩:=bU O;refine go ?_;refine aS (u:=.ptr 0 0 0) rfl (lV rfl rfl) ?_;refine go ?_;refine bP ?_;refine bP ?_;refine aS (u:=.ptr 0 0 0) rfl (lV rfl rfl) ?_;obtain⟨j,E,c,C,O⟩:=bO O;refine go ?_;refine aS (u:=.ptr 0 0 0) rfl (lV rfl rfl) ?_;refine gI E ?_;refine j8 (R:=fun u Y'=>u=.vl 4 0 0 c.length/\Y'=⟨(4,.bv aU c 105 2 0)::(3,.row [.i6 P] 3)::QJ a t4 (t6+1) (f.set (0+P.toNat) (b.length:Int)) (b++[P]),5⟩) (args:=[.iM aU j.E4]) rfl (qW rfl rfl LY rfl rfl rfl) (uu aU (qhv n j.E4 c C) _ 4 rfl) rfl rfl ?_;rintro _ _ ⟨rfl,rfl⟩;refine go ?_;refine gL (fun m v Y=>∃i p,∃d s,VU a c (RT n) m i p d=some r/\v=fr 62 [(0,.ptr 0 0 0),(4,.vl 4 0 0 c.length),(5,.i6 i)]/\Y=⟨(4,.bv aU c 105 2 0)::(3,.row [.i6 P] 3)::QJ a t4 s p d,5⟩) (fun v Y=>∃e o q,q_ e o=some r/\v=fr 62 []/\Y=⟨(4,.bv aU c 105 2 0)::(3,.row [.i6 P] 3)::QJ a t4 q e o,5⟩) n ⟨0,(f.set (0+P.toNat) (b.length:Int)),(b++[P]),(t6+1),O,rfl,rfl⟩ ?_ ?_;rintro _ _ ⟨e,o,q,O,rfl,rfl⟩;unfold q_ at O;refine go ?_;obtain rfl:=sI O;exact⟨.inl rfl,[],dU,.a7 [],⟨QJ a t4 q e o,3⟩,NL,Gh.to (n1:=3) [] rfl rfl NL NL jQ.h BH.h,J5 [q],rfl,rfl⟩;rintro(_|F) _ _ ⟨i,p,d,s,O,rfl,rfl⟩;cases O;unfold VU at O;refine gG O ?_ ?_<;>intro M O;obtain⟨G,z,L,y,O⟩:=bO O;refine go ?_;refine dE [] ?_;refine gd ?_;refine aQ (u:=.ptr 0 0 0) rfl (lV rfl rfl) ?_;refine gd ?_;refine aQ rfl (cV rfl rfl (gP aU dL.h (aV dI.h) bF oO (vo rfl) z)) ?_;refine aQ rfl (oW sR.h rfl (aV eP.h) rfl (EC rfl) rfl) (aQ (u:=.i6 G.To) rfl (HK aU mZ.h rfl oO rfl rfl (vR z) rfl) ?_);refine aQ rfl (cV rfl rfl (gP (cI .i64) bI.h (aV eP.h) bF (iK .i64) (vo rfl) y)) ?_;refine aQ rfl (o8 (cI .i64) (fun x=>.i6 x) mZ.h rfl (fun _=>rfl) rfl rfl y) ?_;refine gd ?_;refine bB ⟨by kernel_rfl,trivial,?_⟩;refine gn ?_;refine Wj3 r (fun k l _=>Pp i (VU a c (RT n) F) k l) (fun _ _ _=>[(0,.ptr 0 0 0),(4,.vl 4 0 0 c.length),(5,.i6 i)]) (fun k l t38=>⟨(4,.bv aU c 105 2 0)::(3,.row [.i6 P] 3)::QJ a t4 t38 k l,5⟩) ?_ ?_;intro k l t38 O;unfold Pp at O;exact wx O;refine cF O ?_ ?_<;>intro K O;obtain⟨g,A,B,H,O⟩:=bO O;refine go ?_;refine aS rfl (cV rfl rfl (gP aU dL.h (aV dI.h) bF oO (vo rfl) A)) ?_;refine aS rfl (oW sR.h rfl (aV eP.h) rfl (EC rfl) rfl) (aS (u:=.i6 g.To) rfl (HK aU mZ.h rfl oO rfl rfl (vR A) rfl) (j8 (args:=[.ptr 0 0 0,.i6 g.To]) rfl (qW rfl rfl LZ rfl rfl rfl) (b7.st [0,1,2]<|D g.To a p d B H t4 s) rfl rfl ?_));rintro _ _ ⟨I,rfl,rfl⟩;exact wx O;exact wx O;exact wx O;refine dE [] ?_;refine gd ?_;refine aQ (u:=.ptr 0 0 0) rfl (lV rfl rfl) ?_;refine gd ?_;refine aQ (u:=.ptr 0 0 0) rfl (lV rfl rfl) ?_;refine gd ?_;refine aQ rfl (cV rfl rfl (gP (cI .i64) bI.h (aV eP.h) bF (iK .i64) (vo rfl) w)) ?_;refine Z2 (u:=.J9) (Y':=⟨[(0,.row [.iM bA a,.vl 1 t4 0 f.length,.vl 2 t6 0 b.length] 237),(1,.bv (cI .i64) (f.set (0+P.toNat) (b.length:Int)) 3 1 t4),(2,.bv (cI .i64) b 3 1 t6)],3⟩) rfl (Bg (cI .i64) (aV eP.h) (iK .i64) rfl rfl rfl rfl rfl rfl rfl (vR w) rfl) rfl ?_;refine bB ⟨by kernel_rfl,trivial,?_⟩;refine go ?_;exact⟨_,_,⟨rfl,rfl⟩,NL,qR ⟨rfl,rfl,trivial⟩<|by simp only[QJ,fG]⟩
def Xe(c:Int)(a:X aK)(b:Int->(X aK)->V (az))(e:aK)(d:X aI):V (az):=
 aE ((a.length+1)*32<=140737488355328/\a.length+1<=140737488355328) (
 b (i64.wrap<|c+1) (a++[(aK.mk e.R d)]))
def Cv(d:(X Int)×(X Int))(f:Int)(b:X aK)(e:Int->(X aK)->V (az))(g:aK):Nat->Int->(X aI)->V (az)
 |0,_,_=>none|k+1,a,c=>
  cond (decide (a<(c.length:Int))) (a8 (aB c a) fun h=>
   a8 (aB d.1 h.To) fun i=>
   a8 (aB c a) fun j=>(Cv d f b e g k) (i64.wrap<|a+1)<|c.set (0+a.toNat)<|aI.mk j.E2 i) (Xe f b e g c)
def fg  (a:X aK):V (az):=
 some (az.mk a)
def QZ(h:az)(n:Nat)(b:(X Int)×(X Int)):Nat->Int->(X aK)->V (az)
 |0,_,_=>none|f+1,c,a=>
  cond (decide (c<(b.2.length:Int))) (a8 (aB b.2 c) fun g=>
   a8 (aB h.D9 g) fun d=>
   a8 (Wy n d.E4) fun e=>
   Cv b c a (QZ h n b f) d n 0 e) (fg a)
def Xf(d:az)(c:Int)(n:Nat)(b:X Int):V (az):=
 a8 (RT n c d.D9 b ([]:X Int)) fun a=>
 QZ d n a n 0 ([]:X aK)
def Oq(d:az)(b:Int)(n:Nat):Nat->Int->(X Int)->V (az)
 |0,_,_=>none|c+1,z9,a=>cond (decide (z9<(d.D9.length:Int))) (aE ((a.length+1)*8<=140737488355328/\a.length+1<=140737488355328)<|(Oq d b n c) (i64.wrap<|z9+1)<|a++[(-1)]) (Xf d b n a)
def Nr(n:Nat)(b:az)(a:Int):V (az):=
 Oq b a n n 0 ([]:X Int)
theorem qlj(n:Nat)(T:az)(g:Int)(r:az)(O:Nr n T g=some r):dB prog 101 [.agg [.O false<|T.D9.map bA],.int .i64 g] (.agg [.O false<|r.D9.map bA]):=by unfold Nr at O;refine eO 88 MB ?_;refine gr ?_;refine gr ?_;refine gr ?_;refine cD (tm':=fr 88 [(1,.i6 g),(2,.ptr 0 0 0),(4,.ptr 1 0 0),(5,.ptr 2 0 0),(6,.i6 0)]) (Y':=⟨(3,.bv (cI .i64) ([]:X Int) 3 1 0)::(2,.row [.iM bA T.D9,.vl 3 0 0<|([]:X Int).length,.J] 237)::Mz T.D9,4⟩) (Gh.trans (xK 2 1 3 1 bF NZ rfl rfl)<|qR ⟨rfl,rfl,rfl,rfl,rfl,trivial⟩ rfl) NZ ?_;refine oH (a3:=0) (fun m z9 d _=>Oq T g n m z9 d) (fun z9 _ _=>[(1,.i6 g),(2,.ptr 0 0 0),(4,.ptr 1 0 0),(5,.ptr 2 0 0),(6,.i6 z9)]) (fun _ d A=>⟨(3,.bv (cI .i64) d 3 1 A)::(2,.row [.iM bA T.D9,.vl 3 A 0 d.length,.J] 237)::Mz T.D9,4⟩) (lR (fun j _=>Xf T g n j) (fun _ _=>[(1,.i6 g),(2,.ptr 0 0 0),(4,.ptr 1 0 0),(5,.ptr 2 0 0)]) fun j c=>⟨(3,.bv (cI .i64) j 3 1 c)::(2,.row [.iM bA T.D9,.vl 3 c 0 j.length,.J] 237)::Mz T.D9,4⟩) O (nS ?_) ?_;intro j c O;unfold Xf at O;refine gn ?_;refine cD (tm':=fr 88 [(1,.i6 g),(2,.ptr 0 0 0),(4,.ptr 1 0 0),(5,.ptr 2 0 0)]) (Y':=⟨(4,.bv (cI .i64) ([]:X Int) 3 1 0)::(3,.bv (cI .i64) j 3 1 c)::(2,.row [.iM bA T.D9,.vl 3 c 0 j.length,.vl 4 0 0<|([]:X Int).length] 237)::Mz T.D9,5⟩) (Gh.trans (xK 2 2 3 1 bF NZ rfl rfl)<|qR ⟨rfl,rfl,rfl,rfl,trivial⟩ rfl) NZ ?_;obtain⟨a,J,O⟩:=aJ O;refine go ?_;refine j8 (args:=[.ptr 2 0 0,.i6 g]) rfl (qW rfl rfl LZ rfl rfl rfl) (b7.st [2,3,4]<|qbo n g T.D9 j ([]:X Int) a J c 0) rfl rfl ?_;rintro _ _ ⟨f,rfl,rfl⟩;refine gr ?_;refine gr ?_;refine cD (tm':=fr 88 [(2,.ptr 0 0 0),(4,.ptr 1 0 0),(5,.ptr 2 0 0),(7,.ptr 5 0 0),(8,.i6 0)]) (Y':=⟨(6,.bv bA ([]:X aK) 79 2 0)::(5,.row [.vl 6 0 0<|([]:X aK).length] 39)::(4,.bv (cI .i64) a.2 3 1<|f 0)::(3,.bv (cI .i64) a.1 3 1 c)::(2,.row [.iM bA T.D9,.vl 3 c 0 a.1.length,.vl 4 (f 0) 0 a.2.length] 237)::Mz T.D9,7⟩) (Gh.trans (xK 5 0 79 2 bF NZ rfl rfl)<|qR ⟨rfl,rfl,rfl,rfl,rfl,trivial⟩ rfl) NZ ?_;refine oH (a3:=0) (fun m e b _=>QZ T n a m e b) (fun e _ _=>[(2,.ptr 0 0 0),(4,.ptr 1 0 0),(5,.ptr 2 0 0),(7,.ptr 5 0 0),(8,.i6 e)]) (fun _ b k=>⟨QK b k a.2 (f 0) a.1 c T.D9 T.D9,7⟩) (lR (fun p _=>fg p) (fun _ _=>[(4,.ptr 1 0 0),(7,.ptr 5 0 0)]) fun p z=>⟨QK p z a.2 (f 0) a.1 c T.D9 T.D9,7⟩) O (nS ?_) ?_;intro p z O;unfold fg at O;refine go ?_;obtain rfl:=sI O;exact rT (us:=[.agg [.vl 6 z 0 p.length]]) (u:=.agg [.iM bA p]) (nK (kR fH.h rfl (aV fZ.h) rfl rfl rfl)<|dU)<|fR 6 2;intro E e b k O;unfold QZ at O;refine go ?_;refine aS (u:=.ptr 2 0 0) rfl (lV rfl rfl) ?_;refine gG O ?_ ?_<;>intro S O;obtain⟨P,v,i,F,O⟩:=bO O;refine go ?_;refine dE [(0,11),(1,11),(2,11),(3,11),(4,11),(5,11),(6,11),(7,11),(8,11),(9,11),(10,11)] ?_;refine gd ?_;refine aQ (u:=.ptr 2 0 0) rfl (lV rfl rfl) ?_;refine gd ?_;refine aQ rfl (cV rfl rfl (gP (cI .i64) bI.h (aV eP.h) bF (iK .i64) (vo rfl) v)) ?_;refine aQ rfl (o8 (cI .i64) (fun x=>.i6 x) mZ.h rfl (fun _=>rfl) rfl rfl v) ?_;refine dQ F ?_;refine gd ?_;refine dM ?_;refine qB ?_;refine bB ⟨by kernel_rfl,⟨oW fH.h rfl (aV DC.h) rfl rfl rfl,⟨uE iR.h rfl rfl rfl rfl,⟨jA rfl,⟨lV rfl rfl,⟨oW TY.h rfl (aV WR.h) rfl rfl rfl,⟨uE bI.h rfl rfl rfl rfl,⟨jA rfl,⟨cV rfl rfl (gP (cI .i64) bI.h (aV eP.h) bF (iK .i64) (vo rfl) v),⟨o8 (cI .i64) (fun x=>.i6 x) mZ.h rfl (fun _=>rfl) rfl rfl v,⟨cV rfl rfl (Lz bA iR.h (aV nL.h) Ns F rfl),⟨zak uS.h rfl (aV nL.h) rfl rfl,trivial⟩⟩⟩⟩⟩⟩⟩⟩⟩⟩⟩,?_⟩;obtain⟨w,G,O⟩:=aJ O;refine go ?_;refine j8 (R:=fun u Y'=>u=.vl 8 0 0 w.length/\Y'=⟨(8,.bv aU w 105 2 0)::(7,.row (bA i) 79)::QK b k a.2 (f 0) a.1 c T.D9 T.D9,9⟩) (args:=[.iM aU i.E4]) rfl (qW rfl rfl LY rfl rfl rfl) (uu aU (qhv n i.E4 w G) _ 8 rfl) rfl rfl ?_;rintro _ _ ⟨rfl,rfl⟩;refine go ?_;refine CF (Cv a e b (QZ T n a E) i) (fun o l=>[(2,.ptr 0 0 0),(4,.ptr 1 0 0),(5,.ptr 2 0 0),(7,.ptr 5 0 0),(8,.i6 e),(9,.ptr 7 0 0),(10,.vl 8 0 0 l.length),(11,.i6 o)]) (fun _ l=>⟨(8,.bv aU l 105 2 0)::(7,.row (bA i) 79)::QK b k a.2 (f 0) a.1 c T.D9 T.D9,9⟩) (rJ (Xe e b (QZ T n a E) i) (fun q=>[(2,.ptr 0 0 0),(4,.ptr 1 0 0),(5,.ptr 2 0 0),(7,.ptr 5 0 0),(8,.i6 e),(9,.ptr 7 0 0),(10,.vl 8 0 0 q.length)]) fun q=>⟨(8,.bv aU q 105 2 0)::(7,.row (bA i) 79)::QK b k a.2 (f 0) a.1 c T.D9 T.D9,9⟩) O (vF ?_) ?_;intro q O;unfold Xe at O;refine gn ?_;refine cD (tm':=fr 88 [(2,.ptr 0 0 0),(4,.ptr 1 0 0),(5,.ptr 2 0 0),(7,.ptr 5 0 0),(8,.i6 e),(9,.ptr 7 0 0),(10,.iM aU q)]) (Y':=⟨(7,.row (bA i) 79)::QK b k a.2 (f 0) a.1 c T.D9 T.D9,9⟩) (Gh.trans (Gh.sub (l':=[(2,.ptr 0 0 0),(4,.ptr 1 0 0),(5,.ptr 2 0 0),(7,.ptr 5 0 0),(8,.i6 e),(9,.ptr 7 0 0),(10,.vl 8 0 0 q.length)]) ⟨rfl,rfl,rfl,rfl,rfl,rfl,rfl,trivial⟩)<|FC 8 2) NZ ?_;obtain⟨K,O⟩:=bU O;refine go ?_;refine bP ?_;refine bP ?_;exact wx O;intro N o l O;unfold Cv at O;refine gG O ?_ ?_<;>intro L O;obtain⟨H,C,s,B,t,D,O⟩:=nJ O;refine gn ?_;refine lD [(2,.ptr 0 0 0),(4,.ptr 1 0 0),(5,.ptr 2 0 0),(7,.ptr 5 0 0),(8,.i6 e),(9,.ptr 7 0 0),(10,.vl 8 0 0<|(l.set (0+o.toNat)<|aI.mk t.E2 s).length),(11,.i6 o)] ⟨(8,.bv aU (l.set (0+o.toNat)<|aI.mk t.E2 s) 105 2 0)::(7,.row (bA i) 79)::QK b k a.2 (f 0) a.1 c T.D9 T.D9,9⟩ ?_ ?_;exact wx O;refine dE [] ?_;refine gd ?_;refine aQ (u:=.ptr 2 0 0) rfl (lV rfl rfl) ?_;refine gd ?_;refine aQ rfl (cV rfl rfl (gP aU dL.h (aV dI.h) bF oO (vo rfl) C)) ?_;refine aQ rfl (oW sR.h rfl (aV eP.h) rfl (EC rfl) rfl) (aQ (u:=.i6 H.To) rfl (HK aU mZ.h rfl oO rfl rfl (vR C) rfl) ?_);refine aQ rfl (cV rfl rfl (gP (cI .i64) bI.h (aV eP.h) bF (iK .i64) (vo rfl) B)) ?_;refine aQ rfl (o8 (cI .i64) (fun x=>.i6 x) mZ.h rfl (fun _=>rfl) rfl rfl B) ?_;refine aQ rfl (cV rfl rfl (gP aU dL.h (aV dI.h) bF oO (vo rfl) D)) ?_;refine aQ rfl (oW sR.h rfl (aV eP.h) rfl (EC rfl) rfl) (Z2 (u:=.J9) (Y':=⟨(8,.bv aU (l.set (0+o.toNat)<|aI.mk t.E2 s) 105 2 0)::(7,.row (bA i) 79)::QK b k a.2 (f 0) a.1 c T.D9 T.D9,9⟩) rfl (sa (y:=(aI.mk t.E2 s)) aU (aV eP.h) oO rfl rfl rfl rfl rfl rfl (vR D) rfl rfl) rfl ?_);refine bB ⟨by kernel_rfl,trivial,?_⟩;refine go ?_;exact⟨_,_,⟨rfl,rfl⟩,NZ,qR ⟨rfl,rfl,rfl,rfl,rfl,rfl,(by simp only[Mz,QK,fG];rfl),rfl,trivial⟩ rfl⟩;exact wx O;exact wx O;intro M z9 d A O;unfold Oq at O;refine gG O ?_ ?_<;>intro I O;obtain⟨Q,O⟩:=bU O;refine go ?_;refine aS (u:=.ptr 2 0 0) rfl (lV rfl rfl) ?_;refine go ?_;refine bP ?_;refine bP ?_;refine aS (u:=.ptr 2 0 0) rfl (lV rfl rfl) ?_;exact wx O;exact wx O
def fa: V (Int×FK):=
 some (0,false)
def Ol(c:Int)(b:aK):Nat->Int->V (Int×FK)
 |0,_=>none|d+1,a=>cond (decide (a<(b.E4.length:Int))) (a8 (aB b.E4 a) fun f=>cond (f.E2==c) (a8 (aB b.E4 a) fun e=>some (e.To,true))<|(Ol c b d)<|i64.wrap<|a+1) (fa)
def Vt(n:Nat)(d:az)(a:Int)(b:Int):V (Int×FK):=
 a8 (aB d.D9 a) fun c=>
 Ol b c n 0
theorem qu4(n:Nat)(m:az)(c:Int)(a:Int)(r:Int×FK)(O:Vt n m c a=some r):dB prog 166 [.agg [.O false<|m.D9.map bA],.int .i64 c,.int .i64 a] (.a7 [.int .i64 r.1,.bool r.2]):=by unfold Vt at O;refine w4 34 XR ?_;obtain⟨d,f,O⟩:=aJ O;refine gI f ?_;refine pM (Ol a d) (fun b=>[(2,.i6 a),(8,.iM aU d.E4),(9,.i6 b)]) (fun _=>⟨[(0,.row [.iM bA m.D9] 39)],1⟩) (qQ fa [] ⟨[(0,.row [.iM bA m.D9] 39)],1⟩) O (sN ?_) ?_;intro O;unfold fa at O;refine go ?_;obtain rfl:=sI O;exact BI rfl rfl rfl rfl rfl;intro j b O;unfold Ol at O;refine gG O ?_ ?_<;>intro i O;obtain⟨l,e,O⟩:=aJ O;refine go ?_;refine c8 e ?_;refine gF O ?_ ?_<;>intro h O;obtain⟨k,g,O⟩:=aJ O;refine gI g ?_;obtain rfl:=sI O;exact BI rfl rfl rfl rfl rfl;exact wx O;exact wx O
end Go.Proofs
namespace Go.Vx
open Go Go.Rx
theorem n'(K:Nat)(b:B)(a:Nat):∀(l m:X U),iO K b a (l++m)=iO K b a l++iO K b a m
 |[],m=>by simp[y3]
 |u::l,m=>by rw[Zg,v6,v6,n' K b a l m,Zg]
theorem Gh.three{n:Nat}{l:X (Nat×U)}{h:X (Nat×B)}{nx:Nat}{a b c:B}(j:gt h 2=some c)(i:gt h 1=some b)(g:gt h 0=some a)(r:3<=nx)(q:aH 3 (fr n l))(m:cc 3 a)(o:cc 3 b)(p:cc 3 c):Gh 0 (fr n l) ⟨h,nx⟩ (fr n l) ⟨[(2,c),(1,b),(0,a)],3⟩:=by
 have key:∀k,gt [(2,c),(1,b),(0,a)] k=gt (Vx.cut 3 h) k:=fun k=>by rw[Bt];obtain _ |_ |_ |k:=k;simp[aR,g];simp[aR,i];simp[aR,j];simp[aR,gt];omega
 refine(Gh.pU (Y:=⟨h,nx⟩) (n1:=3) (qq _) r q fun k d e=>?_).trans (Gh.same (Y:=⟨Vx.cut 3 h,3⟩) _ key);rw[<-key]at e;obtain _ |_ |_ |k:=k;simp[aR]at e;subst e;exact m;simp[aR]at e;subst e;exact o;simp[aR]at e;subst e;exact p;have s:gt [(2,c),(1,b),(0,a)] (k+3)=none:=by rw[aR,hF af,aR,hF af,aR,hF af];rfl
 have f:gt [(2,c),(1,b),(0,a)] (k+3)=some d:=e;rw[s]at f;cases f
end Go.Vx
namespace Go.Proofs
open Go Go.Rx Go.Vx
structure QN where
 ty:Int
 nm:Nat
 st:Nat
 ar:X aI
def QN.nd(q:QN):aK:=⟨q.ty,q.ar⟩
def cQ(q:QN):X U:=[.int .i64 q.ty,.vl q.nm q.st 0 q.ar.length]
theorem Br(q:QN):(cQ q).length=2:=rfl
instance:gX cQ 2:=⟨Br⟩
structure QI(l:X aK)(qs:X QN)(M st:Nat)(h:X (Nat×B)):Prop where
 el:l=qs.map QN.nd
 g0:gt h 0=some (.row [.J] 39)
 g1:gt h 1=some (.row [.vl 2 st 0 qs.length] 39)
 g2:gt h 2=some (.bv cQ qs 79 2 st)
 ga:∀q∈qs,gt h q.nm=some (.bv aU q.ar 105 2 q.st)
 lo:∀q∈qs,3<=q.nm/\q.nm<M+3
 nd:(qs.map QN.nm).Nodup
theorem z6z(n:Nat)(l:X aI):aH n (l.map aU).flatten:=QM n (fun q=>ai n q) l
theorem HG(K:Nat)(b:B)(a:Nat)(l:X aK):iO K b a (l.map bA).flatten=(l.map bA).flatten:=vS _ _ _ (QM K (fun q=>y5 K q) l)
theorem wO(K:Nat)(b:B)(a:Nat):∀(l:X QN),(∀q∈l,q.nm≠K)->iO K b a (l.map cQ).flatten=(l.map cQ).flatten
 |[],_=>by simp[y3]
 |q::l,h=>by
  have c:Nat.beq q.nm K=false:=by rw[beq_eq];simpa using h q aZ
  rw[zQ,YP,n',wO K b a l fun x d=>h x<|by simp[d]];simp only[cQ,v6,y3,FS,si c]
theorem frz{n0:Nat}{c:X U}(m:aH 3 c){st N nx:Nat}:∀(a:X QN)(dn:X aK)(h:X (Nat×B)),
  gt h 2=some (.vec ((dn.map bA).flatten++(a.map cQ).flatten) 79 2 st)->gt h 1=some (.row [.vl 2 st 0 N] 39)->gt h 0=some (.row [.J] 39)->
  (∀q∈a,gt h q.nm=some (.bv aU q.ar 105 2 q.st)/\3<=q.nm)->(a.map QN.nm).Nodup->
  ∃b,Gh n0 c ⟨h,nx⟩ c ⟨b,nx⟩/\gt b 2=some (.bv bA (dn++a.map QN.nd) 79 2 st)/\gt b 1=some (.row [.vl 2 st 0 N] 39)/\gt b 0=some (.row [.J] 39)
 |[],dn,h,i,g,f,_,_=>⟨h,Gh.refl _ _ _,by simpa using i,g,f⟩|q::a,dn,h,i,g,f,n,k=>by
  obtain⟨g1,g2⟩:=n q aZ;rw[zQ,nodup_cons]at k;have l:∀x∈a,x.nm≠q.nm:=fun x d e=>k.1 (by rw[<-e];exact X1 d);have j:aH q.nm c:=(y4 _ _).2 fun u t=>aW.le g2 u<|(y4 _ _).1 m u t;have step:Gh n0 c ⟨h,nx⟩ c ⟨dd q.nm (.bv aU q.ar 105 2 q.st) 2 h,nx⟩:=Gh.fz q.nm _ 2 g1 nofun (vS _ _ _ j) rfl;obtain⟨b,o,p,r,s⟩:=frz m (n0:=n0) (nx:=nx) (N:=N) (st:=st) a (dn++[q.nd]) (dd q.nm (.bv aU q.ar 105 2 q.st) 2 h)
   (by
    rw[D0,hF af,i];simp only[zM,ek,n',HG,zQ,YP,wO _ _ _ a l];have:iO q.nm (.bv aU q.ar 105 2 q.st) 2 (cQ q)=bA q.nd:=by simp only[cQ,v6,y3,FS,HL oO,bA,QN.nd]
    rw[this];simp)
   (by
    rw[D0,hF af,g];have:Nat.beq 2 q.nm=false:=by rw[beq_eq];simp;omega
    simp only[zM,ek,v6,y3,si this])
   (by rw[D0,hF af,f];simp only[zM,ek,v6,y3,QC])
   (fun x d=>by obtain⟨v,w⟩:=n x (by simp[d]);refine⟨?_,w⟩;rw[D0,hF<|l x d,v];simp only[zM,ek,vS _ _ _<|z6z _ _])
   k.2
  exact⟨b,step.trans o,by simpa using p,r,s⟩
theorem QI.same{l:X aK}{a:X QN}{M st nx:Nat}{h:X (Nat×B)}(q:QI l a M st h)(tm:X U):∃t,Gh 0 tm ⟨h,nx⟩ tm ⟨(2,.bv cQ a 79 2 st)::(1,.row [.vl 2 st 0 a.length] 39)::(0,.row [.J] 39)::t,nx⟩/\QI l a M st ((2,.bv cQ a 79 2 st)::(1,.row [.vl 2 st 0 a.length] 39)::(0,.row [.J] 39)::t):=by
 have key:∀k,gt ((2,.bv cQ a 79 2 st)::(1,.row [.vl 2 st 0 a.length] 39)::(0,.row [.J] 39)::h) k=gt h k:=fun k=>by simp only[aR];by_cases d:2=k;subst d;simp[q.g2];by_cases c:1=k;subst c;simp[q.g1];by_cases b:0=k;subst b;simp[q.g0];simp[d,c,b]
 refine⟨h,Gh.same (Y:=⟨h,nx⟩) _ key,⟨q.el,?_,?_,?_,fun x e=>?_,q.lo,q.nd⟩⟩;rw[key];exact q.g0;rw[key];exact q.g1;rw[key];exact q.g2;rw[key];exact q.ga x e
variable{l:X aK}{qs:X QN}{M:Nat}
theorem QI.more{st:Nat}{h:X (Nat×B)}(q:QI l qs M st h)(b:B):QI l qs (M+1) st ((M+3,b)::h) where
 el:=q.el
 g0:=by rw[aR,hF af];exact q.g0
 g1:=by rw[aR,hF af];exact q.g1
 g2:=by rw[aR,hF af];exact q.g2
 ga:=fun x hx=>by have:=q.lo x hx;rw[aR,hF af];exact q.ga x hx
 lo:=fun x hx=>by have:=q.lo x hx;omega
 nd:=q.nd
theorem QI.vI{st nx:Nat}{h:X (Nat×B)}(q:QI l qs M st h)(a:X U)(d:aH 2 a):∃f,Gh 0 (.agg [.vl 2 st 0 qs.length]::a) ⟨h,nx⟩ (.agg [.O false<|l.map bA]::a) f:=by
 have j:aH 3 (.agg [.vl 2 st 0 qs.length]::a):=by
  refine(y4 _ _).2 fun u b=>?_;obtain rfl |b:=zI.1 b
  simp[aW,aH];exact aW.le af u ((y4 _ _).1 d u b)
 obtain⟨i,g,c,m,n⟩:=frz (n0:=0) j (st:=st) (N:=qs.length) (nx:=nx) qs [] h (by simpa using q.g2) q.g1 q.g0 (fun x e=>⟨q.ga x e,(q.lo x e).1⟩) q.nd;rw[X0,<-q.el]at c;have k:qs.length=l.length:=by rw[q.el,yA]
 refine⟨⟨dd 2 (.bv bA l 79 2 st) 2 i,nx⟩,g.trans<|Gh.fz 2 (.bv bA l 79 2 st) 2 c nofun ?_ rfl⟩;rw[v6,vS _ _ _ d,Q6,v6,y3,k,HL Ns]
variable{i:Int}
theorem zc8{b d:Type}{f:b->d}{l:X b}{y:d}(h:aB (l.map f) i=some y):∃x,aB l i=some x/\f x=y:=by obtain⟨g,c,a⟩:=QH h;rw[me]at a;rcases e:l[i.toNat]? with _|x;rw[e]at a;cases a;rw[e]at a;refine⟨x,?_,Option.some.inj a⟩;rw[yA]at c;rw[aB,lr ⟨g,c⟩];exact e
theorem z2u{a:Type}{l:X a}{y:a}(h:aB l i=some y):y∈l:=zX (QH h).2.2
variable{t:X (Nat×B)}
theorem Ia{f:Nat}{c:X U}{st e:Nat}{y:QN}{a:aI}(d:y.nm=e+3)(g:e<M)
  (b:gt ((2,.bv cQ qs 79 2 st)::(1,.row [.vl 2 st 0 qs.length] 39)::(0,.row [.J] 39)::t) y.nm=some (.bv aU y.ar 105 2 y.st)):
  Gh f c ⟨(M+3,.row (aU a) 105)::(2,.bv cQ qs 79 2 st)::(1,.row [.vl 2 st 0 qs.length] 39)::(0,.row [.J] 39)::t,M+4⟩ c
   ⟨(M+3,.row (aU a) 105)::(2,.bv cQ qs 79 2 st)::(1,.row [.vl 2 st 0 qs.length] 39)::(0,.row [.J] 39)::(e+3,.bv aU y.ar 105 2 y.st)::rg t (e+3),M+4⟩:=by
 refine Gh.same (Y:=⟨_,M+4⟩) _ fun k=>?_;rw[d,aR,hF af,aR,hF af,aR,hF af]at b;simp only[aR];split;rfl;split;rfl;split;rfl;split;rfl;split
 ·next h=>rw[<-h,b]
 ·next h=>rw[xj,hF h]
theorem QI.lH{st e:Nat}{y:QN}(q:QI l qs M st ((2,.bv cQ qs 79 2 st)::(1,.row [.vl 2 st 0 qs.length] 39)::(0,.row [.J] 39)::t))(u:aB qs i=some y)(n:y.nm=e+3)(C:e<M)(a:aI)(z:aI):
  QI (l.set (0+i.toNat) ⟨y.nd.R,y.nd.E4++[z]⟩) (qs.set (0+i.toNat) ⟨y.ty,e+3,y.st+1,y.ar++[z]⟩) (M+2) st ((M+4,.row [.i6 z.E2,.i6 z.To] 105)::(M+3,.row (aU a) 105)::(2,.bv cQ (qs.set (0+i.toNat) ⟨y.ty,e+3,y.st+1,y.ar++[z]⟩) 79 2 st)::(1,.row [.vl 2 st 0 qs.length] 39)::(0,.row [.J] 39)::(e+3,.bv aU (y.ar++[z]) 105 2<|y.st+1)::rg t (e+3)):=by
 obtain⟨D,E,g⟩:=QH u;have F:i.toNat<qs.length:=(zG.1 g).1;have o:(qs.set (0+i.toNat) ⟨y.ty,e+3,y.st+1,y.ar++[z]⟩).map QN.nm=qs.map QN.nm:=by
  rw[Ty,S!];have:(⟨y.ty,e+3,y.st+1,y.ar++[z]⟩:QN).nm=y.nm:=by rw[n]
  rw[this];have v:(qs.map QN.nm)[i.toNat]? = some y.nm:=by rw[me,g];rfl
  obtain⟨k,f⟩:=zG.1 v;rw[<-f,set_getElem_self]
 have h:∀x∈qs.set (0+i.toNat) ⟨y.ty,e+3,y.st+1,y.ar++[z]⟩,x=⟨y.ty,e+3,y.st+1,y.ar++[z]⟩\/(x∈qs/\x.nm≠e+3):=fun x b=>by
  obtain⟨j,c⟩:=Zc b;rw[Ty,ja]at c;by_cases d:i.toNat=j;rw[lr d]at c;by_cases m:i.toNat<qs.length;rw[lr m]at c;exact .inl (Option.some.inj c).symm;rw[hF m]at c;cases c;rw[hF d]at c;refine .inr ⟨zX c,fun s=>d ?_⟩;have G:(qs.map QN.nm)[i.toNat]? = some (e+3):=by rw[me,g,<-n];rfl
  have A:(qs.map QN.nm)[j]? = some (e+3):=by rw[me,c,<-s];rfl
  obtain⟨k,f⟩:=zG.1 G;obtain⟨p,r⟩:=zG.1 A;exact(Gw (h₀:=k) (h₁:=p) q.nd).1 (by rw[f,r])
 refine⟨?_,?_,?_,?_,fun x b=>?_,fun x b=>?_,by rw[o];exact q.nd⟩;rw[S!,q.el];rfl;simp only[aR];rw[hF af,hF af,hF af,hF af];rfl;simp only[aR];rw[hF af,hF af,hF af,fG];rfl;simp only[aR];rw[hF af,hF af];rfl;obtain rfl |⟨b,d⟩:=h x b;simp only[aR];rw[hF af,hF af,hF af,hF af,hF af];simp;have w:=q.lo x b;have g1:=q.ga x b;rw[aR,hF af,aR,hF af,aR,hF af]at g1;simp only[aR];rw[hF af,hF af,hF af,hF af,hF af,hF af,xj,hF af];exact g1;obtain rfl |⟨b,d⟩:=h x b;show 3<=e+3/\e+3<M+2+3;omega;have w:=q.lo x b;omega
instance{a:Int}{k:Nat}:gf cQ [.int .i64 a,.vl k 0 0 0] ⟨a,k,0,[]⟩:=⟨rfl⟩
theorem Ba{tm:X U}{x:Int}{H:X (Nat×B)}:Gh (M+4) tm ⟨(M+3,.row [.i6 x,.J] 79)::H,M+4⟩ tm ⟨(M+4,.vec [] 105 2 0)::(M+3,.row [.i6 x,.vl (M+4) 0 0 0] 79)::H,M+5⟩:=by
 have b:Nat.beq (M+4) (M+3)=false:=by rw[beq_eq];simp
 have a:Nat.beq (M+3) (M+3)=true:=by rw[beq_eq];simp
 have:=xK (n0:=M+4) (tm:=tm) (Y:=⟨(M+3,.row [.i6 x,.J] 79)::H,M+4⟩) (q:=[.i6 x,.J]) (e0:=79) (M+3) 1 105 2 bF (zF _) (by simp only[gt,a,zC]) rfl;simp only[bE,ug,b,a,zC,zD,List.set]at this;exact this
theorem QI.app{st:Nat}(q:QI l qs M st ((2,.bv cQ qs 79 2 st)::(1,.row [.vl 2 st 0 qs.length] 39)::(0,.row [.J] 39)::t))(x:Int):
  QI (l++[aK.mk x []]) (qs++[(⟨x,M+4,0,[]⟩:QN)]) (M+2) (st+1) ((M+4,.vec [] 105 2 0)::(M+3,.row [.i6 x,.vl (M+4) 0 0 0] 79)::(2,.bv cQ (qs++[(⟨x,M+4,0,[]⟩:QN)]) 79 2<|st+1)::(1,.row [.vl 2 (st+1) 0 (qs++[(⟨x,M+4,0,[]⟩:QN)]).length] 39)::(0,.row [.J] 39)::t) where
 el:=by rw[q.el];simp[QN.nd]
 g0:=by simp only[aR];rw[hF af,hF af,hF af,hF af];rfl
 g1:=by simp only[aR];rw[hF af,hF af,hF af];rfl
 g2:=by simp only[aR];rw[hF af,hF af];rfl
 ga:=fun y hy=>by obtain hy |hy:=yD.1 hy;have l1:=q.lo y hy;have g1:=q.ga y hy;rw[aR,hF af,aR,hF af,aR,hF af]at g1;simp only[aR];rw[hF af,hF af,hF af,hF af,hF af];exact g1;simp at hy;subst hy;simp[aR]
 lo:=fun y hy=>by obtain hy |hy:=yD.1 hy;have l1:=q.lo y hy;omega;simp at hy;subst hy;show 3<=M+4/\M+4<M+2+3;omega
 nd:=by rw[y_,fF];refine⟨q.nd,by simp,fun a ha b hb=>?_⟩;obtain⟨y,hy,rfl⟩:=mem_map.1 ha;simp at hb;subst hb;have:=q.lo y hy;omega
theorem qi0:QI [] [] 0 0 [(2,.bv cQ ([]:X QN) 79 2 0),(1,.row [.vl 2 0 0<|([]:X QN).length] 39),(0,.row [.J] 39)]:=⟨rfl,rfl,rfl,rfl,(fun q a=>by cases a),(fun q a=>by cases a),Bc⟩
end Go.Proofs
namespace Go.Proofs
open Go Go.Rx Go.Vx Tryz
instance:mm prog tb:=⟨bQ⟩
def Yq(b:Int)(a:Int->(X aK)->V (az))(c:X aK):V (az):=
 a (i64.wrap<|b+1) c
def g_(a:Int)(c:Int->(X aK)->V (az))(b:X aK):V (az):=
 c (i64.wrap<|a+1) b
def VS(p:X aK)(g:X Int)(n:Nat)(c:Int)(f:Int->(X aK)->V (az))(a:Int):Nat->Int->(X aK)->V (az)
 |0,_,_=>none|l+1,d,b=>
  a8 (aB p c) fun j=>cond (decide (d<(j.E4.length:Int))) (a8 (aB p c) fun k=>
   a8 (aB k.E4 d) fun i=>
   a8 (Vt n (az.mk b) a i.E2) fun h=>cond (!h.2) (a8 (aB b a) fun e=>
    a8 (aB g i.To) fun m=>
    aE ((e.E4.length+1)*16<=140737488355328/\e.E4.length+1<=140737488355328) (
    a8 (aB b a) fun o=>
    Yq d (VS p g n c f a l) (b.set (0+a.toNat)<|aK.mk o.R<|e.E4++[(aI.mk i.E2 m)])))<|Yq d (VS p g n c f a l) b) (g_ c f b)
def Pk(c:X Int)(d:Int)(n:Nat)(a:X aK):V (az):=
 a8 (aB c d) fun e=>
 a8 (Nr n (az.mk a) e) fun b=>some b
def OH(g:X aK)(a:X Int)(d:Int)(n:Nat):Nat->Int->(X aK)->V (az)
 |0,_,_=>none|e+1,b,c=>cond (decide (b<(g.length:Int))) (a8 (aB a b) fun f=>VS g a n b (OH g a d n e) f n 0 c) (Pk a d n c)
def Yp(d:X aK)(b:X Int)(c:Int)(n:Nat)(a:X aK):V (az):=
 OH d b c n n 0 a
def Pj(h:X aK)(c:X Int)(d:X Int)(e:Int)(n:Nat):Nat->Int->(X aK)->V (az)
 |0,_,_=>none|g+1,b,a=>cond (decide (b<(h.length:Int))) (a8 (aB d b) fun f=>aE ((a.length+1)*32<=140737488355328/\a.length+1<=140737488355328)<|(Pj h c d e n g) (i64.wrap<|b+1)<|a++[(aK.mk f [])]) (Yp h c e n a)
def Xp(n:Nat)(d:X aK)(a:X Int)(b:X Int)(c:Int):V (az):=
 Pj d a b c n n 0 ([]:X aK)
theorem qlx(n:Nat)(p1:X aK)(d:X Int)(w:X Int)(f:Int)(r:az)(O:Xp n p1 d w f=some r):dB prog 139 [.O false<|p1.map bA,.O false<|d.map<|cI .i64,.O false<|w.map<|cI .i64,.int .i64 f] (.agg [.O false<|r.D9.map bA]):=by
 unfold Xp at O;refine Kd 98 Y4 ?_;refine gr ?_;refine gr ?_;refine gr ?_;refine cD (tm':=fr 98 [(0,.iM bA p1),(1,.iM (cI .i64) d),(2,.iM (cI .i64) w),(3,.i6 f),(8,.ptr 0 0 0),(9,.ptr 1 0 0),(10,.i6 0)]) (Y':=⟨[(2,.bv cQ ([]:X QN) 79 2 0),(1,.row [.vl 2 0 0<|([]:X QN).length] 39),(0,.row [.J] 39)],3⟩) (Gh.trans (xK 1 0 79 2 bF NZ rfl rfl)<|qR ⟨rfl,rfl,rfl,rfl,rfl,rfl,rfl,trivial⟩ rfl) NZ ?_;refine gL (fun m k Y=>∃B z A,Pj p1 d w f n m B z=some r/\k=fr 98 [(0,.iM bA p1),(1,.iM (cI .i64) d),(2,.iM (cI .i64) w),(3,.i6 f),(8,.ptr 0 0 0),(9,.ptr 1 0 0),(10,.i6 B)]/\∃b M h,QI z b M A h/\Y=⟨h,M+3⟩) (fun k Y=>∃E i,Yp p1 d f n E=some r/\k=fr 98 [(0,.iM bA p1),(1,.iM (cI .i64) d),(3,.i6 f),(8,.ptr 0 0 0),(9,.ptr 1 0 0)]/\∃b M h,QI E b M i h/\Y=⟨h,M+3⟩) n ⟨0,([]:X aK),0,O,rfl,[],0,_,qi0,rfl⟩ ?_ ?_;rintro _ _ ⟨E,i,O,rfl,V,M0,R,S,rfl⟩;unfold Yp at O;refine go ?_;refine gL (fun m k Y=>∃l C,OH p1 d f n m l C=some r/\k=fr 98 [(0,.iM bA p1),(1,.iM (cI .i64) d),(3,.i6 f),(8,.ptr 0 0 0),(9,.ptr 1 0 0),(11,.i6 l)]/\∃b M h,QI C b M i h/\Y=⟨h,M+3⟩) (fun k Y=>∃j,Pk d f n j=some r/\k=fr 98 [(1,.iM (cI .i64) d),(3,.i6 f),(8,.ptr 0 0 0),(9,.ptr 1 0 0)]/\∃b M h,QI j b M i h/\Y=⟨h,M+3⟩) n ⟨0,E,O,rfl,V,M0,R,S,rfl⟩ ?_ ?_ NZ;rintro _ _ ⟨j,O,rfl,b,M,h,c,rfl⟩;unfold Pk at O;have CC:ei 3 [(1,.iM (cI .i64) d),(3,.i6 f),(8,.ptr 0 0 0),(9,.ptr 1 0 0)]:=BS.h;obtain⟨h',e1,e2,e3,e4⟩:=frz (n0:=0) (Cd (n:=98) CC) (st:=i) (N:=b.length) (nx:=M+3) b [] h (by simpa using c.g2) c.g1 c.g0 (fun q hx=>⟨c.ga q hx,(c.lo q hx).1⟩) c.nd;rw[X0,<-c.el]at e2;have oP:b.length=j.length:=by rw[c.el,yA]
 rw[oP]at e3;refine cD (e1.trans<|Gh.three e2 e3 e4 af (Cd (n:=98) CC) (by simp[cc,aH,aW]) (by simp[cc,aH,aW])<|QM 3 (fun q=>y5 3 q) j) NZ ?_;refine gn ?_;refine cD (tm':=fr 98 [(1,.iM (cI .i64) d),(3,.i6 f),(8,.ptr 0 0 0),(9,.ptr 1 0 0)]) (Y':=⟨[(1,.row [.iM bA j] 39),(0,.row [.J] 39)],3⟩) (Gh.trans (Gh.sub (l':=[(1,.iM (cI .i64) d),(3,.i6 f),(8,.ptr 0 0 0),(9,.ptr 1 0 0)]) ⟨rfl,rfl,rfl,rfl,trivial⟩)<|FC 2 2) NZ ?_;obtain⟨yJ,vC,W,rG,O⟩:=bO O;refine go ?_;refine dE [] ?_;refine gd ?_;refine dQ vC ?_;refine gd ?_;refine dN rfl (pC<|qlj n (az.mk j) yJ W rG) MB ?_;refine qB ?_;refine bB ⟨by kernel_rfl,trivial,?_⟩;refine go ?_;obtain rfl:=sI O;exact rT (nK (kR fH.h rfl (aV fZ.h) rfl rfl rfl)<|dU)<|w9 _ rfl;rintro(_|U) _ _ ⟨l,C,O,rfl,b,M,h,c,rfl⟩;cases O;unfold OH at O;refine gF O ?_ ?_<;>intro vX O;refine go ?_;apply cK;obtain⟨o,pY,O⟩:=aJ O;refine go ?_;refine c8 pY ?_;refine go ?_;refine gL (fun m k Y=>∃s x,VS p1 d n l (OH p1 d f n U) o m s x=some r/\k=fr 98 [(0,.iM bA p1),(1,.iM (cI .i64) d),(3,.i6 f),(8,.ptr 0 0 0),(9,.ptr 1 0 0),(11,.i6 l),(12,.i6 o),(13,.i6 s)]/\∃b M h,QI x b M i h/\Y=⟨h,M+3⟩) (fun k Y=>∃G,g_ l (OH p1 d f n U) G=some r/\k=fr 98 [(0,.iM bA p1),(1,.iM (cI .i64) d),(3,.i6 f),(8,.ptr 0 0 0),(9,.ptr 1 0 0),(11,.i6 l)]/\∃b M h,QI G b M i h/\Y=⟨h,M+3⟩) n ⟨0,C,O,rfl,b,M,h,c,rfl⟩ ?_ ?_ NZ;rintro _ _ ⟨G,O,rfl,b,M,h,c,rfl⟩;unfold g_ at O;refine go ?_;exact⟨_,_,_,zN _,⟨_,G,O,rfl,b,M,h,c,rfl⟩,NZ,Gh.sub<|by((repeat refine⟨rfl,?_⟩);exact trivial)⟩;rintro(_|m3) _ _ ⟨s,x,O,rfl,b,M,h,c,rfl⟩;cases O;unfold VS at O;obtain⟨x44,uN,O⟩:=aJ O;refine go ?_;refine c8 uN ?_;refine gF O ?_ ?_<;>intro Rb O;obtain⟨t,J,c⟩:=c.same (nx:=M+3)<|fr 98 [(0,.iM bA p1),(1,.iM (cI .i64) d),(3,.i6 f),(8,.ptr 0 0 0),(9,.ptr 1 0 0),(11,.i6 l),(12,.i6 o),(13,.i6 s)];refine cD (Gh.sub (l':=[(0,.iM bA p1),(1,.iM (cI .i64) d),(3,.i6 f),(8,.ptr 0 0 0),(9,.ptr 1 0 0),(11,.i6 l),(12,.i6 o),(13,.i6 s)])<|by((repeat refine⟨rfl,?_⟩);exact trivial)) NZ ?_;refine cD J NZ ?_
 haveI:ca (M+3) (M+4):=⟨rfl⟩
 haveI:ca (M+4) (M+5):=⟨rfl⟩
 haveI:Nq (M+1) M:=⟨by rw[beq_eq];simp⟩
 refine go ?_;apply cK;obtain⟨x47,Ra,g,jw,O⟩:=bO O;refine go ?_;refine c8 Ra ?_;refine go ?_;refine c8 jw ?_;obtain⟨Z,XH,O⟩:=aJ O;refine go ?_;have D:QI x b (M+1) i ((M+3,.row (aU g) 105)::(2,.bv cQ b 79 2 i)::(1,.row [.vl 2 i 0 b.length] 39)::(0,.row [.J] 39)::t):=c.more<|.row (aU g) 105;obtain⟨v13,Q⟩:=D.vI (nx:=M+4) [.i6 o,.i6 g.E2] (by simp[aH,aW]);refine aM rfl (b7.vD (qu4 n (az.mk x) o g.E2 Z XH) jQ.h (by simp only[cf,mO,I8,U6,zC]<;>rfl) (fun m=>by simp[H3,aL]) Q) XR ?_;refine gr ?_;refine u6 (fun k Y=>∃H,Yq s (VS p1 d n l (OH p1 d f n U) o m3) H=some r/\k=fr 98 [(0,.iM bA p1),(1,.iM (cI .i64) d),(3,.i6 f),(8,.ptr 0 0 0),(9,.ptr 1 0 0),(11,.i6 l),(12,.i6 o),(13,.i6 s)]/\∃b M h,QI H b M i h/\Y=⟨h,M+3⟩) ?_ ?_;rintro _ _ ⟨H,O,rfl,b,M,h,c,rfl⟩;unfold Yq at O;refine go ?_;exact⟨_,_,_,zN _,⟨_,H,O,rfl,b,M,h,c,rfl⟩,NZ,Gh.sub<|by((repeat refine⟨rfl,?_⟩);exact trivial)⟩;refine cF O ?_ ?_<;>intro h53 O;obtain⟨Z9,K,v,Ig,O⟩:=bO O;obtain⟨L,O⟩:=bU O;obtain⟨PD,e?,O⟩:=aJ O;have T:=K.symm.trans e?;cases T;rw[c.el]at K;obtain⟨y,p,rfl⟩:=zc8 K;obtain⟨e,F,V_⟩:∃e,y.nm=e+3/\e<M:=by have:=c.lo y<|z2u p;exact⟨y.nm-3,by omega,by omega⟩
 haveI:Nq (M+1) e:=⟨by rw[beq_eq];simp;omega⟩
 haveI:Nq M e:=⟨by rw[beq_eq];simp;omega⟩
 have OP:=c.ga y<|z2u p;refine cD (Ia (a:=g) F V_ OP) NZ ?_;rw[show y.nd.E4=y.ar from rfl]at L;refine gn ?_;refine u6 (fun k Y=>k=fr 98 [(0,.iM bA p1),(1,.iM (cI .i64) d),(3,.i6 f),(8,.ptr 0 0 0),(9,.ptr 1 0 0),(11,.i6 l),(12,.i6 o),(13,.i6 s)]/\Y=⟨(M+4,.row [.i6 g.E2,.i6 v] 105)::(M+3,.row (aU g) 105)::(2,.bv cQ (b.set (0+o.toNat) ⟨y.ty,e+3,y.st+1,y.ar++[aI.mk g.E2 v]⟩) 79 2 i)::(1,.row [.vl 2 i 0 b.length] 39)::(0,.row [.J] 39)::(e+3,.bv aU (y.ar++[aI.mk g.E2 v]) 105 2<|y.st+1)::rg t (e+3),M+5⟩) ?_ ?_;rintro _ _ ⟨rfl,rfl⟩;refine go ?_;refine⟨_,_,⟨_,O,rfl,_,M+2,_,c.lH p F V_ g ⟨g.E2,v⟩,rfl⟩,NZ,Gh.sub<|by((repeat refine⟨rfl,?_⟩);exact trivial)⟩;refine dE [(0,17),(0,18),(1,17),(1,18),(2,17),(2,18),(3,17),(4,17),(5,17),(6,17),(7,17),(8,17)] ?_;refine gd ?_;refine aQ rfl (cV rfl rfl (gP cQ iR.h (aV nL.h) bF Br (vo rfl) p)) ?_;refine aQ rfl (oW uS.h rfl (aV iG.h) rfl (EC rfl) rfl) ?_;refine aQ (u:=.vl (e+3) y.st 0 y.ar.length) rfl (HK cQ dL.h rfl Br rfl rfl (vR p) (by rw[<-F];rfl)) ?_;refine gd ?_;refine dQ Ig ?_;refine gd ?_;refine dM ?_;refine dM ?_;refine aQ rfl (cV rfl rfl (gP cQ iR.h (aV nL.h) bF Br (vo rfl) p)) ?_;refine aQ rfl (oW uS.h rfl (aV iG.h) rfl (EC rfl) rfl) (Z2 (u:=.J9) (Y':=⟨(M+4,.row [.i6 g.E2,.i6 v] 105)::(M+3,.row (aU g) 105)::(2,.bv cQ (b.set (0+o.toNat) ⟨y.ty,e+3,y.st+1,y.ar++[aI.mk g.E2 v]⟩) 79 2 i)::(1,.row [.vl 2 i 0 b.length] 39)::(0,.row [.J] 39)::(e+3,.bv aU (y.ar++[aI.mk g.E2 v]) 105 2<|y.st+1)::rg t (e+3),M+5⟩) rfl (sa (y:=(⟨y.ty,e+3,y.st+1,y.ar++[aI.mk g.E2 v]⟩:QN)) cQ (aV iG.h) Br rfl rfl rfl rfl rfl rfl (vR p) rfl rfl) rfl ?_);refine bB ⟨by kernel_rfl,⟨oW fH.h rfl (aV DC.h) rfl rfl rfl,⟨oW fH.h rfl (aV DC.h) rfl rfl rfl,⟨uE iR.h rfl rfl rfl rfl,⟨uE iR.h rfl rfl rfl rfl,⟨jA rfl,⟨jA rfl,⟨oW fH.h rfl (aV DC.h) rfl rfl rfl,⟨uE iR.h rfl rfl rfl rfl,⟨jA rfl,⟨cV rfl rfl (gP cQ iR.h (aV nL.h) bF Br (vo rfl) p),⟨oW uS.h rfl (aV iG.h) rfl (EC rfl) rfl,⟨HK cQ dL.h rfl Br rfl rfl (vR p) (by rw[<-F];rfl),trivial⟩⟩⟩⟩⟩⟩⟩⟩⟩⟩⟩⟩,?_⟩;refine go ?_;exact⟨_,_,⟨rfl,rfl⟩,NZ,Gh.sub<|by((repeat refine⟨rfl,?_⟩);exact trivial)⟩;refine go ?_;exact⟨_,_,⟨x,O,rfl,b,M+1,_,D,rfl⟩,NZ,Gh.sub<|by((repeat refine⟨rfl,?_⟩);exact trivial)⟩;refine go ?_;exact⟨_,_,⟨x,O,rfl,b,M,h,c,rfl⟩,NZ,Gh.sub<|by((repeat refine⟨rfl,?_⟩);exact trivial)⟩;refine go ?_;exact⟨_,_,⟨C,O,rfl,b,M,h,c,rfl⟩,NZ,Gh.sub<|by((repeat refine⟨rfl,?_⟩);exact trivial)⟩;rintro(_|m1) _ _ ⟨B,z,A,O,rfl,b,M,h,c,rfl⟩;cases O;unfold Pj at O;refine gF O ?_ ?_<;>intro XE O;obtain⟨t,J,c⟩:=c.same (nx:=M+3)<|fr 98 [(0,.iM bA p1),(1,.iM (cI .i64) d),(2,.iM (cI .i64) w),(3,.i6 f),(8,.ptr 0 0 0),(9,.ptr 1 0 0),(10,.i6 B)];refine cD (Gh.sub (l':=[(0,.iM bA p1),(1,.iM (cI .i64) d),(2,.iM (cI .i64) w),(3,.i6 f),(8,.ptr 0 0 0),(9,.ptr 1 0 0),(10,.i6 B)])<|by((repeat refine⟨rfl,?_⟩);exact trivial)) NZ ?_;refine cD J NZ ?_
 haveI:ca (M+3) (M+4):=⟨rfl⟩
 haveI:Nq (M+1) M:=⟨by rw[beq_eq];simp⟩
 refine go ?_;apply cK;obtain⟨I,uM,O⟩:=aJ O;obtain⟨P,O⟩:=bU O;rw[show z.length=b.length by rw[c.el,yA]]at P;refine go ?_;refine dE [(0,7),(1,7)] ?_;refine gd ?_;refine dQ uM ?_;refine gd ?_;refine RD.fz (u1:=.sl (M+3) 0 1 1) (u:=.sl (M+3) 0 1 1) (s1:=⟨(M+3,.row [.i6 I,.J] 79)::(2,.bv cQ b 79 2 A)::(1,.row [.vl 2 A 0 b.length] 39)::(0,.row [.J] 39)::t,M+4⟩) rfl Go.Vx.xG Ba (by show M+4<=M+5;omega) rfl rfl ?_;refine dM ?_;refine gd ?_;refine qB ?_;refine bB ⟨by kernel_rfl,⟨oW fH.h rfl (aV DC.h) rfl rfl rfl,⟨uE iR.h rfl rfl rfl rfl,trivial⟩⟩,?_⟩;refine go ?_;exact⟨_,_,_,zN _,⟨_,(z++[(aK.mk I [])]),(A+1),O,rfl,_,M+2,_,c.app I,rfl⟩,NZ,Gh.sub<|by((repeat refine⟨rfl,?_⟩);exact trivial)⟩;refine go ?_;exact⟨_,_,⟨z,A,O,rfl,b,M,h,c,rfl⟩,NZ,Gh.sub<|by((repeat refine⟨rfl,?_⟩);exact trivial)⟩
end Go.Proofs
namespace Go.Proofs
open Go Go.Rx Go.Vx Tryz
def Hv(b:X Int)(z5:Int):V ((X Int)):=
 a8 (sX b 0 z5) fun a=>some a
def Dn(d:X Int):Nat->Int->V ((X Int))
 |0,_=>none|b+1,z4=>a8 (cond (decide (z4>0)) (a8 (aB d<|i64.wrap<|z4-1) fun c=>some<|c==0)<|some false) fun a=>cond a ((Dn d b)<|i64.wrap<|z4-1) (Hv d z4)
def dq(n:Nat)(a:X Int):V ((X Int)):=
 Dn a n (a.length:Int)
theorem qpx(n:Nat)(m:X Int)(r:(X Int))(O:dq n m=some r):dB prog 111 [.O false<|m.map<|cI .u64] (.O false<|r.map<|cI .u64):=by unfold dq at O;refine mJ 21 YI ?_;refine go ?_;refine pM (Dn m) (fun z4=>[(0,.iM (cI .u64) m),(3,.i6 z4)]) (fun _=>⟨[],0⟩) (rJ (Hv m) (fun z5=>[(0,.iM (cI .u64) m),(3,.i6 z5)]) fun _=>⟨[],0⟩) O (vF ?_) ?_;intro z5 O;unfold Hv at O;obtain⟨i,e,O⟩:=aJ O;obtain⟨f,g⟩:=bn (cI .u64) .i64 e;refine go ?_;refine aS (u:=.iM (cI .u64) i) rfl (tE rfl uC (uB rfl) (zP (cI .u64) gS.h (aV mT.h) (iK .u64) f g)) ?_;exact gx O;intro k z4 O;unfold Dn at O;obtain⟨b,a,O⟩:=aJ O;refine gn ?_;refine lD [(0,.iM (cI .u64) m),(3,.i6 z4),(15,.bool b)] ⟨[],0⟩ ?_ ?_;refine gF O ?_ ?_<;>intro j O;refine go ?_;apply cK;refine go ?_;exact o? O;refine go ?_;exact n? O;refine go ?_;obtain⟨c,a⟩|⟨c,a⟩:=gB a;obtain⟨l,d,a⟩:=aJ a;obtain rfl:=sI a;refine go ?_;refine c8 d ?_;refine go ?_;exact m8;exact gy a
def Wx(d:X Int)(b:X Int)(n:Nat)(a:X Int):V ((X Int)):=
 aE ((if(b.length:Int)<(d.length:Int)then(b.length:Int)else(d.length:Int)).toNat=a.length) (
 a8 (dq n a) fun c=>some c)
def dr(g:X Int)(b:X Int)(n:Nat):Nat->Int->(X Int)->V ((X Int))
 |0,_,_=>none|d+1,z9,a=>
  cond (decide (z9<(((if(b.length:Int)<(g.length:Int)then(b.length:Int)else(g.length:Int)).toNat:Nat):Int))) (a8 (aB g z9) fun e=>
   a8 (aB b z9) fun c=>
   a8 (gU a 0 ((if(b.length:Int)<(g.length:Int)then(b.length:Int)else(g.length:Int)).toNat) z9) fun f=>(dr g b n d) (i64.wrap<|z9+1)<|a.set z9.toNat<|N6 .u64 e c) (Wx g b n a)
def Vj(n:Nat)(b:X Int)(a:X Int):V ((X Int)):=
 aE (0<=(if(a.length:Int)<(b.length:Int)then(a.length:Int)else(b.length:Int))/\8*(if(a.length:Int)<(b.length:Int)then(a.length:Int)else(b.length:Int)).toNat<=281474976710656/\(if(a.length:Int)<(b.length:Int)then(a.length:Int)else(b.length:Int))<=281474976710656) (
 dr b a n n 0 (replicate (if(a.length:Int)<(b.length:Int)then(a.length:Int)else(b.length:Int)).toNat 0))
theorem qzi(n:Nat)(s:X Int)(a:X Int)(r:(X Int))(O:Vj n s a=some r):dB prog 78 [.O false<|s.map<|cI .u64,.O false<|a.map<|cI .u64] (.O false<|r.map<|cI .u64):=by unfold Vj at O;refine eO 33 vp ?_;obtain⟨g,O⟩:=bU O;refine go ?_;refine aS (u:=.i6<|if(a.length:Int)<(s.length:Int)then(a.length:Int)else(s.length:Int)) rfl (Y? rfl rfl rfl rfl rfl rfl rfl) (aS (u:=.sl 0 0 ((if(a.length:Int)<(s.length:Int)then(a.length:Int)else(s.length:Int)).toNat)<|(if(a.length:Int)<(s.length:Int)then(a.length:Int)else(s.length:Int)).toNat) (Y':=⟨[(0,.row (List.map (cI .u64)<|replicate (if(a.length:Int)<(s.length:Int)then(a.length:Int)else(s.length:Int)).toNat 0).flatten 213)],1⟩) rfl (Lw (cI .u64) 0 rfl rfl gS.h mT.h rfl rfl rfl rfl g) ?_);refine go ?_;refine aS rfl (HP rfl rfl rfl (z2y gS.h rfl)) ?_;refine go ?_;refine CF (dr s a n) (fun z9 _=>[(0,.iM (cI .u64) s),(1,.iM (cI .u64) a),(5,.sl 0 0 ((if(a.length:Int)<(s.length:Int)then(a.length:Int)else(s.length:Int)).toNat)<|(if(a.length:Int)<(s.length:Int)then(a.length:Int)else(s.length:Int)).toNat),(14,.i6 (((if(a.length:Int)<(s.length:Int)then(a.length:Int)else(s.length:Int)).toNat:Nat):Int)),(15,.i6 z9)]) (fun _ b=>⟨[(0,.row (b.map<|cI .u64).flatten 213)],1⟩) (rJ (Wx s a n) (fun _=>[(5,.sl 0 0 ((if(a.length:Int)<(s.length:Int)then(a.length:Int)else(s.length:Int)).toNat)<|(if(a.length:Int)<(s.length:Int)then(a.length:Int)else(s.length:Int)).toNat)]) fun c=>⟨[(0,.row (c.map<|cI .u64).flatten 213)],1⟩) O (vF ?_) ?_;intro c O;unfold Wx at O;obtain⟨d,O⟩:=bU O;refine gn ?_;refine cD (tm':=fr 33 [(5,.iM (cI .u64) c)]) (Y':=⟨[],1⟩) (Gh.trans (Gh.sub (l':=[(5,.sl 0 0 ((if(a.length:Int)<(s.length:Int)then(a.length:Int)else(s.length:Int)).toNat)<|(if(a.length:Int)<(s.length:Int)then(a.length:Int)else(s.length:Int)).toNat)]) ⟨rfl,trivial⟩)<|Gh.iJ (l':=[(5,.iM (cI .u64) c)]) (h':=[]) 0 (.row (c.map<|cI .u64).flatten 213) 1 rfl aZ (by simp only[iJ,nD,y3,v6,FS,O0,UW,QC,By,Bz,Ca,V2,JJ,Bu,Q6,UV,UN,JE,Lq (iK .u64) d]) (by simp only[dd,ek,ug,Nat.beq,zC,zD,nD,y3,v6,FS,O0,UW,QC,By,Bz,Ca,V2,JJ,Bu,Q6,UV,UN,JE,Lq (iK .u64) d])) NZ ?_;obtain⟨l,i,O⟩:=aJ O;refine go ?_;refine aM rfl (pC (qpx n c l i) _) YI ?_;exact gx O;intro p z9 b O;unfold dr at O;refine gF O ?_ ?_<;>intro o O;refine go ?_;apply cK;obtain⟨m,j,f,k,q,e,O⟩:=nJ O;refine go ?_;refine dE [] ?_;refine gd ?_;refine dQ j ?_;refine gd ?_;refine dQ k ?_;refine gd ?_;refine aQ rfl (xV rfl rfl (z2w _ _ _) rfl) (aQ rfl (cV rfl rfl (rP gS.h (aV mT.h) rfl e)) (Z2 (u:=.J9) (Y':=⟨[(0,.row (List.map (cI .u64)<|b.set z9.toNat<|N6 .u64 m f).flatten 213)],1⟩) rfl (PX (cI .u64) (aV mT.h) (iK .u64) rfl rfl rfl rfl rfl rfl e rfl) rfl ?_));refine bB ⟨by kernel_rfl,trivial,?_⟩;refine go ?_;exact Wn2 O;refine go ?_;exact n? O
def Ql: V (Int):=
 some (-1)
def Pv(f:X hX)(b:X Int)(f1:hX->(X Int)->V (FK)):Nat->Int->V (Int)
 |0,_=>none|d+1,a=>cond (decide (a<(f.length:Int))) (a8 (aB f a) fun e=>a8 (f1 e b) fun c=>cond c (some a)<|(Pv f b f1 d)<|i64.wrap<|a+1) (Ql)
def w_(f1:hX->(X Int)->V (FK))(n:Nat)(b:X hX)(a:X Int):V (Int):=
 Pv b a f1 n 0
theorem qbr(f1:hX->(X Int)->V (FK))(d:∀(a0:hX)(a:X Int)(r:FK),f1 a0 a=some r->b7 prog 80 [.agg<|hZ a0,.b4 [.O false<|a.map<|cI .u64]] ⟨[],0⟩ (fun u _=>u=.bool r/\aW 0 u))(n:Nat)(p:X hX)(b:X Int)(r:Int)(O:w_ f1 n p b=some r):dB prog 79 [.O false<|p.map hZ,.fn (.func 80) [] [.b4 [.O false<|b.map<|cI .u64]]] (.int .i64 r):=by unfold w_ at O;have c:∀(a0:hX)(a:X Int)(r:FK),f1 a0 a=some r->∀Y,b7 prog 80 [.agg<|hZ a0,.b4 [.iM (cI .u64) a]] Y (fun u i=>u=.bool r/\i=Y):=fun a0 a r h Y=>b7.lG (d a0 a r h) Y;refine eO 19 vn ?_;refine go ?_;refine pM (Pv p b f1) (fun g=>[(0,.iM hZ p),(1,.fn (.func 80) [] [.b4 [.iM (cI .u64) b]]),(7,.i6 (p.length:Int)),(8,.i6 g)]) (fun _=>⟨[],0⟩) (qQ Ql [] ⟨[],0⟩) O (sN ?_) ?_;intro O;unfold Ql at O;exact gx O;intro o g O;unfold Pv at O;refine gF O ?_ ?_<;>intro m O;refine go ?_;apply cK;obtain⟨f,j,e,k,O⟩:=bO O;refine go ?_;refine c8 j ?_;refine go ?_;refine RS.call (u:=.bool e) (args:=[.agg<|hZ f,.b4 [.iM (cI .u64) b]]) rfl (qW rfl rfl vm rfl rfl (rfl)) (c f b e k _) rfl rfl ?_;refine gF O ?_ ?_<;>intro l O;exact gx O;refine go ?_;exact o? O;refine go ?_;exact I! O
def qmo(n:Nat)(c:X Int)(a:Int):V (Int):=
 cond (decide (a<(c.length:Int))) (a8 (aB c a) fun b=>some b) (some 0)
theorem quu(n:Nat)(e:X Int)(a:Int)(r:Int)(O:qmo n e a=some r):dB prog 153 [.O false<|e.map<|cI .u64,.int .i64 a] (.int .u64 r):=by unfold qmo at O;refine eO 13 v02 ?_;refine gF O ?_ ?_<;>intro c O;obtain⟨d,b,O⟩:=aJ O;refine go ?_;refine c8 b ?_;exact gx O;exact gx O
def H!: V (FK):=
 some true
def oo(f:X Int)(b:X Int)(n:Nat):Nat->Int->V (FK)
 |0,_=>none|c+1,a=>cond (decide (a<(f.length:Int))) (a8 (aB f a) fun e=>a8 (qmo n b a) fun d=>cond ((Cf .u64 e d) != 0) (some false)<|(oo f b n c)<|i64.wrap<|a+1) (H!)
def Oe(n:Nat)(b:X Int)(a:X Int):V (FK):=
 oo b a n n 0
theorem qiy(n:Nat)(j:X Int)(a:X Int)(r:FK)(O:Oe n j a=some r):dB prog 112 [.O false<|j.map<|cI .u64,.O false<|a.map<|cI .u64] (.bool r):=by unfold Oe at O;refine eO 21 M8 ?_;refine go ?_;refine pM (oo j a n) (fun b=>[(1,.iM (cI .u64) a),(7,.iM (cI .u64) j),(8,.i6 (j.length:Int)),(9,.i6 b)]) (fun _=>⟨[],0⟩) (qQ H! [] ⟨[],0⟩) O (sN ?_) ?_;intro O;unfold H! at O;exact gx O;intro h b O;unfold oo at O;refine gF O ?_ ?_<;>intro g O;refine go ?_;apply cK;obtain⟨i,c,O⟩:=aJ O;refine go ?_;refine c8 c ?_;obtain⟨e,d,O⟩:=aJ O;refine go ?_;refine aM rfl (pC (quu n a b e d) _) v02 (aS rfl (xV rfl rfl (qt7 _ _ _) rfl) ?_);refine gF O ?_ ?_<;>intro f O;exact gx O;refine go ?_;exact o? O;refine go ?_;exact I! O
def We(n:Nat)(e:X Int)(a:X Int):V (FK):=
 a8 (a8 (Oe n e a) fun c=>cond c (a8 (Oe n a e) fun d=>some d)<|some false) fun b=>some b
theorem qsf(n:Nat)(i:X Int)(b:X Int)(r:FK)(O:We n i b=some r):dB prog 81 [.O false<|i.map<|cI .u64,.O false<|b.map<|cI .u64] (.bool r):=by unfold We at O;refine eO 13 vk ?_;obtain⟨c,a,O⟩:=aJ O;refine gr ?_;refine lD [(4,.bool c)] ⟨[],0⟩ ?_ ?_;exact gx O;obtain⟨g,d,a⟩:=aJ a;refine go ?_;refine aM rfl (pC (qiy n i b g d) _) M8 ?_;refine go ?_;obtain⟨e,a⟩|⟨e,a⟩:=gB a;obtain⟨h,f,a⟩:=aJ a;obtain rfl:=sI a;refine go ?_;refine aM rfl (pC (qiy n b i h f) _) M8 ?_;refine go ?_;exact m8;exact gy a
def Od(n:Nat)(c:hX)(a:X Int):V (FK):=
 a8 (We n c.Code a) fun b=>some b
theorem qqe(n:Nat)(d:hX)(a:X Int)(r:FK)(O:Od n d a=some r):dB prog 80 [.agg<|hZ d,.b4 [.O false<|a.map<|cI .u64]] (.bool r):=by unfold Od at O;refine eO 8 vm ?_;obtain⟨c,b,O⟩:=aJ O;refine go ?_;refine aM rfl (pC (qsf n d.Code a c b) _) vk ?_;exact gx O
def FY(n:Nat)(g:cR)(c:Int)(d:Int):V (Int×FK):=
 a8 (aB g.Types c) fun e=>
 a8 (aB g.Types d) fun f=>
 a8 (Vj n e.Code f.Code) fun a=>cond ((a.length:Int)==0) (some (0,false)) (a8 (w_ (Od n) n g.Types a) fun b=>cond (decide (b<0)) (some (0,false))<|some (b,true))
theorem qn8(n:Nat)(o:cR)(c:Int)(d:Int)(r:Int×FK)(O:FY n o c d=some r):dB prog 53 [.agg<|fK o,.int .i64 c,.int .i64 d] (.a7 [.int .i64 r.1,.bool r.2]):=by unfold FY at O;refine w4 33 Ix ?_;obtain⟨j,a,k,b,e,g,O⟩:=nJ O;refine go ?_;refine dE [(0,13),(1,13),(2,13),(3,13),(4,13),(5,13),(6,13),(7,13),(8,13),(9,13),(10,13),(11,13)] ?_;refine gd ?_;refine dQ a ?_;refine gd ?_;refine dQ b ?_;refine gd ?_;refine dN rfl (pC<|qzi n j.Code k.Code e g) vp ?_;refine dM ?_;refine qB ?_;refine bB ⟨by kernel_rfl,⟨oW uV.h rfl (aV Fw.h) rfl rfl rfl,⟨uE IY.h rfl rfl rfl rfl,⟨jA rfl,⟨cV rfl rfl (Lz hZ IY.h (aV KT.h) qkq a rfl),⟨E? J1.h rfl (aV qX.h) rfl rfl,⟨Ug gS.h rfl rfl rfl,⟨oW uV.h rfl (aV Fw.h) rfl rfl rfl,⟨uE IY.h rfl rfl rfl rfl,⟨jA rfl,⟨cV rfl rfl (Lz hZ IY.h (aV KT.h) qkq b rfl),⟨E? J1.h rfl (aV qX.h) rfl rfl,⟨Ug gS.h rfl rfl rfl,trivial⟩⟩⟩⟩⟩⟩⟩⟩⟩⟩⟩⟩,?_⟩;refine gF O ?_ ?_<;>intro m O;refine go ?_;obtain rfl:=sI O;exact BI rfl rfl rfl rfl rfl;obtain⟨i,f,O⟩:=aJ O;refine go ?_;refine aS rfl (Lx rfl rfl) (aM rfl (vw (qbr (Od n) (qqe n) n o.Types e i f)<|sO 1 1) vn ?_);refine gF O ?_ ?_<;>intro l O;refine go ?_;obtain rfl:=sI O;exact BI rfl rfl rfl rfl rfl;refine go ?_;obtain rfl:=sI O;exact BI rfl rfl rfl rfl rfl
end Go.Proofs
namespace Go.Proofs
open Go Go.Rx Go.Vx Tryz
instance:mm prog tb:=⟨bQ⟩
structure rX where
 Kind:Int
 A:Int
 B:Int
 F:az
def qH(x:rX):X U:=[.int .i64 x.Kind,.int .i64 x.A,.int .i64 x.B,.O false<|x.F.D9.map bA]
theorem qwu(n:Nat)(x:rX):aH n (qH x):=by simp only[qH,aH,aW,dG,cO];exact tF _ (fun q=>y5 _ q) _
theorem z81(x:rX):(qH x).length=4:=rfl
instance:gX qH 4:=⟨z81⟩
instance:BF qH:=⟨qwu⟩
instance(n:Nat)(x:rX):jQ n (qH x):=⟨qwu n x⟩
structure rQ where
 H:cR
 L:X az
def jY(x:rQ):X U:=[.O false<|x.H.Types.map hZ,.O false<|x.H.E6.map jC,.O false<|x.L.map eY]
theorem qzh(n:Nat)(x:rQ):aH n (jY x):=by simp only[jY,aH,aW,dG,cO];exact⟨tF _ (fun q=>Nt _ q) _,tF _ (fun q=>Xn _ q) _,tF _ (fun q=>Vk _ q) _⟩
theorem qzy(x:rQ):(jY x).length=3:=rfl
instance:gX jY 3:=⟨qzy⟩
instance(priority:=low){x:rQ}{o:Nat}{cs q:X U}[s:MQ [.O false<|x.H.Types.map hZ,.O false<|x.H.E6.map jC,.O false<|x.L.map eY] o cs q]:MQ (jY x) o cs q:=⟨s.h⟩
instance(priority:=low){x:rQ}{o k:Nat}{cs:X U}[s:IQ [.O false<|x.H.Types.map hZ,.O false<|x.H.E6.map jC,.O false<|x.L.map eY] o k cs]:IQ (jY x) o k cs:=⟨s.h⟩
instance(n:Nat)(x:rQ):jQ n (jY x):=⟨qzh n x⟩
structure fB where
 E0:Int
 E1:Int
def mG(x:fB):X U:=[.int .i64 x.E0,.int .i64 x.E1]
instance{a0:Int}{a:Int}:gf mG [.int .i64 a0,.int .i64 a] (fB.mk a0 a):=⟨rfl⟩
theorem qut(n:Nat)(x:fB):aH n (mG x):=by simp only[mG,aH,aW,dG,cO]
theorem FZ(x:fB):(mG x).length=2:=rfl
instance:gX mG 2:=⟨FZ⟩
instance:BF mG:=⟨qut⟩
instance bd35:w8 tb 35 [.J,.J,.J] [(0,2),(2,1)]:=⟨xH uU.h tI.h rfl ag⟩
abbrev vT(a)(b:Nat)(c:B)(d):=([(2,.bv mG a 58 2 b),(1,c),(0,.bv (cI .i64) d 3 1 0)]:X (Nat×B))
abbrev Nb(a)(b)(c:B):=([(2,.row [.iM bA a] 39),(1,.row [.iM bA b] 39),(0,c)]:X (Nat×B))
abbrev Ch(a):=([(1,.bv (cI .i64) a 3 1 0),(0,.row [] 3)]:X (Nat×B))
abbrev Na(a)(b:Nat):=([(1,.bv bA a 79 2 b),(0,.row [] 79)]:X (Nat×B))
def Pm(n:Nat): V (cR):=
 a8 (Xi n) fun b=>
 a8 (R3 n b) fun a=>some (cR.mk a.1.Types a.1.E6)
def rz(n:Nat)(b:X bG):V (cR):=
 cond (decide ((b.length:Int)<=12)) (a8 (R3 n b) fun a=>cond (a.2==0) (some<|cR.mk a.1.Types a.1.E6)<|Pm n) (Pm n)
theorem qkp(n:Nat)(k:X bG)(r:cR)(O:rz n k=some r):dB prog 9 [.O false<|k.map bM] (.agg<|fK r):=by unfold rz at O;refine mJ 24 fn9 ?_;refine gr ?_;refine gr ?_;refine u6 (fun g Y=>Pm n=some r/\g=fr 24 [(2,.ptr 0 0 0)]/\Y=⟨[(0,.row [.J,.J] 27)],1⟩) ?_ ?_;rintro _ _ ⟨O,rfl,rfl⟩;unfold Pm at O;obtain⟨a,b,e,c,O⟩:=bO O;refine go ?_;refine aM rfl (pC (qnw n a b) _) yr (aM rfl (pC (g' n a e c) _) T6 ?_);refine go ?_;obtain rfl:=sI O;exact rT (nK (kR uV.h rfl (aV DD.h) rfl rfl rfl)<|dU)<|w9 _ rfl;refine cF O ?_ ?_<;>intro i O;obtain⟨f,d,O⟩:=aJ O;refine go ?_;refine aM rfl (pC (g' n k f d) _) T6 ?_;refine gF O ?_ ?_<;>intro j O;refine go ?_;obtain rfl:=sI O;exact rT (nK (kR uV.h rfl (aV DD.h) rfl rfl rfl)<|dU)<|w9 _ rfl;refine go ?_;exact xC ⟨O,rfl,rfl⟩;refine go ?_;exact xC ⟨O,rfl,rfl⟩
def io: V (FK):=
 some true
def Ox(c:az):Nat->Int->V (FK)
 |0,_=>none|a+1,z5=>cond (decide (z5<(c.D9.length:Int))) (a8 (aB c.D9 z5) fun b=>cond (decide ((b.E4.length:Int)>12)) (some false)<|(Ox c a)<|i64.wrap<|z5+1) (io)
def Wl(n:Nat)(a:az):V (FK):=
 cond (decide ((a.D9.length:Int)>12)) (some false) (Ox a n 0)
theorem qrh(n:Nat)(h:az)(r:FK)(O:Wl n h=some r):dB prog 41 [.agg [.O false<|h.D9.map bA]] (.bool r):=by unfold Wl at O;refine mJ 23 ym ?_;refine gF O ?_ ?_<;>intro c O;exact gx O;refine go ?_;refine gL (fun m a Y=>∃z5,Ox h m z5=some r/\a=fr 23 [(1,.ptr 0 0 0),(3,.i6 z5)]/\Y=⟨[(0,.row [.iM bA h.D9] 39)],1⟩) (fun a Y=>io=some r/\a=fr 23 []/\Y=⟨[(0,.row [.iM bA h.D9] 39)],1⟩) n ⟨0,O,rfl,rfl⟩ ?_ ?_;rintro _ _ ⟨O,rfl,rfl⟩;unfold io at O;exact gx O;rintro(_|f) _ _ ⟨z5,O,rfl,rfl⟩;cases O;unfold Ox at O;refine gF O ?_ ?_<;>intro d O;refine go ?_;apply cK;obtain⟨g,b,O⟩:=aJ O;refine go ?_;refine c8 b ?_;refine gF O ?_ ?_<;>intro e O;exact gx O;refine go ?_;exact lC ⟨_,O,rfl,rfl⟩;refine go ?_;exact xC ⟨O,rfl,rfl⟩
def fe(b:Int)(a:Int->V (Int)): V (Int):=
 a (i64.wrap<|b+1)
def Oo(g:X aI)(a:Int)(c:Int->V (Int)):Nat->Int->V (Int)
 |0,_=>none|e+1,b=>cond (decide (b<a)) (a8 (aB g b) fun d=>a8 (aB g a) fun f=>cond (d.E2==f.E2) (some 4)<|(Oo g a c e)<|i64.wrap<|b+1) (fe a c)
def ff: V (Int):=
 some 0
def QY(h:X aI)(c:Int)(n:Nat):Nat->Int->V (Int)
 |0,_=>none|d+1,a=>cond (decide (a<(h.length:Int))) (a8 (a8 (aB h a) fun f=>cond (decide (f.E2<0)) (some true)<|a8 (aB h a) fun e=>cond (decide (e.To<0)) (some true)<|a8 (aB h a) fun g=>some<|decide (g.To>=c)) fun b=>cond b (some 2)<|Oo h a (QY h c n d) n 0) (ff)
def ao(n:Nat)(b:X aI)(a:Int):V (Int):=
 QY b a n n 0
theorem qu2(n:Nat)(B:X aI)(b:Int)(r:Int)(O:ao n B b=some r):dB prog 140 [.O false<|B.map aU,.int .i64 b] (.int .i64 r):=by unfold ao at O;refine eO 52 Y3 ?_;refine go ?_;refine gL (fun m c Y=>∃d,QY B b n m d=some r/\c=fr 52 [(0,.iM aU B),(1,.i6 b),(5,.i6 d)]/\Y=⟨[],0⟩) (fun c Y=>ff=some r/\c=fr 52 []/\Y=⟨[],0⟩) n ⟨0,O,rfl,rfl⟩ ?_ ?_;rintro _ _ ⟨O,rfl,rfl⟩;unfold ff at O;exact gx O;rintro(_|g) _ _ ⟨d,O,rfl,rfl⟩;cases O;unfold QY at O;refine gF O ?_ ?_<;>intro t O;refine go ?_;apply cK;obtain⟨e,a,O⟩:=aJ O;refine gn ?_;refine u6 (fun c Y=>c=fr 52 [(0,.iM aU B),(1,.i6 b),(5,.i6 d),(35,.bool e)]/\Y=⟨[],0⟩) ?_ ?_;rintro _ _ ⟨rfl,rfl⟩;refine gF O ?_ ?_<;>intro s O;exact gx O;refine go ?_;refine gL (fun m c Y=>∃f,Oo B d (QY B b n g) m f=some r/\c=fr 52 [(0,.iM aU B),(1,.i6 b),(5,.i6 d),(6,.i6 f)]/\Y=⟨[],0⟩) (fun c Y=>fe d (QY B b n g)=some r/\c=fr 52 [(0,.iM aU B),(1,.i6 b),(5,.i6 d)]/\Y=⟨[],0⟩) n ⟨0,O,rfl,rfl⟩ ?_ ?_;rintro _ _ ⟨O,rfl,rfl⟩;unfold fe at O;refine go ?_;exact lC ⟨_,O,rfl,rfl⟩;rintro(_|u) _ _ ⟨f,O,rfl,rfl⟩;cases O;unfold Oo at O;refine gF O ?_ ?_<;>intro w O;refine go ?_;apply cK;obtain⟨q,o,x,p,O⟩:=bO O;refine go ?_;refine dE [] ?_;refine gd ?_;refine dQ o ?_;refine gd ?_;refine dQ p ?_;refine gd ?_;refine bB ⟨by kernel_rfl,trivial,?_⟩;refine gF O ?_ ?_<;>intro y O;exact gx O;refine go ?_;exact lC ⟨_,O,rfl,rfl⟩;refine go ?_;exact xC ⟨O,rfl,rfl⟩;obtain⟨z,k,a⟩:=aJ a;refine go ?_;refine c8 k ?_;refine go ?_;obtain⟨i,a⟩|⟨i,a⟩:=gB a;exact gy a;obtain⟨v,j,a⟩:=aJ a;refine go ?_;refine c8 j ?_;refine go ?_;obtain⟨h,a⟩|⟨h,a⟩:=gB a;exact gy a;obtain⟨A,l,a⟩:=aJ a;obtain rfl:=sI a;refine go ?_;refine c8 l ?_;refine go ?_;exact xC ⟨rfl,rfl⟩;refine go ?_;exact xC ⟨O,rfl,rfl⟩
def fb: V (Int):=
 some 0
def On(f:az)(n:Nat):Nat->Int->V (Int)
 |0,_=>none|c+1,a=>cond (decide (a<(f.D9.length:Int))) (a8 (aB f.D9 a) fun e=>cond (decide (e.R<0)) (some 2)<|a8 (aB f.D9 a) fun d=>a8 (ao n d.E4 (f.D9.length:Int)) fun b=>cond (b != 0) (some b)<|(On f n c)<|i64.wrap<|a+1) (fb)
def Vu(n:Nat)(a:az):V (Int):=
 cond ((a.D9.length:Int)==0) (some 1) (cond (decide ((a.D9.length:Int)>4096)) (some 7)<|On a n n 0)
theorem qu3(n:Nat)(q:az)(r:Int)(O:Vu n q=some r):dB prog 100 [.agg [.O false<|q.D9.map bA]] (.int .i64 r):=by unfold Vu at O;refine mJ 40 YN ?_;refine gF O ?_ ?_<;>intro i O;exact gx O;refine gF O ?_ ?_<;>intro j O;exact gx O;refine go ?_;refine gL (fun m a Y=>∃b,On q n m b=some r/\a=fr 40 [(1,.ptr 0 0 0),(3,.i6 b)]/\Y=⟨[(0,.row [.iM bA q.D9] 39)],1⟩) (fun a Y=>fb=some r/\a=fr 40 []/\Y=⟨[(0,.row [.iM bA q.D9] 39)],1⟩) n ⟨0,O,rfl,rfl⟩ ?_ ?_;rintro _ _ ⟨O,rfl,rfl⟩;unfold fb at O;exact gx O;rintro(_|o) _ _ ⟨b,O,rfl,rfl⟩;cases O;unfold On at O;refine gF O ?_ ?_<;>intro k O;refine go ?_;apply cK;obtain⟨p,d,O⟩:=aJ O;refine go ?_;refine c8 d ?_;refine gF O ?_ ?_<;>intro h O;exact gx O;obtain⟨g,c,f,e,O⟩:=bO O;refine go ?_;refine dE [] ?_;refine gd ?_;refine dQ c ?_;refine gd ?_;refine dN rfl (pC<|qu2 n g.E4 (q.D9.length:Int) f e) Y3 ?_;refine gd ?_;refine bB ⟨by kernel_rfl,trivial,?_⟩;refine gF O ?_ ?_<;>intro l O;exact gx O;refine go ?_;exact lC ⟨_,O,rfl,rfl⟩;refine go ?_;exact xC ⟨O,rfl,rfl⟩
def Wm(n:Nat)(c:az):V (az×Int):=
 a8 (Vu n c) fun a=>cond (a != 0) (some ((az.mk []),a)) (a8 (Nr n c 0) fun b=>some (b,0))
theorem qrf(n:Nat)(f:az)(r:az×Int)(O:Wm n f=some r):dB prog 63 [.agg [.O false<|f.D9.map bA]] (.a7 [.agg [.O false<|r.1.D9.map bA],.int .i64 r.2]):=by unfold Wm at O;refine mJ 13 yd ?_;obtain⟨a,b,O⟩:=aJ O;refine go ?_;refine aM rfl (pC (qu3 n f a b) _) YN ?_;refine gF O ?_ ?_<;>intro e O;refine go ?_;obtain rfl:=sI O;exact rT (us:=[.agg [.J],.i6 a]) (u:=.a7 [.agg [.O false []],.i6 a]) (nK (kR fH.h rfl (aV fZ.h) rfl rfl rfl)<|dP rfl (dU)) wR;obtain⟨d,c,O⟩:=aJ O;refine go ?_;refine aM rfl (pC (qlj n f 0 d c) _) MB ?_;refine go ?_;obtain rfl:=sI O;exact rT (nK (kR fH.h rfl (aV fZ.h) rfl rfl rfl)<|dP rfl (dU)) (w9 _ rfl)
def ip(b:Int)(a:Int->V (Int)): V (Int):=
 a (i64.wrap<|b+1)
def Oy(g:cR)(d:Int)(c:Int->V (Int))(b:aK):Nat->Int->V (Int)
 |0,_=>none|e+1,a=>cond (decide (a<(b.E4.length:Int))) (a8 (aB b.E4 a) fun f=>cond (decide (f.E2>=(g.E6.length:Int))) (some 2)<|(Oy g d c b e)<|i64.wrap<|a+1) (ip d c)
def Oz(b:az)(n:Nat)(c:az×Int): V (Int):=
 a8 (O7 n b<|az.mk c.1.D9) fun a=>cond (!a) (some 3) (some 0)
def VL(f:cR)(a:az)(n:Nat)(d:az×Int):Nat->Int->V (Int)
 |0,_=>none|e+1,b=>cond (decide (b<(a.D9.length:Int))) (a8 (aB a.D9 b) fun c=>cond (decide (c.R>=(f.Types.length:Int))) (some 2)<|Oy f b (VL f a n d e) c n 0) (Oz a n d)
def Ny(n:Nat)(c:cR)(b:az):V (Int):=
 a8 (Wm n b) fun a=>cond (a.2 != 0) (some a.2) (VL c b n a n 0)
theorem qrg(n:Nat)(x:cR)(a:az)(r:Int)(O:Ny n x a=some r):dB prog 42 [.agg<|fK x,.agg [.O false<|a.D9.map bA]] (.int .i64 r):=by unfold Ny at O;refine eO 57 yl ?_;obtain⟨b,j,O⟩:=aJ O;refine go ?_;refine aM rfl (pC (qrf n a b j) _) yd ?_;refine gF O ?_ ?_<;>intro p O;exact gx O;refine go ?_;refine gL (fun m d Y=>∃c,VL x a n b m c=some r/\d=fr 57 [(2,.ptr 0 0 0),(3,.ptr 1 0 0),(5,.ptr 2 0 0),(7,.i6 c)]/\Y=⟨Nb b.1.D9 a.D9<|.row (fK x) 27,3⟩) (fun d Y=>Oz a n b=some r/\d=fr 57 [(3,.ptr 1 0 0),(5,.ptr 2 0 0)]/\Y=⟨Nb b.1.D9 a.D9<|.row (fK x) 27,3⟩) n ⟨0,O,rfl,rfl⟩ ?_ ?_;rintro _ _ ⟨O,rfl,rfl⟩;unfold Oz at O;obtain⟨i,h,O⟩:=aJ O;refine go ?_;refine aM rfl (pC (Xg n a (az.mk b.1.D9) i h) _) GO ?_;refine gF O ?_ ?_<;>intro q O;exact gx O;exact gx O;rintro(_|g) _ _ ⟨c,O,rfl,rfl⟩;cases O;unfold VL at O;refine gF O ?_ ?_<;>intro s O;refine go ?_;apply cK;obtain⟨f,k,O⟩:=aJ O;refine go ?_;refine c8 k ?_;refine gF O ?_ ?_<;>intro o O;exact gx O;refine go ?_;refine gL (fun m d Y=>∃e,Oy x c (VL x a n b g) f m e=some r/\d=fr 57 [(2,.ptr 0 0 0),(3,.ptr 1 0 0),(5,.ptr 2 0 0),(7,.i6 c),(8,.ptr 3 0 0),(9,.i6 e)]/\Y=⟨(3,.row (bA f) 79)::Nb b.1.D9 a.D9 (.row (fK x) 27),4⟩) (fun d Y=>ip c (VL x a n b g)=some r/\d=fr 57 [(2,.ptr 0 0 0),(3,.ptr 1 0 0),(5,.ptr 2 0 0),(7,.i6 c)]/\Y=⟨(3,.row (bA f) 79)::Nb b.1.D9 a.D9 (.row (fK x) 27),4⟩) n ⟨0,O,rfl,rfl⟩ ?_ ?_;rintro _ _ ⟨O,rfl,rfl⟩;unfold ip at O;refine go ?_;exact lC ⟨_,O,rfl,rfl⟩;rintro(_|t) _ _ ⟨e,O,rfl,rfl⟩;cases O;unfold Oy at O;refine gF O ?_ ?_<;>intro v O;refine go ?_;apply cK;obtain⟨w,l,O⟩:=aJ O;refine go ?_;refine dE [] ?_;refine gd ?_;refine dQ l ?_;refine gd ?_;refine bB ⟨by kernel_rfl,trivial,?_⟩;refine gF O ?_ ?_<;>intro u O;exact gx O;refine go ?_;exact lC ⟨_,O,rfl,rfl⟩;refine go ?_;exact xC ⟨O,rfl,rfl⟩;refine go ?_;exact xC ⟨O,rfl,rfl⟩
def ie: V (FK):=
 some true
def Ou(h:cR)(b:X az)(n:Nat):Nat->Int->V (FK)
 |0,_=>none|e+1,c=>cond (decide (c<(b.length:Int))) (a8 (aB b c) fun a=>a8 (a8 (Wl n a) fun d=>cond (!d) (some true)<|a8 (Ny n h a) fun f=>some<|f != 0) fun g=>cond g (some false)<|(Ou h b n e)<|i64.wrap<|c+1) (ie)
def da(n:Nat)(b:cR)(a:X az):V (FK):=
 Ou b a n n 0
theorem qt8(n:Nat)(s:cR)(b:X az)(r:FK)(O:da n s b=some r):dB prog 17 [.agg<|fK s,.O false<|b.map eY] (.bool r):=by unfold da at O;refine eO 23 yx ?_;refine go ?_;refine gL (fun m d Y=>∃e,Ou s b n m e=some r/\d=fr 23 [(2,.ptr 0 0 0),(7,.iM eY b),(8,.i6 (b.length:Int)),(9,.i6 e)]/\Y=⟨[(0,.row (fK s) 27)],1⟩) (fun d Y=>ie=some r/\d=fr 23 []/\Y=⟨[(0,.row (fK s) 27)],1⟩) n ⟨0,O,rfl,rfl⟩ ?_ ?_;rintro _ _ ⟨O,rfl,rfl⟩;unfold ie at O;exact gx O;rintro(_|q) _ _ ⟨e,O,rfl,rfl⟩;cases O;unfold Ou at O;refine gF O ?_ ?_<;>intro o O;refine go ?_;apply cK;obtain⟨c,i,O⟩:=aJ O;refine go ?_;refine c8 i ?_;obtain⟨l,a,O⟩:=aJ O;refine gn ?_;refine u6 (fun d Y=>d=fr 23 [(2,.ptr 0 0 0),(7,.iM eY b),(8,.i6 (b.length:Int)),(9,.i6 e),(21,.bool l)]/\Y=⟨[(1,.row [.iM bA c.D9] 39),(0,.row (fK s) 27)],2⟩) ?_ ?_;rintro _ _ ⟨rfl,rfl⟩;refine gF O ?_ ?_<;>intro p O;exact gx O;refine go ?_;exact lC ⟨_,O,rfl,rfl⟩;obtain⟨g,f,a⟩:=aJ a;refine go ?_;refine aM rfl (pC (qrh n c g f) _) ym ?_;refine go ?_;obtain⟨h,a⟩|⟨h,a⟩:=gB a;exact gy a;obtain⟨k,j,a⟩:=aJ a;obtain rfl:=sI a;refine go ?_;refine aM rfl (pC (qrg n s c k j) _) yl ?_;refine go ?_;exact xC ⟨rfl,rfl⟩;refine go ?_;exact xC ⟨O,rfl,rfl⟩
def om(a:X rX): V (FK):=
 some (decide ((a.length:Int)<=16))
def Dm(f:cR)(a:X rX)(n:Nat):Nat->Int->V (FK)
 |0,_=>none|c+1,z9=>cond (decide (z9<(a.length:Int))) (a8 (aB a z9) fun b=>a8 (cond (b.Kind==0) (cond (decide ((b.F.D9.length:Int)>6)) (some true)<|a8 (da n f<|[b.F]) fun d=>some<|!d)<|some false) fun e=>cond e (some false)<|(Dm f a n c)<|i64.wrap<|z9+1) (om a)
def OK(n:Nat)(b:cR)(a:X rX):V (FK):=
 Dm b a n n 0
theorem qqi(n:Nat)(q:cR)(b:X rX)(r:FK)(O:OK n q b=some r):dB prog 10 [.agg<|fK q,.O false<|b.map qH] (.bool r):=by
 unfold OK at O;refine eO 35 lh ?_;refine go ?_;refine gL (fun m c Y=>∃z9,Dm q b n m z9=some r/\c=fr 35 [(1,.iM qH b),(2,.ptr 0 0 0),(7,.iM qH b),(8,.i6 (b.length:Int)),(9,.i6 z9)]/\Y=⟨[(0,.row (fK q) 27)],1⟩) (fun c Y=>om b=some r/\c=fr 35 [(1,.iM qH b)]/\Y=⟨[(0,.row (fK q) 27)],1⟩) n ⟨0,O,rfl,rfl⟩ ?_ ?_;rintro _ _ ⟨O,rfl,rfl⟩;unfold om at O;exact gx O;rintro(_|p) _ _ ⟨z9,O,rfl,rfl⟩;cases O;unfold Dm at O;refine gF O ?_ ?_<;>intro l O;refine go ?_;apply cK;obtain⟨d,f,O⟩:=aJ O;refine go ?_;refine c8 f ?_;obtain⟨k,a,O⟩:=aJ O;refine gn ?_;refine u6 (fun c Y=>c=fr 35 [(1,.iM qH b),(2,.ptr 0 0 0),(7,.iM qH b),(8,.i6 (b.length:Int)),(9,.i6 z9),(30,.bool k)]/\Y=⟨[(1,.row (qH d) 41),(0,.row (fK q) 27)],2⟩) ?_ ?_;rintro _ _ ⟨rfl,rfl⟩;refine gF O ?_ ?_<;>intro o O;exact gx O;refine go ?_;exact lC ⟨_,O,rfl,rfl⟩;refine go ?_;obtain⟨e,a⟩|⟨e,a⟩:=gB a;refine go ?_;obtain⟨g,a⟩|⟨g,a⟩:=gB a;exact gy a;obtain⟨j,i,a⟩:=aJ a;obtain rfl:=sI a;refine go ?_;refine RS.w (u:=.agg [.iM bA d.F.D9]) rfl (kR fH.h rfl (aV fZ.h) rfl rfl (rfl)) ?_;refine bP ?_;refine aM rfl (vw (qt8 n q ([d.F]) j i)<|sO 2 1) yx ?_;refine go ?_;exact xC ⟨rfl,rfl⟩;obtain rfl:=sI a;refine go ?_
 repeat refine RS.no (HI rfl rfl rfl) rfl rfl ?_
 refine go ?_;exact xC ⟨rfl,rfl⟩;refine go ?_;exact xC ⟨O,rfl,rfl⟩
def qu6(n:Nat)(a:cR):V (rQ):=
 some (rQ.mk a [])
theorem qw5(n:Nat)(a:cR)(r:rQ)(O:qu6 n a=some r):dB prog 13 [.agg<|fK a] (.agg<|jY r):=by unfold qu6 at O;refine mJ 5 yz ?_;refine go ?_;refine aS (u:=.agg [.iM hZ a.Types,.iM jC a.E6,.J]) rfl (gv bd35.h rfl rfl (rfl)) ?_;refine go ?_;obtain rfl:=sI O;exact rT (us:=[.agg [.iM hZ a.Types,.iM jC a.E6,.J]]) (u:=.agg [.iM hZ a.Types,.iM jC a.E6,.O false []]) (nK (kR uU.h rfl (aV tI.h) rfl rfl rfl)<|dU) wR
def Nk(n:Nat)(b:rQ)(a:az):V (rQ×Int):=
 aE (b.L.length*24<=140737488355328/\b.L.length<=140737488355328) (
 aE ((b.L.length+([a]).length)*24<=140737488355328/\b.L.length+([a]).length<=140737488355328) (some ((rQ.mk b.H<|b.L++[a]),(b.L.length:Int))))
theorem qny(n:Nat)(d:rQ)(a:az)(r:rQ×Int)(O:Nk n d a=some r):dB prog 37 [.agg<|jY d,.agg [.O false<|a.D9.map bA]] (.a7 [.agg<|jY r.1,.int .i64 r.2]):=by unfold Nk at O;refine eO 20 Ja ?_;obtain⟨b,O⟩:=bU O;obtain⟨c,O⟩:=bU O;refine go ?_;refine dE [(1,0),(2,0),(4,0),(4,3)] ?_;refine RD.act (u:=.sl 3 0 0 0) (Y':=⟨[(3,.row [] 39),(2,.row [.J,.J,.J] 35),(1,.row [.iM bA a.D9] 39),(0,.row (jY d) 35)],4⟩) rfl (vQ yP.h fZ.h rfl rfl rfl rfl rfl rfl rfl) rfl rfl ?_;refine gd ?_;refine RD.act (u:=.vl 4 0 0 d.L.length) (Y':=⟨[(4,.bv eY d.L 39 1 0),(3,.row [] 39),(2,.row [.J,.J,.J] 35),(1,.row [.iM bA a.D9] 39),(0,.row (jY d) 35)],5⟩) rfl (qV rfl rfl rfl rfl (Ce eY d.L yP.h yP.h fZ.h rfl rfl rfl (QB eY qxn) b)) rfl rfl ?_;refine gd ?_;refine ux (u:=.iM eY<|[a]) rfl (uY.bs (cs:=[.iM bA a.D9]) yP.h fZ.h rfl rfl rfl rfl rfl rfl rfl rfl rfl) rfl rfl ?_;refine dM ?_;refine gd ?_;refine qB ?_;refine bB ⟨by kernel_rfl,⟨oW uU.h rfl (aV PO.h) rfl rfl rfl,⟨uE yP.h rfl rfl rfl rfl,⟨kR fH.h rfl (aV fZ.h) rfl rfl rfl,⟨kR fH.h rfl (aV fZ.h) rfl rfl rfl,trivial⟩⟩⟩⟩,?_⟩;refine go ?_;obtain rfl:=sI O;exact rT (us:=[.agg [.iM hZ d.H.Types,.iM jC d.H.E6,.vl 4 1 0<|(d.L++[a]).length],.i6 (d.L.length:Int)]) (u:=.a7 [.agg [.iM hZ d.H.Types,.iM jC d.H.E6,.iM eY<|d.L++[a]],.i6 (d.L.length:Int)]) (nK (kR uU.h rfl (aV tI.h) rfl rfl rfl)<|dP rfl (dU)) (fR 4 1)
def JP(n:Nat)(d:rQ)(a:Int):V (az×FK):=
 a8 (cond (decide (a<0)) (some true)<|some<|decide (a>=(d.L.length:Int))) fun b=>cond b (some ((az.mk []),false)) (a8 (aB d.L a) fun c=>some (c,true))
theorem qgs(n:Nat)(j:rQ)(b:Int)(r:az×FK)(O:JP n j b=some r):dB prog 40 [.agg<|jY j,.int .i64 b] (.a7 [.agg [.O false<|r.1.D9.map bA],.bool r.2]):=by unfold JP at O;refine eO 21 T5 ?_;obtain⟨c,a,O⟩:=aJ O;refine gr ?_;refine u6 (fun f Y=>f=fr 21 [(1,.i6 b),(2,.ptr 0 0 0),(4,.ptr 1 0 0),(14,.bool c)]/\Y=⟨[(1,.row [.J] 39),(0,.row (jY j) 35)],2⟩) ?_ ?_;rintro _ _ ⟨rfl,rfl⟩;refine gF O ?_ ?_<;>intro g O;refine go ?_;obtain rfl:=sI O;exact rT (us:=[.agg [.J],.bool false]) (u:=.a7 [.agg [.O false []],.bool false]) (nK (kR fH.h rfl (aV fZ.h) rfl rfl rfl)<|dP rfl (dU)) wR;obtain⟨i,e,O⟩:=aJ O;refine go ?_;refine c8 e ?_;refine go ?_;obtain rfl:=sI O;exact rT (nK (kR fH.h rfl (aV fZ.h) rfl rfl rfl)<|dP rfl (dU))<|w9 _ rfl;refine go ?_;obtain⟨d,a⟩|⟨d,a⟩:=gB a;exact gy a;exact gy a
def Xd(z9:Int)(a:X aK)(b:Int->(X aK)->V ((X aK)))(d:aK)(c:X aI):V ((X aK)):=
 aE ((a.length+1)*32<=140737488355328/\a.length+1<=140737488355328) (
 b (i64.wrap<|z9+1) (a++[(aK.mk d.R c)]))
def Ok(m:X aK)(d:X aK)(z9:Int)(b:X aK)(f:Int->(X aK)->V ((X aK)))(g:aK):Nat->Int->(X aI)->V ((X aK))
 |0,_,_=>none|j+1,c,a=>
  a8 (aB d z9) fun k=>cond (decide (c<(k.E4.length:Int))) (a8 (aB d z9) fun h=>
   a8 (aB h.E4 c) fun i=>
   a8 (aB d z9) fun e=>
   a8 (aB e.E4 c) fun l=>
   aE ((a.length+1)*16<=140737488355328/\a.length+1<=140737488355328) ((Ok m d z9 b f g j) (i64.wrap<|c+1)<|a++[(aI.mk i.E2<|i64.wrap<|l.To+(m.length:Int))])) (Xd z9 b f g a)
def dz  (a:X aK):V ((X aK)):=
 some a
def QX(e:X aK)(b:X aK)(n:Nat):Nat->Int->(X aK)->V ((X aK))
 |0,_,_=>none|c+1,z9,a=>cond (decide (z9<(b.length:Int))) (a8 (aB b z9) fun d=>Ok e b z9 a (QX e b n c) d n 0 ([]:X aI)) (dz a)
def Np(n:Nat)(b:X aK)(a:X aK):V ((X aK)):=
 aE (b.length*32<=140737488355328/\b.length<=140737488355328) (
 QX b a n n 0 b)
theorem qu5(n:Nat)(J:X aK)(d:X aK)(r:(X aK))(O:Np n J d=some r):dB prog 134 [.O false<|J.map bA,.O false<|d.map bA] (.O false<|r.map bA):=by unfold Np at O;refine eO 66 Y8 ?_;obtain⟨s,O⟩:=bU O;refine go ?_;refine aS (u:=.sl 0 0 0 0) (Y':=⟨[(0,.row [] 79)],1⟩) rfl (vQ iR.h nL.h rfl rfl rfl rfl rfl rfl rfl) ?_;refine go ?_;refine aS (u:=.vl 1 0 0 J.length) (Y':=⟨[(1,.bv bA J 79 2 0),(0,.row [] 79)],2⟩) rfl (qV rfl rfl rfl rfl (Ce bA J iR.h iR.h nL.h rfl rfl rfl (QB bA Ns) s)) ?_;refine go ?_;refine gL (fun m f Y=>∃z9 a b,QX J d n m z9 a=some r/\f=fr 66 [(0,.iM bA J),(1,.iM bA d),(5,.vl 1 b 0 a.length),(6,.i6 z9)]/\Y=⟨Na a b,2⟩) (fun f Y=>∃g k,dz g=some r/\f=fr 66 [(5,.vl 1 k 0 g.length)]/\Y=⟨Na g k,2⟩) n ⟨0,J,0,O,rfl,rfl⟩ ?_ ?_;rintro _ _ ⟨g,k,O,rfl,rfl⟩;unfold dz at O;refine go ?_;obtain rfl:=sI O;exact rT (us:=[.vl 1 k 0 g.length]) (u:=.iM bA g) (dP rfl (dU))<|fR 1 2;rintro(_|p) _ _ ⟨z9,a,b,O,rfl,rfl⟩;cases O;unfold QX at O;refine gF O ?_ ?_<;>intro E O;refine go ?_;apply cK;obtain⟨e,x,O⟩:=aJ O;refine go ?_;refine c8 x ?_;refine gr ?_;refine cD (tm':=fr 66 [(0,.iM bA J),(1,.iM bA d),(5,.vl 1 b 0 a.length),(6,.i6 z9),(7,.ptr 2 0 0),(8,.i6 0)]) (Y':=⟨(3,.bv aU ([]:X aI) 105 2 0)::(2,.row [.i6 e.R,.vl 3 0 0<|([]:X aI).length] 79)::Na a b,4⟩) (Gh.trans (xK 2 1 105 2 bF NZ rfl rfl)<|qR ⟨rfl,rfl,rfl,rfl,rfl,rfl,trivial⟩ rfl) NZ ?_;refine gL (fun m f Y=>∃o c j,Ok J d z9 a (QX J d n p) e m o c=some r/\f=fr 66 [(0,.iM bA J),(1,.iM bA d),(5,.vl 1 b 0 a.length),(6,.i6 z9),(7,.ptr 2 0 0),(8,.i6 o)]/\Y=⟨(3,.bv aU c 105 2 j)::(2,.row [.i6 e.R,.vl 3 j 0 c.length] 79)::Na a b,4⟩) (fun f Y=>∃i l,Xd z9 a (QX J d n p) e i=some r/\f=fr 66 [(0,.iM bA J),(1,.iM bA d),(5,.vl 1 b 0 a.length),(6,.i6 z9),(7,.ptr 2 0 0)]/\Y=⟨(3,.bv aU i 105 2 l)::(2,.row [.i6 e.R,.vl 3 l 0 i.length] 79)::Na a b,4⟩) n ⟨0,([]:X aI),0,O,rfl,rfl⟩ ?_ ?_;rintro _ _ ⟨i,l,O,rfl,rfl⟩;unfold Xd at O;refine gn ?_;refine cD (tm':=fr 66 [(0,.iM bA J),(1,.iM bA d),(5,.vl 1 b 0 a.length),(6,.i6 z9),(7,.ptr 2 0 0)]) (Y':=⟨(2,.row [.i6 e.R,.iM aU i] 79)::Na a b,4⟩) (Gh.trans (Gh.sub (l':=[(0,.iM bA J),(1,.iM bA d),(5,.vl 1 b 0 a.length),(6,.i6 z9),(7,.ptr 2 0 0)]) ⟨rfl,rfl,rfl,rfl,rfl,trivial⟩)<|FC 3 2) NZ ?_;obtain⟨I,O⟩:=bU O;refine go ?_;refine bP ?_;refine bP ?_;refine go ?_;exact lC ⟨_,(a++[(aK.mk e.R i)]),(b+1),O,rfl,rfl⟩;rintro(_|F) _ _ ⟨o,c,j,O,rfl,rfl⟩;cases O;unfold Ok at O;obtain⟨G,y,O⟩:=aJ O;refine go ?_;refine c8 y ?_;refine gF O ?_ ?_<;>intro H O;refine go ?_;apply cK;obtain⟨D,q,v,w,B,C,z,A,O⟩:=tD O;obtain⟨t,O⟩:=bU O;refine go ?_;refine dE [(0,24),(1,24)] ?_;refine gd ?_;refine dQ q ?_;refine gd ?_;refine dQ w ?_;refine gd ?_;refine dQ C ?_;refine gd ?_;refine dQ A ?_;refine gd ?_;refine dM ?_;refine dM ?_;refine gd ?_;refine qB ?_;refine bB ⟨by kernel_rfl,⟨oW uS.h rfl (aV iG.h) rfl rfl rfl,⟨uE dL.h rfl rfl rfl rfl,trivial⟩⟩,?_⟩;refine go ?_;exact lC ⟨_,(c++[(aI.mk v.E2<|i64.wrap<|z.To+(J.length:Int))]),(j+1),O,rfl,rfl⟩;refine go ?_;exact xC ⟨c,j,O,rfl,rfl⟩;refine go ?_;exact xC ⟨a,b,O,rfl,rfl⟩
def ik  (a:X Int):V ((X Int)):=
 some a
def Ow(d:Int):Nat->Int->(X Int)->V ((X Int))
 |0,_,_=>none|c+1,b,a=>cond (decide (b<d)) (aE ((a.length+1)*8<=140737488355328/\a.length+1<=140737488355328)<|(Ow d c) (i64.wrap<|b+1)<|a++[b]) (ik a)
def Nx(n:Nat)(a:Int):V ((X Int)):=
 Ow a n 0 ([]:X Int)
theorem qjz(n:Nat)(l:Int)(r:(X Int))(O:Nx n l=some r):b7 prog 137 [.int .i64 l] ⟨[],0⟩ (fun u f=>∃t,u=.vl 0 t 0 r.length/\f=⟨[(0,.bv (cI .i64) r 3 1 t)],0+1⟩):=by unfold Nx at O;refine mJ 15 M3 ?_;refine gr ?_;refine gr ?_;refine gr ?_;refine gV 3 3 1 1 ?_;refine gL (fun m e Y=>∃d c t8,Ow l m d c=some r/\e=fr 15 [(0,.i6 l),(3,.vl 0 t8 0 c.length),(4,.i6 d)]/\Y=⟨[(0,.bv (cI .i64) c 3 1 t8)],1⟩) (fun e Y=>∃b a,ik b=some r/\e=fr 15 [(3,.vl 0 a 0 b.length)]/\Y=⟨[(0,.bv (cI .i64) b 3 1 a)],1⟩) n ⟨0,([]:X Int),0,O,rfl,rfl⟩ ?_ ?_;rintro _ _ ⟨b,a,O,rfl,rfl⟩;unfold ik at O;refine go ?_;obtain rfl:=sI O;exact⟨.inr rfl,[.vl 0 a 0 b.length],dP rfl dU,.vl 0 a 0 b.length,⟨[(0,.bv (cI .i64) b 3 1 a)],1⟩,NZ,Gh.trans (Gh.only fun k=>Nat.beq k 0)<|Gh.to (n1:=1) [] rfl rfl NZ NL jQ.h BH.h,a,rfl,rfl⟩;rintro(_|j) _ _ ⟨d,c,t8,O,rfl,rfl⟩;cases O;unfold Ow at O;refine gF O ?_ ?_<;>intro i O;refine go ?_;apply cK;obtain⟨g,O⟩:=bU O;refine go ?_;refine bP ?_;refine bP ?_;refine go ?_;exact lC ⟨_,(c++[d]),(t8+1),O,rfl,rfl⟩;refine go ?_;exact xC ⟨c,t8,O,rfl,rfl⟩
def oq: V (Int×FK):=
 some (0,false)
def Pd(f:X aI)(b:Int):Nat->Int->V (Int×FK)
 |0,_=>none|c+1,a=>cond (decide (a<(f.length:Int))) (a8 (aB f a) fun e=>cond (e.E2==b) (a8 (aB f a) fun d=>some (d.To,true))<|(Pd f b c)<|i64.wrap<|a+1) (oq)
def dv(n:Nat)(b:X aI)(a:Int):V (Int×FK):=
 Pd b a n 0
theorem qou(n:Nat)(k:X aI)(a:Int)(r:Int×FK)(O:dv n k a=some r):dB prog 164 [.O false<|k.map aU,.int .i64 a] (.a7 [.int .i64 r.1,.bool r.2]):=by unfold dv at O;refine eO 25 XT ?_;refine go ?_;refine gL (fun m b Y=>∃c,Pd k a m c=some r/\b=fr 25 [(0,.iM aU k),(1,.i6 a),(6,.i6 c)]/\Y=⟨[],0⟩) (fun b Y=>oq=some r/\b=fr 25 []/\Y=⟨[],0⟩) n ⟨0,O,rfl,rfl⟩ ?_ ?_;rintro _ _ ⟨O,rfl,rfl⟩;unfold oq at O;refine go ?_;obtain rfl:=sI O;exact BI rfl rfl rfl rfl rfl;rintro(_|h) _ _ ⟨c,O,rfl,rfl⟩;cases O;unfold Pd at O;refine gF O ?_ ?_<;>intro g O;refine go ?_;apply cK;obtain⟨j,e,O⟩:=aJ O;refine go ?_;refine c8 e ?_;refine gF O ?_ ?_<;>intro f O;obtain⟨i,d,O⟩:=aJ O;refine go ?_;refine c8 d ?_;refine go ?_;obtain rfl:=sI O;exact BI rfl rfl rfl rfl rfl;refine go ?_;exact lC ⟨_,O,rfl,rfl⟩;refine go ?_;exact xC ⟨O,rfl,rfl⟩
def Xw(d:Int)(a:Int->(X aI)->(X fB)->V ((X Int)))(c:X aI)(b:X fB):V ((X Int)):=
 a (i64.wrap<|d+1) c b
def Xr(j:X aK)(f:Int)(c:X (X aI))(g:Int->(X fB)->(X<|X aI)->(X Int)->V ((X Int)))(a:Int)(b:Int)(h:X Int)(e:X aI)(d:X fB):V ((X Int)):=
 a8 (gU c 0 ((j.length:Int).toNat)<|if b<a then b else a) fun i=>
 g (i64.wrap<|f+1) d (c.set (if b<a then b else a).toNat e) h
def VJ(s:X aK)(n:Nat)(j:Int)(e:X (X aI))(k:Int->(X fB)->(X<|X aI)->(X Int)->V ((X Int)))(c:Int)(d:Int)(a:Int)(b:Int)(l:X Int):Nat->Int->(X aI)->(X fB)->V ((X Int))
 |0,_,_,_=>none|q+1,h,g,f=>
  a8 (gU e 0 ((s.length:Int).toNat)<|if b>a then b else a) fun m=>cond (decide (h<(m.length:Int))) (a8 (gU e 0 ((s.length:Int).toNat)<|if b>a then b else a) fun o=>
   a8 (aB o h) fun i=>
   a8 (gU e 0 ((s.length:Int).toNat)<|if d<c then d else c) fun r=>
   a8 (dv n r i.E2) fun p=>cond p.2 (aE ((f.length+1)*16<=140737488355328/\f.length+1<=140737488355328) (
    Xw h (VJ s n j e k c d a b l q) g (f++[(fB.mk p.1 i.To)]))) (aE ((g.length+1)*16<=140737488355328/\g.length+1<=140737488355328) (
    Xw h (VJ s n j e k c d a b l q) (g++[i]) f))) (Xr s j e k c d l g f)
def Xv(c:Int)(a:Int->(X Int)->V ((X Int)))(b:X Int):V ((X Int)):=
 a (i64.wrap<|c+1) b
def Xs(k:X aK)(n:Nat)(h:Int)(g:X fB)(f:X (X aI))(i:Int->(X fB)->(X<|X aI)->(X Int)->V ((X Int)))(a:Int)(b:Int)(d:Int)(e:Int)(j:X Int):V ((X Int)):=
 a8 (gU f 0 ((k.length:Int).toNat)<|if b<a then b else a) fun c=>
 aE (c.length*16<=140737488355328/\c.length<=140737488355328) (
 VJ k n h f i a b d e j n 0 c g)
def R9(o:X aK)(n:Nat)(h:Int)(g:X fB)(i:X (X aI))(j:Int->(X fB)->(X<|X aI)->(X Int)->V ((X Int)))(a:Int)(b:Int)(c:Int)(d:Int):Nat->Int->(X Int)->V ((X Int))
 |0,_,_=>none|k+1,f,e=>cond (decide (f<(e.length:Int))) (a8 (aB e f) fun m=>cond (m==(if d>c then d else c)) (a8 (aB e f) fun l=>Xv f (R9 o n h g i j a b c d k)<|e.set (0+f.toNat)<|if b<a then b else a)<|Xv f (R9 o n h g i j a b c d k) e) (Xs o n h g i j a b c d e)
def ij  (b:X fB) (c:X (X aI)) (a:X Int):V ((X Int)):=
 some a
def D3(j:X aK)(n:Nat):Nat->Int->(X fB)->(X<|X aI)->(X Int)->V ((X Int))
 |0,_,_,_,_=>none|e+1,b,a,d,c=>
  cond (decide (b<(a.length:Int))) (a8 (aB a b) fun g=>
   a8 (aB c g.E0) fun x39=>
   a8 (aB a b) fun i=>
   a8 (aB c i.E1) fun x43=>
   a8 (aB a b) fun f=>
   a8 (aB c f.E0) fun x47=>
   a8 (aB a b) fun h=>
   a8 (aB c h.E1) fun x51=>cond ((if x43<x39 then x43 else x39)==(if x51>x47 then x51 else x47)) ((D3 j n e) (i64.wrap<|b+1) a d c)<|R9 j n b a d (D3 j n e) x39 x43 x47 x51 n 0 c) (ij a d c)
def Xu(a:Int)(b:X (X aI))(d:Int->(X fB)->(X<|X aI)->V ((X Int)))(e:aK)(c:X fB):V ((X Int)):=
 d (i64.wrap<|a+1) c (b.set a.toNat e.E4)
def Xt(d:X aK)(n:Nat)(c:X Int)(b:X fB)(a:X (X aI)):V ((X Int)):=
 D3 d n n 0 b a c
def VK(k:X aK)(d:X Int)(n:Nat)(e:X Int):Nat->Int->(X fB)->(X<|X aI)->V ((X Int))
 |0,_,_,_=>none|f+1,a,b,c=>
  cond (decide (a<(k.length:Int))) (a8 (aB k a) fun g=>
   a8 (gU c 0 ((k.length:Int).toNat) a) fun h=>
   a8 (aB d a) fun j=>cond (j != a) (a8 (aB d a) fun i=>
    aE ((b.length+1)*16<=140737488355328/\b.length+1<=140737488355328) (
    Xu a c (VK k d n e f) g (b++[(fB.mk a i)])))<|Xu a c (VK k d n e f) g b) (Xt k n e b c)
def Wj(n:Nat)(c:X aK)(a:X Int):V ((X Int)):=
 a8 (Nx n (c.length:Int)) fun b=>
 aE (0<=(c.length:Int)/\24*(c.length:Int).toNat<=281474976710656/\(c.length:Int)<=281474976710656) (
 VK c a n b n 0 ([]:X fB) (replicate (c.length:Int).toNat []))
theorem qri(n:Nat)(p1:X aK)(I:X Int)(r:(X Int))(O:Wj n p1 I=some r):dB prog 135 [.O false<|p1.map bA,.O false<|I.map<|cI .i64] (.O false<|r.map<|cI .i64):=by unfold Wj at O;refine eO 161 Y7 ?_;obtain⟨l,h4,O⟩:=aJ O;refine go ?_;refine j8 (R:=fun u Y'=>u=.vl 0 0 0 l.length/\Y'=⟨[(0,.bv (cI .i64) l 3 1 0)],1⟩) (args:=[.i6 (p1.length:Int)]) rfl (qW rfl rfl M3 rfl rfl rfl) (uu (cI .i64) (qjz n (p1.length:Int) l h4) _ 0 rfl) rfl rfl ?_;rintro _ _ ⟨rfl,rfl⟩;obtain⟨h5,O⟩:=bU O;refine go ?_;refine aS (u:=.sl 1 0 ((p1.length:Int).toNat)<|(p1.length:Int).toNat) (Y':=⟨[(1,.row (List.map (cL aU)<|replicate (p1.length:Int).toNat []).flatten 77),(0,.bv (cI .i64) l 3 1 0)],2⟩) rfl (Lw (cL aU) [] rfl rfl mN.h iG.h rfl rfl rfl rfl h5) ?_;refine gr ?_;refine gr ?_;refine gV 7 58 2 3 ?_;refine gL (fun m f Y=>∃o A,∃E t,VK p1 I n l m o A t=some r/\f=fr 161 [(0,.iM bA p1),(1,.iM (cI .i64) I),(5,.vl 0 0 0 l.length),(6,.sl 1 0 ((p1.length:Int).toNat)<|(p1.length:Int).toNat),(7,.vl 2 E 0 A.length),(8,.i6 o)]/\Y=⟨vT A E (.row (t.map<|cL aU).flatten 77) l,3⟩) (fun f Y=>∃Z BG fD,Xt p1 n l Z fD=some r/\f=fr 161 [(5,.vl 0 0 0 l.length),(6,.sl 1 0 ((p1.length:Int).toNat)<|(p1.length:Int).toNat),(7,.vl 2 BG 0 Z.length)]/\Y=⟨vT Z BG (.row (fD.map<|cL aU).flatten 77) l,3⟩) n ⟨0,([]:X fB),0,(replicate (p1.length:Int).toNat []),O,rfl,rfl⟩ ?_ ?_;rintro _ _ ⟨Z,BG,fD,O,rfl,rfl⟩;unfold Xt at O;refine go ?_;refine gL (fun m f Y=>∃j g,∃k e F,D3 p1 n m j g e F=some r/\f=fr 161 [(5,.vl 0 0 0 F.length),(6,.sl 1 0 ((p1.length:Int).toNat)<|(p1.length:Int).toNat),(7,.vl 2 k 0 g.length),(9,.i6 j)]/\Y=⟨vT g k (.row (e.map<|cL aU).flatten 77) F,3⟩) (fun f Y=>∃sJ HF,∃tH G,ij sJ tH G=some r/\f=fr 161 [(5,.vl 0 0 0 G.length)]/\Y=⟨vT sJ HF (.row (tH.map<|cL aU).flatten 77) G,3⟩) n ⟨0,Z,BG,fD,l,O,rfl,rfl⟩ ?_ ?_;rintro _ _ ⟨sJ,HF,tH,G,O,rfl,rfl⟩;unfold ij at O;refine go ?_;obtain rfl:=sI O;exact rT (us:=[.vl 0 0 0 G.length]) (u:=.iM (cI .i64) G) (dP rfl (dU))<|fR 0 1;rintro(_|H) _ _ ⟨j,g,k,e,F,O,rfl,rfl⟩;cases O;unfold D3 at O;refine gF O ?_ ?_<;>intro AZ O;refine go ?_;apply cK;obtain⟨jR,m7,a,xD,uP,vB,b,lL,O⟩:=tD O;refine go ?_;refine dE [] ?_;refine gd ?_;refine aQ rfl (cV rfl rfl (gP mG wD.h (aV wP.h) bF FZ (vo rfl) m7)) ?_;refine aQ rfl (cV rfl rfl (FP uT.h (aV eP.h) (EC rfl) bF rfl)) ?_;refine aQ (u:=.i6 jR.E0) rfl (HK mG mZ.h rfl FZ rfl rfl (vR m7) rfl) ?_;refine aQ rfl (cV rfl rfl (gP (cI .i64) bI.h (aV eP.h) bF (iK .i64) (vo rfl) xD)) ?_;refine aQ rfl (o8 (cI .i64) (fun x=>.i6 x) mZ.h rfl (fun _=>rfl) rfl rfl xD) ?_;refine gd ?_;refine aQ rfl (cV rfl rfl (gP mG wD.h (aV wP.h) bF FZ (vo rfl) vB)) ?_;refine aQ rfl (cV rfl rfl (FP uT.h (aV eP.h) (EC rfl) bF rfl)) ?_;refine aQ (u:=.i6 uP.E1) rfl (HK mG mZ.h rfl FZ rfl rfl (vR vB) rfl) ?_;refine aQ rfl (cV rfl rfl (gP (cI .i64) bI.h (aV eP.h) bF (iK .i64) (vo rfl) lL)) ?_;refine aQ rfl (o8 (cI .i64) (fun x=>.i6 x) mZ.h rfl (fun _=>rfl) rfl rfl lL) (aQ (u:=.i6<|if b<a then b else a) rfl (Y? rfl rfl rfl rfl rfl rfl rfl) ?_);refine gd ?_;refine bB ⟨by kernel_rfl,trivial,?_⟩;obtain⟨Lh,Rb,c,Ra,rZ,jw,d,XH,O⟩:=tD O;refine go ?_;refine dE [] ?_;refine gd ?_;refine aQ rfl (cV rfl rfl (gP mG wD.h (aV wP.h) bF FZ (vo rfl) Rb)) ?_;refine aQ rfl (cV rfl rfl (FP uT.h (aV eP.h) (EC rfl) bF rfl)) ?_;refine aQ (u:=.i6 Lh.E0) rfl (HK mG mZ.h rfl FZ rfl rfl (vR Rb) rfl) ?_;refine aQ rfl (cV rfl rfl (gP (cI .i64) bI.h (aV eP.h) bF (iK .i64) (vo rfl) Ra)) ?_;refine aQ rfl (o8 (cI .i64) (fun x=>.i6 x) mZ.h rfl (fun _=>rfl) rfl rfl Ra) ?_;refine gd ?_;refine aQ rfl (cV rfl rfl (gP mG wD.h (aV wP.h) bF FZ (vo rfl) jw)) ?_;refine aQ rfl (cV rfl rfl (FP uT.h (aV eP.h) (EC rfl) bF rfl)) ?_;refine aQ (u:=.i6 rZ.E1) rfl (HK mG mZ.h rfl FZ rfl rfl (vR jw) rfl) ?_;refine aQ rfl (cV rfl rfl (gP (cI .i64) bI.h (aV eP.h) bF (iK .i64) (vo rfl) XH)) ?_;refine aQ rfl (o8 (cI .i64) (fun x=>.i6 x) mZ.h rfl (fun _=>rfl) rfl rfl XH) (aQ (u:=.i6<|if d>c then d else c) rfl (zar rfl rfl rfl rfl rfl rfl rfl) ?_);refine gd ?_;refine bB ⟨by kernel_rfl,trivial,?_⟩;refine gF O ?_ ?_<;>intro h53 O;refine go ?_;exact lC ⟨_,g,k,e,F,O,rfl,rfl⟩;refine go ?_;refine gL (fun m f Y=>∃q p,R9 p1 n j g e (D3 p1 n H) a b c d m q p=some r/\f=fr 161 [(5,.vl 0 0 0 p.length),(6,.sl 1 0 ((p1.length:Int).toNat)<|(p1.length:Int).toNat),(7,.vl 2 k 0 g.length),(9,.i6 j),(10,.i6<|if b<a then b else a),(11,.i6<|if d>c then d else c),(12,.i6 q)]/\Y=⟨vT g k (.row (e.map<|cL aU).flatten 77) p,3⟩) (fun f Y=>∃i,Xs p1 n j g e (D3 p1 n H) a b c d i=some r/\f=fr 161 [(5,.vl 0 0 0 i.length),(6,.sl 1 0 ((p1.length:Int).toNat)<|(p1.length:Int).toNat),(7,.vl 2 k 0 g.length),(9,.i6 j),(10,.i6<|if b<a then b else a),(11,.i6<|if d>c then d else c)]/\Y=⟨vT g k (.row (e.map<|cL aU).flatten 77) i,3⟩) n ⟨0,F,O,rfl,rfl⟩ ?_ ?_;rintro _ _ ⟨i,O,rfl,rfl⟩;unfold Xs at O;obtain⟨P,d?,O⟩:=aJ O;obtain⟨c?,O⟩:=bU O;refine go ?_;refine aS (u:=.sl 3 0 0 0) (Y':=⟨(3,.row [] 105)::vT g k (.row (e.map<|cL aU).flatten 77) i,4⟩) rfl (vQ dL.h dI.h rfl rfl rfl rfl rfl rfl rfl) ?_;refine go ?_;refine aS rfl (cV rfl rfl (rP mN.h (aV iG.h) rfl d?)) (aS (u:=.iM aU P) rfl (BV (cL aU) (fun x=>.iM aU x) dL.h rfl (fun _=>rfl) rfl rfl d?) (aS (u:=.vl 4 0 0 P.length) (Y':=⟨(4,.bv aU P 105 2 0)::(3,.row [] 105)::vT g k (.row (e.map<|cL aU).flatten 77) i,5⟩) rfl (qV rfl rfl rfl rfl (Ce aU P dL.h dL.h dI.h rfl rfl rfl (QB aU oO) c?)) ?_));refine go ?_;refine gL (fun m f Y=>∃N w,∃C v B,VJ p1 n j e (D3 p1 n H) a b c d i m N w v=some r/\f=fr 161 [(5,.vl 0 0 0 i.length),(6,.sl 1 0 ((p1.length:Int).toNat)<|(p1.length:Int).toNat),(7,.vl 2 B 0 v.length),(9,.i6 j),(10,.i6<|if b<a then b else a),(11,.i6<|if d>c then d else c),(13,.vl 4 C 0 w.length),(14,.i6 N)]/\Y=⟨(4,.bv aU w 105 2 C)::(3,.row [] 105)::vT v B (.row (e.map<|cL aU).flatten 77) i,5⟩) (fun f Y=>∃y pd,∃s z,Xr p1 j e (D3 p1 n H) a b i y s=some r/\f=fr 161 [(5,.vl 0 0 0 i.length),(6,.sl 1 0 ((p1.length:Int).toNat)<|(p1.length:Int).toNat),(7,.vl 2 z 0 s.length),(9,.i6 j),(10,.i6<|if b<a then b else a),(13,.vl 4 pd 0 y.length)]/\Y=⟨(4,.bv aU y 105 2 pd)::(3,.row [] 105)::vT s z (.row (e.map<|cL aU).flatten 77) i,5⟩) n ⟨0,P,0,g,k,O,rfl,rfl⟩ ?_ ?_;rintro _ _ ⟨y,pd,s,z,O,rfl,rfl⟩;unfold Xr at O;refine gn ?_;refine cD (tm':=fr 161 [(5,.vl 0 0 0 i.length),(6,.sl 1 0 ((p1.length:Int).toNat)<|(p1.length:Int).toNat),(7,.vl 2 z 0 s.length),(9,.i6 j),(10,.i6<|if b<a then b else a),(13,.iM aU y)]) (Y':=⟨(3,.row [] 105)::vT s z (.row (e.map<|cL aU).flatten 77) i,5⟩) (Gh.trans (Gh.sub (l':=[(5,.vl 0 0 0 i.length),(6,.sl 1 0 ((p1.length:Int).toNat)<|(p1.length:Int).toNat),(7,.vl 2 z 0 s.length),(9,.i6 j),(10,.i6<|if b<a then b else a),(13,.vl 4 pd 0 y.length)]) ⟨rfl,rfl,rfl,rfl,rfl,rfl,trivial⟩)<|FC 4 2) NZ ?_;obtain⟨x89,U,O⟩:=aJ O;refine go ?_;refine aS rfl (cV rfl rfl (rP mN.h (aV iG.h) rfl U)) (RS.iI (u:=.J9) (Y':=⟨(3,.row [] 105)::vT s z (.row (List.map (cL aU)<|e.set (if b<a then b else a).toNat y).flatten 77) i,5⟩) rfl (PX (cL aU) (aV iG.h) (FR aU) rfl rfl rfl rfl rfl rfl U rfl) rfl ?_);refine go ?_;exact lC ⟨_,s,z,(e.set (if b<a then b else a).toNat y),i,O,rfl,rfl⟩;rintro(_|m4) _ _ ⟨N,w,C,v,B,O,rfl,rfl⟩;cases O;unfold VJ at O;obtain⟨x91,V,O⟩:=aJ O;refine go ?_;refine aS rfl (cV rfl rfl (rP mN.h (aV iG.h) rfl V)) (aS (u:=.iM aU x91) rfl (BV (cL aU) (fun x=>.iM aU x) dL.h rfl (fun _=>rfl) rfl rfl V) ?_);refine gF O ?_ ?_<;>intro h93 O;refine go ?_;apply cK;obtain⟨x94,W,D,h97,O⟩:=bO O;refine go ?_;refine aS rfl (cV rfl rfl (rP mN.h (aV iG.h) rfl W)) (aS (u:=.iM aU x94) rfl (BV (cL aU) (fun x=>.iM aU x) dL.h rfl (fun _=>rfl) rfl rfl W) ?_);refine go ?_;refine c8 h97 ?_;obtain⟨sw,Qy,FM,Ij,O⟩:=bO O;refine go ?_;refine dE [] ?_;refine gd ?_;refine aQ rfl (cV rfl rfl (rP mN.h (aV iG.h) rfl Qy)) (aQ (u:=.iM aU sw) rfl (BV (cL aU) (fun x=>.iM aU x) dL.h rfl (fun _=>rfl) rfl rfl Qy) ?_);refine gd ?_;refine dN rfl (pC<|qou n sw D.E2 FM Ij) XT ?_;refine gd ?_;refine bB ⟨by kernel_rfl,trivial,?_⟩;refine gr ?_;refine u6 (fun f Y=>∃M PW,∃L PV,Xw N (VJ p1 n j e (D3 p1 n H) a b c d i m4) M L=some r/\f=fr 161 [(5,.vl 0 0 0 i.length),(6,.sl 1 0 ((p1.length:Int).toNat)<|(p1.length:Int).toNat),(7,.vl 2 PV 0 L.length),(9,.i6 j),(10,.i6<|if b<a then b else a),(11,.i6<|if d>c then d else c),(13,.vl 4 PW 0 M.length),(14,.i6 N)]/\Y=⟨(5,.row (aU D) 105)::(4,.bv aU M 105 2 PW)::(3,.row [] 105)::vT L PV (.row (e.map<|cL aU).flatten 77) i,6⟩) ?_ ?_;rintro _ _ ⟨M,PW,L,PV,O,rfl,rfl⟩;unfold Xw at O;refine go ?_;exact lC ⟨_,M,PW,L,PV,O,rfl,rfl⟩;refine cF O ?_ ?_<;>intro h102 O;obtain⟨h107,O⟩:=bU O;refine go ?_;refine aS (u:=.agg [.i6 FM.1,.i6 D.To]) rfl (JM rfl ag) ?_;refine bP ?_;refine bP ?_;refine go ?_;exact xC ⟨w,C,(v++[(fB.mk FM.1 D.To)]),(B+1),O,rfl,rfl⟩;obtain⟨h108,O⟩:=bU O;refine go ?_;refine aS (u:=.sl 6 0 1 1) (Y':=⟨(6,.row (aU D) 105)::(5,.row (aU D) 105)::(4,.bv aU w 105 2 C)::(3,.row [] 105)::vT v B (.row (e.map<|cL aU).flatten 77) i,7⟩) rfl (vQ dL.h dI.h rfl rfl rfl rfl rfl rfl rfl) ?_;refine bP ?_;refine go ?_;exact xC ⟨(w++[D]),(C+1),v,B,O,rfl,rfl⟩;refine go ?_;exact xC ⟨w,C,v,B,O,rfl,rfl⟩;rintro(_|m3) _ _ ⟨q,p,O,rfl,rfl⟩;cases O;unfold R9 at O;refine gF O ?_ ?_<;>intro jy O;refine go ?_;apply cK;obtain⟨Rw,GM,O⟩:=aJ O;refine go ?_;refine aS rfl (cV rfl rfl (gP (cI .i64) bI.h (aV eP.h) bF (iK .i64) (vo rfl) GM)) ?_;refine aS rfl (o8 (cI .i64) (fun x=>.i6 x) mZ.h rfl (fun _=>rfl) rfl rfl GM) ?_;refine gn ?_;refine u6 (fun f Y=>∃K,Xv q (R9 p1 n j g e (D3 p1 n H) a b c d m3) K=some r/\f=fr 161 [(5,.vl 0 0 0 K.length),(6,.sl 1 0 ((p1.length:Int).toNat)<|(p1.length:Int).toNat),(7,.vl 2 k 0 g.length),(9,.i6 j),(10,.i6<|if b<a then b else a),(11,.i6<|if d>c then d else c),(12,.i6 q)]/\Y=⟨vT g k (.row (e.map<|cL aU).flatten 77) K,3⟩) ?_ ?_;rintro _ _ ⟨K,O,rfl,rfl⟩;unfold Xv at O;refine go ?_;exact lC ⟨_,K,O,rfl,rfl⟩;refine cF O ?_ ?_<;>intro h112 O;obtain⟨x114,GL,O⟩:=aJ O;refine gn ?_;refine u6 (fun f Y=>f=fr 161 [(5,.vl 0 0 0<|(p.set (0+q.toNat)<|if b<a then b else a).length),(6,.sl 1 0 ((p1.length:Int).toNat)<|(p1.length:Int).toNat),(7,.vl 2 k 0 g.length),(9,.i6 j),(10,.i6<|if b<a then b else a),(11,.i6<|if d>c then d else c),(12,.i6 q)]/\Y=⟨vT g k (.row (e.map<|cL aU).flatten 77) (p.set (0+q.toNat)<|if b<a then b else a),3⟩) ?_ ?_;rintro _ _ ⟨rfl,rfl⟩;refine go ?_;exact xC ⟨(p.set (0+q.toNat)<|if b<a then b else a),O,rfl,rfl⟩;refine go ?_;refine aS rfl (cV rfl rfl (gP (cI .i64) bI.h (aV eP.h) bF (iK .i64) (vo rfl) GL)) ?_;refine RS.iI (u:=.J9) (Y':=⟨vT g k (.row (e.map<|cL aU).flatten 77) (p.set (0+q.toNat)<|if b<a then b else a),3⟩) rfl (Bg (cI .i64) (aV eP.h) (iK .i64) rfl rfl rfl rfl rfl rfl rfl (vR GL) rfl) rfl ?_;refine go ?_;exact⟨_,_,⟨rfl,rfl⟩,NZ,qR ⟨(by simp only[vT,fG];rfl),rfl,rfl,rfl,rfl,rfl,rfl,trivial⟩ rfl⟩;refine go ?_;exact xC ⟨p,O,rfl,rfl⟩;refine go ?_;exact xC ⟨p,O,rfl,rfl⟩;refine go ?_;exact xC ⟨g,k,e,F,O,rfl,rfl⟩;rintro(_|m1) _ _ ⟨o,A,E,t,O,rfl,rfl⟩;cases O;unfold VK at O;refine gF O ?_ ?_<;>intro h116 O;refine go ?_;apply cK;obtain⟨wC,Q,x119,jx,O⟩:=bO O;refine go ?_;refine c8 Q ?_;refine go ?_;refine aS rfl (cV rfl rfl (rP mN.h (aV iG.h) rfl jx)) (RS.iI (u:=.J9) (Y':=⟨vT A E (.row (List.map (cL aU)<|t.set o.toNat wC.E4).flatten 77) l,3⟩) rfl (PX (cL aU) (aV iG.h) (FR aU) rfl rfl rfl rfl rfl rfl jx rfl) rfl ?_);obtain⟨Rv,S,O⟩:=aJ O;refine go ?_;refine c8 S ?_;refine gn ?_;refine u6 (fun f Y=>∃J PU,Xu o t (VK p1 I n l m1) wC J=some r/\f=fr 161 [(0,.iM bA p1),(1,.iM (cI .i64) I),(5,.vl 0 0 0 l.length),(6,.sl 1 0 ((p1.length:Int).toNat)<|(p1.length:Int).toNat),(7,.vl 2 PU 0 J.length),(8,.i6 o)]/\Y=⟨vT J PU (.row (List.map (cL aU)<|t.set o.toNat wC.E4).flatten 77) l,3⟩) ?_ ?_;rintro _ _ ⟨J,PU,O,rfl,rfl⟩;unfold Xu at O;refine go ?_;exact lC ⟨_,J,PU,(t.set o.toNat wC.E4),O,rfl,rfl⟩;refine cF O ?_ ?_<;>intro h123 O;obtain⟨PI,T,O⟩:=aJ O;obtain⟨h128,O⟩:=bU O;refine go ?_;refine c8 T ?_;refine go ?_;refine aS (u:=.agg [.i6 o,.i6 PI]) rfl (JM rfl ag) ?_;refine bP ?_;refine bP ?_;refine go ?_;exact xC ⟨(A++[(fB.mk o PI)]),(E+1),O,rfl,rfl⟩;refine go ?_;exact xC ⟨A,E,O,rfl,rfl⟩;refine go ?_;exact xC ⟨A,E,t,O,rfl,rfl⟩
def Xq(c:Int)(b:Int->(X Int)->V ((X Int)))(a:X Int):V ((X Int)):=
 b (i64.wrap<|c+1) a
def ii  (a:X Int):V ((X Int)):=
 some a
def R8(d:Int)(e:Int)(f:Int)(a:Int):Nat->Int->(X Int)->V ((X Int))
 |0,_,_=>none|g+1,b,c=>cond (decide (b<(c.length:Int))) (a8 (aB c b) fun h=>cond (h==(if a>f then a else f)) (a8 (aB c b) fun i=>Xq b (R8 d e f a g)<|c.set (0+b.toNat)<|if e<d then e else d)<|Xq b (R8 d e f a g) c) (ii c)
def Wi(n:Nat)(g:X Int)(b:Int)(c:Int):V ((X Int)):=
 a8 (aB g b) fun d=>
 a8 (aB g c) fun e=>
 a8 (aB g b) fun f=>
 a8 (aB g c) fun a=>
 aE (g.length*8<=140737488355328/\g.length<=140737488355328) (
 R8 d e f a n 0 g)
theorem qrj(n:Nat)(D:X Int)(k:Int)(l:Int)(r:(X Int))(O:Wi n D k l=some r):dB prog 136 [.O false<|D.map<|cI .i64,.int .i64 k,.int .i64 l] (.O false<|r.map<|cI .i64):=by unfold Wi at O;refine w4 49 Y6 ?_;obtain⟨b,s,c,t,O⟩:=bO O;refine go ?_;refine dE [] ?_;refine gd ?_;refine dQ s ?_;refine gd ?_;refine dQ t ?_;refine gd ?_;refine aQ (u:=.i6<|if c<b then c else b) rfl (Y? rfl rfl rfl rfl rfl rfl rfl) ?_;refine gd ?_;refine bB ⟨by kernel_rfl,trivial,?_⟩;obtain⟨g,v,a,w,O⟩:=bO O;refine go ?_;refine dE [] ?_;refine gd ?_;refine dQ v ?_;refine gd ?_;refine dQ w ?_;refine gd ?_;refine aQ (u:=.i6<|if a>g then a else g) rfl (zar rfl rfl rfl rfl rfl rfl rfl) ?_;refine gd ?_;refine bB ⟨by kernel_rfl,trivial,?_⟩;obtain⟨q,O⟩:=bU O;refine go ?_;refine aS (u:=.sl 0 0 0 0) (Y':=⟨[(0,.row [] 3)],1⟩) rfl (vQ bI.h eP.h rfl rfl rfl rfl rfl rfl rfl) ?_;refine go ?_;refine aS (u:=.vl 1 0 0 D.length) (Y':=⟨Ch D,2⟩) rfl (qV rfl rfl rfl rfl (Ce (cI .i64) D bI.h bI.h eP.h rfl rfl rfl (QB (cI .i64)<|iK .i64) q)) ?_;refine go ?_;refine gL (fun m i Y=>∃e f,R8 b c g a m e f=some r/\i=fr 49 [(7,.i6<|if c<b then c else b),(8,.i6<|if a>g then a else g),(9,.vl 1 0 0 f.length),(10,.i6 e)]/\Y=⟨Ch f,2⟩) (fun i Y=>∃j,ii j=some r/\i=fr 49 [(9,.vl 1 0 0 j.length)]/\Y=⟨Ch j,2⟩) n ⟨0,D,O,rfl,rfl⟩ ?_ ?_;rintro _ _ ⟨j,O,rfl,rfl⟩;unfold ii at O;refine go ?_;obtain rfl:=sI O;exact rT (us:=[.vl 1 0 0 j.length]) (u:=.iM (cI .i64) j) (dP rfl (dU))<|fR 1 1;rintro(_|y) _ _ ⟨e,f,O,rfl,rfl⟩;cases O;unfold R8 at O;refine gF O ?_ ?_<;>intro B O;refine go ?_;apply cK;obtain⟨z,o,O⟩:=aJ O;refine go ?_;refine aS rfl (cV rfl rfl (gP (cI .i64) bI.h (aV eP.h) bF (iK .i64) (vo rfl) o)) ?_;refine aS rfl (o8 (cI .i64) (fun x=>.i6 x) mZ.h rfl (fun _=>rfl) rfl rfl o) ?_;refine gn ?_;refine u6 (fun i Y=>∃d,Xq e (R8 b c g a y) d=some r/\i=fr 49 [(7,.i6<|if c<b then c else b),(8,.i6<|if a>g then a else g),(9,.vl 1 0 0 d.length),(10,.i6 e)]/\Y=⟨Ch d,2⟩) ?_ ?_;rintro _ _ ⟨d,O,rfl,rfl⟩;unfold Xq at O;refine go ?_;exact lC ⟨_,d,O,rfl,rfl⟩;refine cF O ?_ ?_<;>intro A O;obtain⟨C,p,O⟩:=aJ O;refine gn ?_;refine u6 (fun i Y=>i=fr 49 [(7,.i6<|if c<b then c else b),(8,.i6<|if a>g then a else g),(9,.vl 1 0 0<|(f.set (0+e.toNat)<|if c<b then c else b).length),(10,.i6 e)]/\Y=⟨Ch (f.set (0+e.toNat)<|if c<b then c else b),2⟩) ?_ ?_;rintro _ _ ⟨rfl,rfl⟩;refine go ?_;exact xC ⟨(f.set (0+e.toNat)<|if c<b then c else b),O,rfl,rfl⟩;refine go ?_;refine aS rfl (cV rfl rfl (gP (cI .i64) bI.h (aV eP.h) bF (iK .i64) (vo rfl) p)) ?_;refine RS.iI (u:=.J9) (Y':=⟨Ch (f.set (0+e.toNat)<|if c<b then c else b),2⟩) rfl (Bg (cI .i64) (aV eP.h) (iK .i64) rfl rfl rfl rfl rfl rfl rfl (vR p) rfl) rfl ?_;refine go ?_;exact⟨_,_,⟨rfl,rfl⟩,NZ,qR ⟨rfl,rfl,(by simp only[Ch,fG];rfl),rfl,trivial⟩ rfl⟩;refine go ?_;exact xC ⟨f,O,rfl,rfl⟩;refine go ?_;exact xC ⟨f,O,rfl,rfl⟩
def fh: V (Int×FK):=
 some (0,false)
def Cw(f:cR)(b:X Int)(n:Nat):Nat->Int->V (Int×FK)
 |0,_=>none|c+1,a=>cond (decide (a<(f.Types.length:Int))) (a8 (aB f.Types a) fun e=>a8 (QT n e.Code b) fun d=>cond d (some (a,true))<|(Cw f b n c)<|i64.wrap<|a+1) (fh)
def ap(n:Nat)(b:cR)(a:X Int):V (Int×FK):=
 Cw b a n n 0
theorem qu1(n:Nat)(k:cR)(a:X Int)(r:Int×FK)(O:ap n k a=some r):dB prog 174 [.agg<|fK k,.O false<|a.map<|cI .u64] (.a7 [.int .i64 r.1,.bool r.2]):=by unfold ap at O;refine eO 23 XQ ?_;refine go ?_;refine gL (fun m b Y=>∃c,Cw k a n m c=some r/\b=fr 23 [(1,.iM (cI .u64) a),(2,.ptr 0 0 0),(6,.i6 c)]/\Y=⟨[(0,.row (fK k) 27)],1⟩) (fun b Y=>fh=some r/\b=fr 23 []/\Y=⟨[(0,.row (fK k) 27)],1⟩) n ⟨0,O,rfl,rfl⟩ ?_ ?_;rintro _ _ ⟨O,rfl,rfl⟩;unfold fh at O;refine go ?_;obtain rfl:=sI O;exact BI rfl rfl rfl rfl rfl;rintro(_|j) _ _ ⟨c,O,rfl,rfl⟩;cases O;unfold Cw at O;refine gF O ?_ ?_<;>intro i O;refine go ?_;apply cK;obtain⟨g,d,f,e,O⟩:=bO O;refine go ?_;refine c8 d ?_;refine go ?_;refine aM rfl (pC (qgp n g.Code a f e) _) F1 ?_;refine gF O ?_ ?_<;>intro h O;refine go ?_;obtain rfl:=sI O;exact BI rfl rfl rfl rfl rfl;refine go ?_;exact lC ⟨_,O,rfl,rfl⟩;refine go ?_;exact xC ⟨O,rfl,rfl⟩
def Vv(n:Nat)(g:cR)(b:Int)(c:Int):V (Int×FK):=
 a8 (aB g.Types b) fun e=>
 a8 (aB g.Types c) fun f=>
 a8 (JN n e.Code f.Code) fun d=>
 a8 (ap n g d) fun a=>some (a.1,a.2)
theorem qu0(n:Nat)(k:cR)(a:Int)(b:Int)(r:Int×FK)(O:Vv n k a b=some r):dB prog 165 [.agg<|fK k,.int .i64 a,.int .i64 b] (.a7 [.int .i64 r.1,.bool r.2]):=by unfold Vv at O;refine w4 25 XS ?_;obtain⟨i,d,j,e,c,f,h,g,O⟩:=tD O;refine go ?_;refine dE [] ?_;refine gd ?_;refine dQ d ?_;refine gd ?_;refine dQ e ?_;refine gd ?_;refine dN rfl (pC<|qik n i.Code j.Code c f) F2 (dN rfl (pC<|qu1 n k c h g) XQ ?_);refine gd ?_;refine bB ⟨by kernel_rfl,trivial,?_⟩;refine go ?_;obtain rfl:=sI O;exact BI rfl rfl rfl rfl rfl
def ig(b:X aK)(a:X Int):V ((X Int)×FK):=
 aE ((b.length:Int).toNat=a.length) (some (a,true))
def Ov(b:X aK)(d:X Int):Nat->Int->(X Int)->V ((X Int)×FK)
 |0,_,_=>none|f+1,a,c=>
  cond (decide (a<(b.length:Int))) (a8 (aB d a) fun e=>
   a8 (gU c 0 ((b.length:Int).toNat) e) fun g=>
   a8 (gU c 0 ((b.length:Int).toNat) a) fun h=>(Ov b d f) (i64.wrap<|a+1)<|c.set a.toNat g) (ig b c)
def Xo(b:X aK)(c:X Int)(n:Nat)(a:X Int):V ((X Int)×FK):=
 Ov b c n 0 a
def Db(l:cR)(a:X aK)(d:X Int)(n:Nat):Nat->Int->(X Int)->V ((X Int)×FK)
 |0,_,_=>none|h+1,b,c=>
  cond (decide (b<(a.length:Int))) (a8 (aB d b) fun i=>
   a8 (gU c 0 ((a.length:Int).toNat) i) fun j=>
   a8 (aB a b) fun g=>
   a8 (Vv n l j g.R) fun e=>cond (!e.2) (some ([],false))<|a8 (aB d b) fun f=>a8 (gU c 0 ((a.length:Int).toNat) f) fun k=>(Db l a d n h) (i64.wrap<|b+1)<|c.set f.toNat e.1) (Xo a d n c)
def Nw(n:Nat)(c:cR)(a:X aK)(b:X Int):V ((X Int)×FK):=
 aE (0<=(a.length:Int)/\8*(a.length:Int).toNat<=281474976710656/\(a.length:Int)<=281474976710656) (
 Db c a b n n 0 (replicate (a.length:Int).toNat 0))
theorem qrk(n:Nat)(P:cR)(a:X aK)(b:X Int)(r:(X Int)×FK)(O:Nw n P a b=some r):dB prog 138 [.agg<|fK P,.O false<|a.map bA,.O false<|b.map<|cI .i64] (.a7 [.O false<|r.1.map<|cI .i64,.bool r.2]):=by unfold Nw at O;refine w4 65 Y5 ?_;obtain⟨A,O⟩:=bU O;refine go ?_;refine aS (u:=.sl 1 0 ((a.length:Int).toNat)<|(a.length:Int).toNat) (Y':=⟨[(1,.row (List.map (cI .i64)<|replicate (a.length:Int).toNat 0).flatten 3),(0,.row (fK P) 27)],2⟩) rfl (Lw (cI .i64) 0 rfl rfl bI.h eP.h rfl rfl rfl rfl A) ?_;refine go ?_;refine gL (fun m d Y=>∃k f,Db P a b n m k f=some r/\d=fr 65 [(1,.iM bA a),(2,.iM (cI .i64) b),(3,.ptr 0 0 0),(8,.sl 1 0 ((a.length:Int).toNat)<|(a.length:Int).toNat),(9,.i6 k)]/\Y=⟨[(1,.row (f.map<|cI .i64).flatten 3),(0,.row (fK P) 27)],2⟩) (fun d Y=>∃i,Xo a b n i=some r/\d=fr 65 [(1,.iM bA a),(2,.iM (cI .i64) b),(8,.sl 1 0 ((a.length:Int).toNat)<|(a.length:Int).toNat)]/\Y=⟨[(1,.row (i.map<|cI .i64).flatten 3),(0,.row (fK P) 27)],2⟩) n ⟨0,(replicate (a.length:Int).toNat 0),O,rfl,rfl⟩ ?_ ?_;rintro _ _ ⟨i,O,rfl,rfl⟩;unfold Xo at O;refine go ?_;refine gL (fun m d Y=>∃g e,Ov a b m g e=some r/\d=fr 65 [(1,.iM bA a),(2,.iM (cI .i64) b),(8,.sl 1 0 ((a.length:Int).toNat)<|(a.length:Int).toNat),(12,.i6 g)]/\Y=⟨[(1,.row (e.map<|cI .i64).flatten 3),(0,.row (fK P) 27)],2⟩) (fun d Y=>∃c,ig a c=some r/\d=fr 65 [(8,.sl 1 0 ((a.length:Int).toNat)<|(a.length:Int).toNat)]/\Y=⟨[(1,.row (c.map<|cI .i64).flatten 3),(0,.row (fK P) 27)],2⟩) n ⟨0,i,O,rfl,rfl⟩ ?_ ?_;rintro _ _ ⟨c,O,rfl,rfl⟩;unfold ig at O;obtain⟨p,O⟩:=bU O;refine go ?_;obtain rfl:=sI O;exact⟨.inr rfl,[.sl 1 0 ((a.length:Int).toNat)<|(a.length:Int).toNat,.bool true],dP rfl (dP rfl (dU)),.a7 [.iM (cI .i64) c,.bool true],⟨[],0⟩,zF _,Gh.trans (Gh.fz (tm':=[.a7 [.iM (cI .i64) c,.bool true]]) (h':=[(0,.row (fK P) 27)]) 1 (.row (c.map<|cI .i64).flatten 3) 1 rfl aZ (by simp only[nD,y3,v6,FS,O0,UW,QC,By,Bz,Ca,V2,JJ,Bu,Q6,UV,UN,JE,Lq (iK .i64) p,qhs]) (by simp only[dd,ek,ug,Nat.beq,zC,zD,nD,y3,v6,FS,O0,UW,QC,By,Bz,Ca,V2,JJ,Bu,Q6,UV,UN,JE,Lq (iK .i64) p,qhs]))<|w9 (.a7 [.iM (cI .i64) c,.bool true]) rfl,rfl,BU.h⟩;rintro(_|I) _ _ ⟨g,e,O,rfl,rfl⟩;cases O;unfold Ov at O;refine gF O ?_ ?_<;>intro K O;refine go ?_;apply cK;obtain⟨G,C,l,w,N,v,O⟩:=nJ O;refine go ?_;refine c8 C ?_;refine go ?_;refine aS rfl (cV rfl rfl (rP bI.h (aV eP.h) rfl w)) (aS (u:=.i6 l) rfl (BV (cI .i64) (fun x=>.i6 x) mZ.h rfl (fun _=>rfl) rfl rfl w) (aS rfl (cV rfl rfl (rP bI.h (aV eP.h) rfl v)) (RS.iI (u:=.J9) (Y':=⟨[(1,.row (List.map (cI .i64)<|e.set g.toNat l).flatten 3),(0,.row (fK P) 27)],2⟩) rfl (PX (cI .i64) (aV eP.h) (iK .i64) rfl rfl rfl rfl rfl rfl v rfl) rfl ?_)));refine go ?_;exact lC ⟨_,(e.set g.toNat l),O,rfl,rfl⟩;refine go ?_;exact xC ⟨e,O,rfl,rfl⟩;rintro(_|H) _ _ ⟨k,f,O,rfl,rfl⟩;cases O;unfold Db at O;refine gF O ?_ ?_<;>intro L O;refine go ?_;apply cK;obtain⟨J,D,q,s,B,z,j,y,O⟩:=tD O;refine go ?_;refine dE [] ?_;refine gd ?_;refine dQ D ?_;refine gd ?_;refine aQ rfl (cV rfl rfl (rP bI.h (aV eP.h) rfl s)) (aQ (u:=.i6 q) rfl (BV (cI .i64) (fun x=>.i6 x) mZ.h rfl (fun _=>rfl) rfl rfl s) ?_);refine gd ?_;refine dQ z ?_;refine gd ?_;refine dN rfl (pC<|qu0 n P q B.R j y) XS ?_;refine gd ?_;refine bB ⟨by kernel_rfl,trivial,?_⟩;refine gF O ?_ ?_<;>intro M O;refine go ?_;obtain rfl:=sI O;exact rT (us:=[.J,.bool false]) (u:=.a7 [.O false [],.bool false]) (dP rfl (dP rfl (dU))) wR;obtain⟨t,E,F,o,O⟩:=bO O;refine go ?_;refine c8 E ?_;refine go ?_;refine aS rfl (cV rfl rfl (rP bI.h (aV eP.h) rfl o)) (RS.iI (u:=.J9) (Y':=⟨[(1,.row (List.map (cI .i64)<|f.set t.toNat j.1).flatten 3),(0,.row (fK P) 27)],2⟩) rfl (PX (cI .i64) (aV eP.h) (iK .i64) rfl rfl rfl rfl rfl rfl o rfl) rfl ?_);refine go ?_;exact lC ⟨_,(f.set t.toNat j.1),O,rfl,rfl⟩;refine go ?_;exact xC ⟨f,O,rfl,rfl⟩
def Wh(n:Nat)(i:cR)(d:az)(e:az):V (az×FK):=
 a8 (Np n d.D9 e.D9) fun a=>
 a8 (Nx n (a.length:Int)) fun g=>
 a8 (Wi n g 0 (d.D9.length:Int)) fun h=>
 a8 (Wj n a h) fun c=>
 a8 (Nw n i a c) fun b=>cond (!b.2) (some ((az.mk []),false)) (a8 (Xp n a c b.1 0) fun f=>some (f,true))
theorem qrl(n:Nat)(s:cR)(a:az)(c:az)(r:az×FK)(O:Wh n s a c=some r):dB prog 99 [.agg<|fK s,.agg [.O false<|a.D9.map bA],.agg [.O false<|c.D9.map bA]] (.a7 [.agg [.O false<|r.1.D9.map bA],.bool r.2]):=by unfold Wh at O;refine w4 40 ku ?_;obtain⟨b,j,O⟩:=aJ O;refine go ?_;refine aM rfl (pC (qu5 n a.D9 c.D9 b j) _) Y8 ?_;obtain⟨d,k,f,l,e,m,O⟩:=nJ O;refine go ?_;refine dE [(0,3),(0,7),(4,3),(5,3),(6,3)] ?_;refine gd ?_;refine FD (u:=.vl 4 0 0 d.length) (Y1:=⟨(4,.bv (cI .i64) d 3 1 0)::(3,.row [.J] 39)::Nb c.D9 a.D9 (.row (fK s) 27),5⟩) (args:=[.i6 (b.length:Int)]) rfl (qW rfl rfl M3 rfl rfl rfl) (uu (cI .i64) (qjz n (b.length:Int) d k) _ 4 rfl) rfl rfl ?_;refine gd ?_;refine RD.X7 (u:=.iM (cI .i64) f) (args:=[.vl 4 0 0 d.length,.i6 0,.i6 (a.D9.length:Int)]) (Y1:=⟨(3,.row [.J] 39)::Nb c.D9 a.D9 (.row (fK s) 27),5⟩) rfl (qW rfl rfl Y6 rfl rfl rfl) (sO 4 1) NL (pC (qrj n d 0 (a.D9.length:Int) f l) _) rfl rfl (dN rfl (pC<|qri n b f e m) Y7 ?_);refine gd ?_;refine bB ⟨by kernel_rfl,⟨jA rfl,⟨jA rfl,⟨oW fH.h rfl (aV DC.h) rfl rfl rfl,⟨uE iR.h rfl rfl rfl rfl,⟨HP rfl rfl rfl (qvb bA iR.h),trivial⟩⟩⟩⟩⟩,?_⟩;obtain⟨g,i,O⟩:=aJ O;refine go ?_;refine aM rfl (pC (qrk n s b e g i) _) Y5 ?_;refine gF O ?_ ?_<;>intro q O;refine go ?_;obtain rfl:=sI O;exact rT (us:=[.agg [.J],.bool false]) (u:=.a7 [.agg [.O false []],.bool false]) (nK (kR fH.h rfl (aV fZ.h) rfl rfl rfl)<|dP rfl (dU)) wR;obtain⟨p,o,O⟩:=aJ O;refine go ?_;refine aM rfl (pC (qlx n b e g.1 0 p o) _) Y4 ?_;refine go ?_;obtain rfl:=sI O;exact rT (nK (kR fH.h rfl (aV fZ.h) rfl rfl rfl)<|dP rfl (dU)) (w9 _ rfl)
def QU(n:Nat)(g:rQ)(e:Int)(f:Int):V (az×FK):=
 a8 (JP n g e) fun b=>
 a8 (JP n g f) fun c=>
 a8 (cond (!b.2) (some true)<|some<|!c.2) fun d=>cond d (some ((az.mk []),false)) (a8 (Wh n g.H (az.mk b.1.D9)<|az.mk c.1.D9) fun a=>some ((az.mk a.1.D9),a.2))
theorem qk0(n:Nat)(p:rQ)(b:Int)(c:Int)(r:az×FK)(O:QU n p b c=some r):dB prog 62 [.agg<|jY p,.int .i64 b,.int .i64 c] (.a7 [.agg [.O false<|r.1.D9.map bA],.bool r.2]):=by unfold QU at O;refine w4 38 Iw ?_;obtain⟨d,j,O⟩:=aJ O;refine go ?_;refine aM rfl (pC (qgs n p b d j) _) T5 ?_;obtain⟨e,k,O⟩:=aJ O;refine go ?_;refine aM rfl (pC (qgs n p c e k) _) T5 ?_;obtain⟨f,a,O⟩:=aJ O;refine gn ?_;refine u6 (fun m Y=>m=fr 38 [(3,.ptr 0 0 0),(6,.ptr 1 0 0),(8,.ptr 2 0 0),(10,.ptr 3 0 0),(29,.bool f)]/\Y=⟨[(3,.row [.iM bA e.1.D9] 39),(2,.row [.iM bA d.1.D9] 39),(1,.row [.J] 39),(0,.row (jY p) 35)],4⟩) ?_ ?_;rintro _ _ ⟨rfl,rfl⟩;refine gF O ?_ ?_<;>intro o O;refine go ?_;obtain rfl:=sI O;exact rT (us:=[.agg [.J],.bool false]) (u:=.a7 [.agg [.O false []],.bool false]) (nK (kR fH.h rfl (aV fZ.h) rfl rfl rfl)<|dP rfl (dU)) wR;obtain⟨i,g,O⟩:=aJ O;refine go ?_;refine aM rfl (pC (qrl n p.H (az.mk d.1.D9) (az.mk e.1.D9) i g) _) ku ?_;refine go ?_;obtain rfl:=sI O;exact rT (nK (kR fH.h rfl (aV fZ.h) rfl rfl rfl)<|dP rfl (dU))<|w9 _ rfl;refine go ?_;obtain⟨l,a⟩|⟨l,a⟩:=gB a;exact gy a;exact gy a
def Nv(n:Nat)(e:rQ)(c:Int)(d:Int):V (rQ×Int×FK):=
 a8 (QU n e c d) fun b=>cond (!b.2) (some (e,0,false)) (a8 (Nk n e<|az.mk b.1.D9) fun a=>some ((rQ.mk (cR.mk a.1.H.Types a.1.H.E6) a.1.L),a.2,true))
theorem qrm(n:Nat)(i:rQ)(a:Int)(b:Int)(r:rQ×Int×FK)(O:Nv n i a b=some r):dB prog 38 [.agg<|jY i,.int .i64 a,.int .i64 b] (.a7 [.agg<|jY r.1,.int .i64 r.2.1,.bool r.2.2]):=by unfold Nv at O;refine w4 31 yp ?_;obtain⟨c,d,O⟩:=aJ O;refine go ?_;refine aM rfl (pC (qk0 n i a b c d) _) Iw ?_;refine gF O ?_ ?_<;>intro g O;refine go ?_;obtain rfl:=sI O;exact rT (nK (kR uU.h rfl (aV tI.h) rfl rfl rfl)<|dP rfl (dP rfl (dU)))<|w9 _ rfl;obtain⟨f,e,O⟩:=aJ O;refine go ?_;refine aM rfl (pC (qny n i (az.mk c.1.D9) f e) _) Ja ?_;refine go ?_;obtain rfl:=sI O;exact rT (nK (kR uU.h rfl (aV tI.h) rfl rfl rfl)<|dP rfl (dP rfl (dU))) (w9 _ rfl)
def Vs(n:Nat)(d:rQ)(a:Int)(b:Int):V (FK):=
 a8 (QU n d a b) fun c=>some c.2
theorem qu7(n:Nat)(e:rQ)(a:Int)(b:Int)(r:FK)(O:Vs n e a b=some r):dB prog 39 [.agg<|jY e,.int .i64 a,.int .i64 b] (.bool r):=by unfold Vs at O;refine w4 17 yn ?_;obtain⟨d,c,O⟩:=aJ O;refine go ?_;refine aM rfl (pC (qk0 n e a b d c) _) Iw ?_;exact gx O
end Go.Proofs
