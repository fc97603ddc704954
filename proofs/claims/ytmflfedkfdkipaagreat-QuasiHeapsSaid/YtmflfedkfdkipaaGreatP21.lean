import Derived.Test.YtmflfedkfdkipaaGreatP20
set_option linter.all false
set_option maxRecDepth 20000
set_option maxHeartbeats 4000000
set_option synthInstance.maxSize 4000
set_option synthInstance.maxHeartbeats 200000
open List Go.IntKind
open Nat hiding beq_eq
namespace Go.Proofs
open Go Go.Rx Go.Vx Tryz
def FM{c d:Type}(f:c->A d):X c->A (X d)
 |[]=>some []|a::l=>a8 (f a) fun b=>a8 (FM f l) fun bs=>some (b::bs)
def Th{e k:Type}{f:e->A k}:∀{l:X e}{bs:X k},FM f l=some bs->bs.length=l.length/\∀(i:Nat)(a:e),l[i]? = some a->∃b,bs[i]? = some b/\f a=some b
 |[],bs,h=>by obtain rfl:=sI h;exact⟨rfl,fun i a h=>by simp at h⟩
 |a::l,bs,h=>by
  obtain⟨b,r,h⟩:=aK h;obtain⟨m,j,h⟩:=aK h;obtain rfl:=sI h;obtain⟨n,o⟩:=Th j;refine⟨by simp[n],fun i c g=>?_⟩;cases i with
  |zero=>simp at g;subst g;exact⟨b,rfl,r⟩|succ i=>simp at g;obtain⟨d,p,q⟩:=o i c g;exact⟨d,by simpa using p,q⟩
def yw(b len:Nat)(a:aL):A dZ:=cond (decide (0<=a.To/\a.To<(len:Int))) (some ⟨a.D9,b+a.To.toNat⟩) none
variable{n0:Nat}{len:Nat}
def C!{a:aL}{b:dZ}(h:yw n0 len a=some b):0<=a.To/\a.To<(len:Int)/\b=⟨a.D9,n0+a.To.toNat⟩:=by unfold yw at h;rcases c:decide (0<=a.To/\a.To<(len:Int))with _|_;rw[c]at h;cases h;rw[c]at h;have:=of_decide_eq_true c;exact⟨this.1,this.2,(sI h).symm⟩
def V7(n0 len:Nat)(x:aU):A PN:=aE (x.E2.length<=1000000) (a8 (FM (yw n0 len) x.E2) fun l=>some<|gX x.R l)
def xV(P:PP)(f:cb):A (Int×PP):=
 aE (0<f.D6.length/\f.D6.length<=1000000/\P.roots.length<=1000000) (a8 (FM (V7 P.N.length f.D6.length) f.D6) fun L=>some ((P.roots.length:Int),{ P with N:=P.N++L,size:=i64.wrap<|P.size+f.D6.length,roots:=P.roots++[P.N.length] }))
def MV(x:PN):PN:=gX x.kind []
def wN(N L:X PN)(t:Nat):X PN:=N++(L.take t++(L.drop t).map MV)
def z6s(N L:X PN)(t:Nat):(wN N L t).length=N.length+L.length:=by simp[wN];omega
variable{N:X PN}{t:Nat}
def z6r{L:X PN}{x:PN}(h:L[t]? = some x):(wN N L t)[N.length+t]? = some (MV x):=by have a:=(zG.1 h).1;unfold wN;rw[kq ag,show N.length+t-N.length=t by omega,kq (by simp;omega)];simp;rw[wv ag,mr,ek];exact⟨x,h,rfl⟩
def z6t{L:X PN}{x:PN}(h:L[t]? = some x):(wN N L t).set (N.length+t) x=wN N L (t+1):=by
 have a:=(zG.1 h).1;have e:L.drop t=x::L.drop (t+1):=by rw[Xk a];rw[hF a]at h;cases h;rfl
 unfold wN;rw[qb9 _ _ ag,show N.length+t-N.length=t by omega,qb9 _ _ (by simp;omega),e];congr 1;simp only[Wz,wv<|eW a,mr,zQ,Jh];rw[KX,h];simp
def nX(nm:Nat->Nat)(o:A Nat):X U:=[po nm o]
def mP(n0 len t:Nat):X (A Nat):=(List.range len).map fun i=>if i<t then some (n0+i)else none
def UD{i:Nat}(h:i<len):(mP n0 len t)[i]? = some (if i<t then some (n0+i)else none):=by simp[mP,h]
def z6q(h:t<len):(mP n0 len t).set t (some<|n0+t)=mP n0 len (t+1):=by apply me;intro i;rw[mi];by_cases e:t=i;subst e;rw[kh rfl,kh (by simp[mP,h]),UD h,kh<|zN _];rw[iy e];by_cases b:i<len;rw[UD b,UD b];by_cases a:i<t;rw[kh a,kh ag];rw[iy a,iy ag];rw[Xi (by simp[mP];omega),Xi (by simp[mP];omega)]
def z2p(n0 len:Nat):mP n0 len 0=replicate len none:=by apply me;intro i;by_cases a:i<len;rw[UD a];simp[a];rw[Xi (by simp[mP];omega),Xi (by simp;omega)]
section
variable{kp d st:Nat}{nm:Nat->Nat}{P:PP}{h:X (Nat×B)}{nx:Nat}
def rC.more{a:Nat->Nat}{N:X PN}{s:Int}{c:Nat}{H:X (Nat×B)}{M:Nat}(m:rC kp d st nm P h nx a N s c H M)(g:oY ⟨H,M⟩)(b:B):rC kp d st nm P h nx a N s c ((M,b)::H) (M+1):=
 ⟨m.ph.more fun k c e=>by rw[jU (g k c e).1];exact e,m.l7,m.new,fun k f i j=>by rw[jU<|Xj f m.le];exact m.fr k f i j,XK m.le,m.len,m.cl⟩
def rC.add{a:Nat->Nat}{N:X PN}{s:Int}{c:Nat}{H:X (Nat×B)}{M:Nat}(m:rC kp d st nm P h nx a N s c H M)(i:oY ⟨H,M⟩)(n:c<=N.length)(k:Int):rC kp d st nm P h nx (vT a N.length M) (N++[gX k []]) s c ((M,.row (rW (vT a N.length M) (gX k []) .J) 103)::H) (M+1):=by
 refine⟨m.ph.add i n k (by simp[aV]) (fun k b e=>by rw[jU (i k b e).1];exact e),fun k g=>by rw[xE k<|Xj g m.len];exact m.l7 k g,fun k l e=>?_,fun k j o p=>by rw[jU<|Xj j m.le];exact m.fr k j o p,XK m.le,by simp;exact XK m.len,m.cl⟩;rw[zU]at e;obtain f |f:=XL k N.length;rw[xE k f];exact m.new k l f;have:k=N.length:=by simp at e;omega
 subst this;rw[Au];exact m.le
def rC.rQ{a:Nat->Nat}{s:Int}{c:Nat}{H:X (Nat×B)}{M K:Nat}{q:X U}(m:rC kp d st nm P h nx a N s c H M)(w:nx<=K)(o:gt H K=some (.row q 92))(b:B):rC kp d st nm P h nx a N s c (ug H K b) M:=by
 have g:∀k f,gt H k=some f->(∀q,f≠.row q 92)->gt (ug H K b) k=some f:=fun k f n p=>by rw[bT,iy fun e=>?_];exact n;rw[<-e,o]at n;exact p q (Option.some.inj n).symm
 refine⟨⟨g _ _ m.ph.b5 ca,g _ _ m.ph.roots ca,fun i x l j=>g _ _ (m.ph.node i x l j) ca,fun i x l j=>⟨g _ _ (m.ph.l5 i x l j).1 ca,(m.ph.l5 i x l j).2⟩,m.ph.inj,m.ph.wf,m.ph.rt⟩,m.l7,m.new,fun k r u v=>?_,m.le,m.len,m.cl⟩;rw[bT,iy ag];exact m.fr k r u v
def qze{nm':Nat->Nat}{n:Nat}(c:∀k,k<n->nm' k=nm k)(e:n0+t<=n):(mP n0 len t).map (nX nm')=(mP n0 len t).map (nX nm):=by refine Wu fun o b=>?_;simp only[mP,gf]at b;obtain⟨i,_,rfl⟩:=b;by_cases a:i<t;rw[kh a];simp only[nX,po,pt,c (n0+i) ag];rw[iy a];rfl
def Cv(p:PH kp d st nm P h){f:cb}{r:Int×PP}(O:xV P f=some r):
  aT prog 18 [.ptr kp 0 0,.agg<|jQ f] ⟨h,nx⟩ (fun u Y'=>u=.i6 r.1/\Y'=⟨cH kp d (st+1) (jW nm P.N.length nx) r.2 h,nx+(r.2.N.length-P.N.length)⟩):=by
 refine aT.wf fun xH _=>?_;obtain⟨⟨HL,tQ,QV⟩,O⟩:=bY O;obtain⟨L,hL,O⟩:=aK O;obtain rfl:=sI O;obtain⟨Hf,e_⟩:=Th hL
 haveI:ck nx (nx+1):=⟨rfl⟩
 haveI:ck (nx+1) (nx+2):=⟨rfl⟩
 refine eO 99 G6 ?_;refine goN ?_;refine RS.w rfl (c? (c:=nX nm) (none:A Nat) rfl rfl iA.h jC.h rfl rfl rfl rfl ⟨by omega,by omega,by omega⟩) ?_;change RU _ _ _ _ _ (Sg.mk ((nx+1,.row ((replicate f.D6.length (none:A Nat)).map (nX nm)).flatten 92)::(nx,.row (jQ f) 39)::h)<|nx+2) _
 haveI:Nq (nx+1) nx:=⟨by rw[beq_eq];simp⟩
 refine goN ?_;have hPN:P.N++(L.take 0).map MV=P.N:=by simp
 have c0:rC kp d st nm P h nx nm (P.N++(L.take 0).map MV) P.size P.N.length ((nx+1,.row ((mP P.N.length f.D6.length 0).map (nX nm)).flatten 92)::(nx,.row (jQ f) 39)::h) (nx+2):=by rw[hPN];refine⟨p.pq.more fun k b v=>?_,fun _ _=>rfl,fun k a b=>ag,fun k k1 _ _=>?_,by omega,zF _,zF _⟩;have:k<nx:=(xH k b v).1;rw[aV,iy ag,aV,iy ag];exact v;rw[aV,iy ag,aV,iy ag]
 refine I6.eqv rfl (Y':=⟨(nx+1,.row ((mP P.N.length f.D6.length 0).map (nX nm)).flatten 92)::(nx,.row (jQ f) 39)::h,nx+2⟩) (by rw[z2p]) ?_;refine gL (fun m W Y=>∃(t:Nat)(nm1:Nat->Nat)(H:X (Nat×B))(M:Nat),m=f.D6.length-t/\t<=f.D6.length/\W=fr 99 [(0,.ptr kp 0 0),(3,.ptr nx 0 0),(5,.sl (nx+1) 0 f.D6.length f.D6.length),(17,.iM bL f.D6),(18,.i6 f.D6.length),(19,.i6 t)]/\Y=⟨H,M⟩/\rC kp d st nm P h nx nm1 (P.N++(L.take t).map MV) P.size P.N.length H M/\gt H (nx+1)=some (.row ((mP P.N.length f.D6.length t).map (nX nm1)).flatten 92)/\gt H nx=some (.row (jQ f) 39)/\nx+1<M)
  (fun W Y=>∃(nm1:Nat->Nat)(H:X (Nat×B))(M:Nat),W=fr 99 [(0,.ptr kp 0 0),(3,.ptr nx 0 0),(5,.sl (nx+1) 0 f.D6.length f.D6.length)]/\Y=⟨H,M⟩/\rC kp d st nm P h nx nm1 (wN P.N L 0) P.size P.N.length H M/\gt H (nx+1)=some (.row ((mP P.N.length f.D6.length f.D6.length).map (nX nm1)).flatten 92)/\gt H nx=some (.row (jQ f) 39)/\nx+1<M) f.D6.length
  ⟨0,nm,_,nx+2,rfl,qq _,rfl,rfl,c0,by rw[aV,kh rfl],by rw[aV,iy ag,aV,kh rfl],zN _⟩ ?_ ?_ (by show nx<=nx+2;omega)
 ·rintro _ _ ⟨nm1,H,M,rfl,rfl,hm,E,rg,hM⟩
  haveI:fP H nx (.row [.iM bL f.D6] 39):=⟨rg⟩
  refine goN ?_;refine gL (fun m W Y=>∃(t:Nat)(H:X (Nat×B))(M:Nat),m=f.D6.length-t/\t<=f.D6.length/\W=fr 99 [(0,.ptr kp 0 0),(5,.sl (nx+1) 0 f.D6.length f.D6.length),(33,.iM bL f.D6),(34,.i6 f.D6.length),(35,.i6 t)]/\Y=⟨H,M⟩/\rC kp d st nm P h nx nm1 (wN P.N L t) P.size (P.N.length+t) H M/\gt H (nx+1)=some (.row ((mP P.N.length f.D6.length f.D6.length).map (nX nm1)).flatten 92)/\nx+1<M) (fun W Y=>∃(H:X (Nat×B))(M:Nat),W=fr 99 [(0,.ptr kp 0 0),(5,.sl (nx+1) 0 f.D6.length f.D6.length)]/\Y=⟨H,M⟩/\rC kp d st nm P h nx nm1 (P.N++L) P.size (P.N.length+L.length) H M/\gt H (nx+1)=some (.row ((mP P.N.length f.D6.length f.D6.length).map (nX nm1)).flatten 92)/\nx+1<M) f.D6.length
   ⟨0,H,M,rfl,qq _,rfl,rfl,hm,E,hM⟩ ?_ ?_ hm.le
  rintro _ _ ⟨H,M,rfl,rfl,hm,E,hM⟩;refine I6.wf fun J _=>?_;have Fw:live (Sg.mk H M) (nx+1) 0=true:=by simp[live,E,B.st]
  have R:=hm.ph.ph (la ca)
  haveI:=R.gp
  haveI:ck M (M+1):=⟨rfl⟩
  refine goN ?_;refine RS.w rfl (H3 rfl rfl rfl (z8i iA.h Fw)) ?_;refine goN ?_
  let sz:Int:=i64.wrap (P.size+(f.D6.length:Nat))
  let P2:PP:={ P with N:=P.N++L,size:=sz }
  let o:X (Nat×B):=ug H kp (.row (sY d st P2) 83)
  have oJ:PH kp d st nm1 P2 o:=R.oG sz P.gen (by simp only[o];rw[bT,kh rfl,R.b5];rfl) fun k b v Z=>by simp only[o];rw[bT,iy<|Wv Z];exact v
  have uF:kp<M:=(J _ _ R.b5).1;have E9:d<M:=(J _ _ R.roots).1;have hlx:kp≠nx+1:=fun e=>by have:=R.b5;rw[e,E]at this;simp at this
  have hlr:d≠nx+1:=fun e=>by have:=R.roots;rw[e,E]at this;cases this
  have yT:gt o (nx+1)=some (.row ((mP P.N.length f.D6.length f.D6.length).map (nX nm1)).flatten 92):=by simp only[o];rw[bT,iy hlx];exact E
  have Fu:live (Sg.mk o M) (nx+1) 0=true:=by simp[live,yT,B.st]
  have F:pD (mP P.N.length f.D6.length f.D6.length) 0 f.D6.length 0=some (some P.N.length):=by rw[pD,kh ⟨by omega,by omega⟩];simp only[Int.toNat_zero,Wy];rw[UD HL,kh HL];simp
  change I6 _ _ _ _ (Sg.mk o M) _
  haveI:=oJ.gp
  haveI:Nq M kp:=⟨by rw[beq_eq];simp;omega⟩
  haveI:Nq M d:=⟨by rw[beq_eq];simp;omega⟩
  refine dE [(0,8),(0,9),(1,8),(2,8),(3,8),(4,8)] ?_;refine cX ?_;refine aQ rfl (eM rfl rfl (J0 (Y:=⟨o,M⟩) iA.h (bG jC.h) Fu F)) (aQ (u:=pt nm1 P.N.length) rfl (TY (Y:=⟨o,M⟩) (nX nm1) (po nm1) i9.h rfl (fun _=>rfl) rfl yT F) ?_);refine cX ?_;refine dS ?_;have wC:gt ((M,.row [pt nm1 P.N.length] 92)::o) d=some (.vec (P.roots.map<|dQ nm1).flatten 92 1 st):=by rw[aV,iy ag];exact oJ.roots
  have eN:rowOf (Sg.mk ((M,.row [pt nm1 P.N.length] 92)::o)<|M+1) M=some [pt nm1 P.N.length]:=by simp[rowOf,aV]
  refine RD.act rfl (rG rfl rfl rfl rfl (CE (dQ nm1) [P.N.length] iA.h iA.h jC.h rfl (fun _=>rfl) wC (DM (dQ nm1) [P.N.length] (q:=[pt nm1 P.N.length]) eN rfl rfl rfl) ⟨by show(P.roots.length+1)*_<=_;omega,by show P.roots.length+1<=_;omega⟩)) rfl rfl ?_;have qw:fP (ug ((M,.row [pt nm1 P.N.length] 92)::o) d<|.vec (List.map (dQ nm1)<|P.roots++[P.N.length]).flatten 92 1 (st+1)) kp (.row [.iM jV P2.H.Types,.iM mQ P2.H.E3,.vl d st 0 P2.roots.length,.i6 P2.size,.i6 P2.gen] 83):=⟨by rw[bT,iy oJ.oB,aV,iy ag];exact oJ.b5⟩
  haveI:=qw
  refine cX ?_;refine tC ?_;refine bC ⟨by kernel_rfl,⟨P0,P0,P0,P0,P0,P0,trivial⟩,?_⟩
  let G:B:=.vec (List.map (dQ nm1)<|P.roots++[P.N.length]).flatten 92 1 (st+1)
  let P3:PP:={ P with N:=P.N++L,size:=sz,roots:=P.roots++[P.N.length] }
  let T:X (Nat×B):=(M,.row [pt nm1 P.N.length] 92)::o
  let T2:X (Nat×B):=ug (ug T d G) kp (.row (sY d (st+1) P3) 83)
  have hT:∀k,k≠kp->k≠d->k<M->gt T2 k=gt H k:=fun k k1 k2 k3=>by simp only[T2,T,o];rw[bT,iy<|Wv k1,bT,iy<|Wv k2,aV,iy ag,bT,iy<|Wv k1]
  have p5:PH kp d (st+1) nm1 P3 T2:=by refine⟨?_,?_,fun i x hx=>?_,oJ.inj,oJ.wf,fun r hr=>?_⟩;simp only[T2];rw[bT,kh rfl,qw.h];rfl;simp only[T2];rw[bT,iy<|Wv oJ.oB,bT,kh rfl];simp only[T];rw[wC];rfl;have hi:=oT hx;rw[hT _ (R.kC hi) (R.rL hi)<|R.lt J hi];exact R.node i x hx;obtain hr |hr:=yD.1 hr;exact oJ.rt r hr;simp at hr;subst hr;show P.N.length<(P.N++L).length;simp;omega
  change I6 _ _ _ _ (Sg.mk T2<|M+1) _
  haveI:=p5.gp
  haveI:=p5.gr
  refine goN ?_;have mG:i64.wrap (((P.roots++[P.N.length]).length:Int)-1)=P.roots.length:=by rw[zU,wrap_i64 ca (by simp;omega)];simp
  refine Pn rfl rfl rfl (jG _ _) (canon (P1:=P3) (nm1:=nm1) (tm':=[.i6 P.roots.length]) p xH p5 (by show P.N.length<=(P.N++L).length;simp) hm.l7 hm.new (fun k k1 k2 k3 k4=>?_) ?_<|by simp[aG,aS]) ⟨rfl,rfl⟩;have k1':k<nx:=k1;rw[hT k k2 k3 (by have:=hm.le;omega)];exact hm.fr k k1 k2 k4;simp only[eR,rU];rw[<-mG];rintro _ _ _ ⟨t,H,M,rfl,ht,rfl,rfl,hm,E,hM⟩;refine I6.wf fun J _=>?_
  haveI:ck M (M+1):=⟨rfl⟩
  refine goN ?_;refine eD rfl (fun h7=>?_) (fun h7=>?_)
  ·have I:t<f.D6.length:=by simpa using h7
   obtain⟨x,hx⟩:∃a,f.D6[t]? = some a:=⟨_,hF I⟩;obtain⟨y,hy,V⟩:=e_ t x hx;obtain⟨qF,V⟩:=bY V;obtain⟨z,hl2',V⟩:=aK V;obtain⟨qh,qi⟩:=Th hl2';have m5:aC f.D6 (t:Int)=some x:=by rw[aC,kh ⟨by omega,by omega⟩];simpa using hx
   have mG:i64.wrap ((t:Int)+1)=((t+1:Nat):Int):=by rw[wrap_i64 ag ag];rfl
   refine goN ?_;apply eX;refine goN ?_;refine dO m5 ?_;refine goN ?_;obtain rfl:=sI V
   let q:=P.N.length+t
   have hq:(wN P.N L t)[q]? = some (gX x.R []):=z6r hy;have Fk:q<(wN P.N L t).length:=oT hq;obtain⟨O1,_⟩:=hm.ph.l5 q _ hq<|zF _;have O1:gt H (nm1 q)=some (.row (rW nm1 (gX x.R []) .J) 103):=O1;have hqM:nm1 q<M:=(J _ _ O1).1;have uF:kp<M:=(J _ _ hm.ph.b5).1;have Fj:nm1 q≠kp:=hm.ph.kC Fk;have hqx:nm1 q≠nx+1:=fun e=>by rw[e,E]at O1;simp at O1
   have Za:gt ((M,.row (bL x) 79)::H) (nm1 q)=some (.row (rW nm1 (gX x.R []) .J) 103):=by rw[aV,iy ag];exact O1
   refine dJ (AG (Y:=⟨(M,.row (bL x) 79)::H,M+1⟩) (nm1 q) 1 107 2 cg (XK hm.le) Za rfl) (XK<|XK hm.le) ?_;refine gL (fun m W Y=>∃(j:Nat)(s:Nat)(C:X (Nat×B))(g:Nat),m=x.E2.length-j/\j<=x.E2.length/\W=fr 99 [(0,.ptr kp 0 0),(5,.sl (nx+1) 0 f.D6.length f.D6.length),(8,.i6 t),(33,.iM bL f.D6),(34,.i6 f.D6.length),(35,.i6 t),(41,.iM bB x.E2),(42,.i6 x.E2.length),(43,.i6 j)]/\Y=⟨C,g⟩/\M+1<g/\gt C (M+1)=some (.bv (bW nm1) (z.take j) 107 2 s)/\gt C (nm1 q)=some (.row (rW nm1 (gX x.R [])<|.vl (M+1) s 0 (z.take j).length) 103)/\∀k,k<M->k≠nm1 q->gt C k=gt H k)
    (fun W Y=>∃(s:Nat)(C:X (Nat×B))(g:Nat),W=fr 99 [(0,.ptr kp 0 0),(5,.sl (nx+1) 0 f.D6.length f.D6.length),(33,.iM bL f.D6),(34,.i6 f.D6.length),(35,.i6 t)]/\Y=⟨C,g⟩/\M+1<g/\gt C (M+1)=some (.bv (bW nm1) z 107 2 s)/\gt C (nm1 q)=some (.row (rW nm1 (gX x.R [])<|.vl (M+1) s 0 z.length) 103)/\∀k,k<M->k≠nm1 q->gt C k=gt H k) x.E2.length
    ⟨0,0,_,M+2,rfl,qq _,rfl,rfl,zN _,by rw[bT,iy ag];simp[cc,aV],by rw[bT,kh rfl];simp only[cc];rw[aV,iy ag,Za];rfl,fun k Z nI=>by rw[bT,iy<|Wv nI];simp only[cc];rw[aV,iy ag,aV,iy ag]⟩ ?_ ?_ (XK<|XK hm.le)
   ·rintro _ _ ⟨s,C,g,rfl,rfl,wg,hv,BG,eP⟩;refine goN ?_;have EF:∀k,k<(wN P.N L t).length->nm1 k<M:=fun k Z=>hm.ph.lt J Z;have S:∀k,k<M->k≠nm1 q->gt (dA (M+1) (.bv (bW nm1) z 107 2 s) 2 C) k=gt H k:=fun k Z nI=>by rw[J7,iy ag,eP k Z nI];rcases hq:gt H k with _|b';rfl;simp only[zM];rw[Lx _ _<|Ma (Wt M) (J k b' hq).2]
    have kR:∀a∈z,a.to<(wN P.N L t).length:=fun b v=>by
     obtain⟨j,hj⟩:=mc v;have iV:j<x.E2.length:=by rw[<-qh];exact(zG.1 hj).1
     obtain⟨b',h1,h2⟩:=qi j _<|hF iV;rw[hj]at h1;cases h1;obtain⟨h3,h4,h5⟩:=C! h2;rw[h5,z6s,Hf];show P.N.length+_<_;omega
    have HR:rC kp d st nm P h nx nm1 (wN P.N L<|t+1) P.size (P.N.length+(t+1)) (dA (M+1) (.bv (bW nm1) z 107 2 s) 2 C) g:=by rw[<-z6t hy];refine⟨hm.ph.rE hq (show P.N.length+t<P.N.length+(t+1) by omega) (fun j hj=>by have:j≠P.N.length+t:=hj;omega) ⟨kR,trivial,nofun,trivial⟩ ?_ fun k b v Z=>by rw[S k (J k b v).1 Z];exact v,hm.l7,fun k a b=>hm.new k a (by simpa using b),fun k a b e=>?_,by have:=hm.le;omega,by simpa using hm.len,by omega⟩;show gt _ (nm1 q)=_;rw[J7,iy ag,BG];have e1:=J1 (c:=bW nm1) (sz:=2) (fun _=>rfl) z (M+1) 2 107 s;simp only[zM,fv,rW,gX,po,F9,JB,J9,J8,JA];rw[e1];rfl;rw[S k (by have:=hm.le;omega) fun e2=>by have:=hm.new q (jG _ _) Fk;omega];exact hm.fr k a b e
    refine⟨f.D6.length-(t+1),_,_,by omega,⟨t+1,_,g,rfl,I,rfl,rfl,HR,?_,by omega⟩,by have:=hm.le;show nx<=g;omega,Gh.trans (Gh.sub ?_)<|Gh.fz (Y:=⟨C,g⟩) (M+1) (.bv (bW nm1) z 107 2 s) 2 hv nofun (sA _ _ _<|Sy ?_) rfl⟩;rw[S (nx+1) hM<|Wv hqx];exact E
    ·rw[<-mG];(repeat refine⟨rfl,?_⟩);exact trivial
    simp only[ej,aS,X1,di];exact⟨by omega,by omega,vA _ (fun q=>y7 _ q) _⟩
   rintro _ _ _ ⟨j,s,C,g,rfl,hj,rfl,rfl,wg,hv,BG,eP⟩
   haveI:ck g (g+1):=⟨rfl⟩
   haveI:ck (g+1) (g+2):=⟨rfl⟩
   refine goN ?_;refine eD rfl (fun h9=>?_) (fun h9=>?_)
   ·have iV:j<x.E2.length:=by simpa using h9
    obtain⟨a,ha⟩:∃a,x.E2[j]? = some a:=⟨_,hF iV⟩;obtain⟨b,v,BP⟩:=qi j a ha;obtain⟨BT,BY,rfl⟩:=C! BP;have D0:aC x.E2 (j:Int)=some a:=by rw[aC,kh ⟨by omega,by omega⟩];simpa using ha
    have CN:i64.wrap ((j:Int)+1)=((j+1:Nat):Int):=by rw[wrap_i64 ag ag];rfl
    have Oy:z.take (j+1)=z.take j++[⟨a.D9,P.N.length+a.To.toNat⟩]:=by rw[KX,v];rfl
    have Zk:(z.take j).length=j:=by rw[Wz,wv ag]
    have hxM:nx+1<M:=hM
    let D:X (Nat×B):=(g,.row (bB a) 105)::C
    have Gi:∀{v11:X (Nat×B)},gt v11 (nx+1)=gt C (nx+1)->gt v11 (nx+1)=some (.row ((mP P.N.length f.D6.length f.D6.length).map (nX nm1)).flatten 92):=fun e=>by rw[e,eP _ hxM<|Wv hqx];exact E
    have F:pD (mP P.N.length f.D6.length f.D6.length) 0 f.D6.length (t:Int)=some (some q):=by rw[pD,kh ⟨by omega,by omega⟩];simp only[zZ,Wy];rw[UD I,kh I]
    have qt:pD (mP P.N.length f.D6.length f.D6.length) 0 f.D6.length a.To=some (some<|P.N.length+a.To.toNat):=by rw[pD,kh ⟨BT,BY⟩];simp only[Wy];rw[UD ag,kh ag]
    have R6:gt D (nx+1)=some (.row ((mP P.N.length f.D6.length f.D6.length).map (nX nm1)).flatten 92):=Gi (by simp only[D];rw[aV,iy ag]);have Fv:live (Sg.mk D<|g+1) (nx+1) 0=true:=by simp[live,R6,B.st]
    haveI:Nq g (nm1 q):=⟨by rw[beq_eq];simp;omega⟩
    haveI:Nq (g+1) (nm1 q):=⟨by rw[beq_eq];simp;omega⟩
    haveI:Nq (g+1) g:=⟨by rw[beq_eq];simp⟩
    haveI:fP C (nm1 q) (.row [.i6 x.R,.vl (M+1) s 0 (z.take j).length,.b8,.i6 0,.i6 0,.i6 0,.O false [],.i6 0,.b8,.i6 0,.bool false,.i6 0] 103):=⟨BG⟩
    refine goN ?_;apply eX;refine goN ?_;refine dO D0 ?_;refine goN ?_;refine dE [(0,19),(0,20),(1,19),(1,20),(2,19),(2,20),(3,19),(3,20),(4,19),(5,19),(6,19),(7,19),(8,19),(9,19),(10,19)] ?_;refine cX ?_;refine aQ rfl (eM rfl rfl (J0 (Y:=⟨D,g+1⟩) iA.h (bG jC.h) Fv F)) (aQ (u:=pt nm1 q) rfl (TY (Y:=⟨D,g+1⟩) (nX nm1) (po nm1) i9.h rfl (fun _=>rfl) rfl R6 F) ?_);refine cX ?_;refine aQ rfl (eM rfl rfl (J0 (Y:=⟨D,g+1⟩) iA.h (bG jC.h) Fv F)) (aQ (u:=pt nm1 q) rfl (TY (Y:=⟨D,g+1⟩) (nX nm1) (po nm1) i9.h rfl (fun _=>rfl) rfl R6 F) ?_);refine cX ?_;refine aQ rfl (eM rfl rfl (J0 (Y:=⟨D,g+1⟩) iA.h (bG jC.h) Fv qt)) (aQ (u:=pt nm1<|P.N.length+a.To.toNat) rfl (TY (Y:=⟨D,g+1⟩) (nX nm1) (po nm1) i9.h rfl (fun _=>rfl) rfl R6 qt) ?_);refine cX ?_;refine dS ?_
    let l:X (Nat×B):=(g+1,.row [.i6 a.D9,pt nm1<|P.N.length+a.To.toNat] 107)::D
    have wC:gt l (M+1)=some (.vec ((z.take j).map (bW nm1)).flatten 107 2 s):=by simp only[l,D];rw[aV,iy ag,aV,iy ag];exact hv
    have eN:rowOf (Sg.mk l<|g+2) (g+1)=some [.i6 a.D9,pt nm1<|P.N.length+a.To.toNat]:=by simp[l,rowOf,aV]
    refine RD.act rfl (rG rfl rfl rfl rfl (CE (bW nm1) [⟨a.D9,P.N.length+a.To.toNat⟩] ES.h ES.h DY.h rfl (fun _=>rfl) wC (DM (bW nm1) [⟨a.D9,P.N.length+a.To.toNat⟩] (q:=[.i6 a.D9,pt nm1<|P.N.length+a.To.toNat]) eN rfl rfl rfl) ⟨by rw[Zk];simp;omega,by rw[Zk];simp;omega⟩)) rfl rfl ?_
    let G:B:=.vec (List.map (bW nm1)<|z.take j++[⟨a.D9,P.N.length+a.To.toNat⟩]).flatten 107 2 (s+1)
    haveI:fP (ug l (M+1) G) (nm1 q) (.row [.i6 x.R,.vl (M+1) s 0 (z.take j).length,.b8,.i6 0,.i6 0,.i6 0,.O false [],.i6 0,.b8,.i6 0,.bool false,.i6 0] 103):=⟨by rw[bT,iy ag];simp only[l,D];rw[aV,iy ag,aV,iy ag];exact BG⟩
    have Gj:gt l (nx+1)=some (.row ((mP P.N.length f.D6.length f.D6.length).map (nX nm1)).flatten 92):=Gi (by simp only[l,D];rw[aV,iy ag,aV,iy ag]);have yT:gt (ug l (M+1) G) (nx+1)=some (.row ((mP P.N.length f.D6.length f.D6.length).map (nX nm1)).flatten 92):=Gi (by rw[bT,iy ag];simp only[l,D];rw[aV,iy ag,aV,iy ag]);have qd:live (Sg.mk l<|g+2) (nx+1) 0=true:=by simp[live,Gj,B.st]
    have Fu:live (Sg.mk (ug l (M+1) G)<|g+2) (nx+1) 0=true:=by simp[live,yT,B.st]
    refine cX ?_;refine tC ?_;refine bC ⟨by kernel_rfl,⟨P0,P0,P0,P0,eM rfl rfl (J0 (Y:=⟨l,g+2⟩) iA.h (bG jC.h) qd F),eM rfl rfl (J0 (Y:=⟨ug l (M+1) G,g+2⟩) iA.h (bG jC.h) Fu F),TY (Y:=⟨l,g+2⟩) (nX nm1) (po nm1) i9.h rfl (fun _=>rfl) rfl Gj F,TY (Y:=⟨ug l (M+1) G,g+2⟩) (nX nm1) (po nm1) i9.h rfl (fun _=>rfl) rfl yT F,P0,P0,eM rfl rfl (J0 (Y:=⟨l,g+2⟩) iA.h (bG jC.h) qd F),TY (Y:=⟨l,g+2⟩) (nX nm1) (po nm1) i9.h rfl (fun _=>rfl) rfl Gj F,P0,P0,P0,trivial⟩,?_⟩;refine goN ?_;refine⟨x.E2.length-(j+1),_,_,by omega,⟨j+1,s+1,_,g+2,rfl,iV,rfl,rfl,by omega,?_,?_,fun k Z nI=>?_⟩,by have:=hm.le;show nx<=g+2;omega,Gh.sub ?_⟩;rw[bT,iy ag,bT,kh rfl];show Option.map _ (gt l<|M+1)=_;rw[wC,Oy];rfl;rw[bT,kh rfl,bT,iy ag];show Option.map _ (gt l<|nm1 q)=_;simp only[l,D];rw[aV,iy ag,aV,iy ag,BG,Oy];rfl;rw[bT,iy<|Wv nI,bT,iy ag];show gt l k=_;simp only[l,D];rw[aV,iy ag,aV,iy ag];exact eP k Z nI
    ·rw[<-CN];(repeat refine⟨rfl,?_⟩);exact trivial
   ·refine goN ?_;have iV:j=x.E2.length:=by
     have:¬ (j:Int)<x.E2.length:=by simpa using h9
     omega
    subst iV;have e:z.take x.E2.length=z:=by rw[<-qh,xe]
    rw[e]at hv BG;exact⟨_,_,⟨s,C,g,rfl,rfl,wg,hv,BG,eP⟩,by have:=hm.le;show nx<=g;omega,Gh.sub<|by((repeat refine⟨rfl,?_⟩);exact trivial)⟩
  ·refine goN ?_;have I:t=f.D6.length:=by
    have:¬ (t:Int)<f.D6.length:=by simpa using h7
    omega
   subst I;refine⟨_,_,⟨H,M,rfl,rfl,?_,E,hM⟩,hm.le,Gh.sub<|by((repeat refine⟨rfl,?_⟩);exact trivial)⟩;have e:wN P.N L f.D6.length=P.N++L:=by rw[<-Hf];simp[wN]
   rw[e,<-Hf]at hm;exact hm
 rintro _ _ _ ⟨t,nm1,H,M,rfl,ht,rfl,rfl,hm,E,rg,hM⟩;refine I6.wf fun J _=>?_
 haveI:ck M (M+1):=⟨rfl⟩
 haveI:ck (M+1) (M+2):=⟨rfl⟩
 refine goN ?_;refine eD rfl (fun h7=>?_) (fun h7=>?_)
 ·have I:t<f.D6.length:=by simpa using h7
  obtain⟨x,hx⟩:∃a,f.D6[t]? = some a:=⟨_,hF I⟩;obtain⟨y,hy,V⟩:=e_ t x hx;have m5:aC f.D6 (t:Int)=some x:=by rw[aC,kh ⟨by omega,by omega⟩];simpa using hx
  have mG:i64.wrap ((t:Int)+1)=((t+1:Nat):Int):=by rw[wrap_i64 ag ag];rfl
  haveI:Nq (M+1) (nx+1):=⟨by rw[beq_eq];simp;omega⟩
  haveI:Nq M (nx+1):=⟨by rw[beq_eq];simp;omega⟩
  refine goN ?_;apply eX;refine goN ?_;refine dO m5 ?_;refine goN ?_
  let N1:X PN:=P.N++(L.take t).map MV
  have EF:N1.length=P.N.length+t:=by simp[N1];omega
  let Q:Nat->Nat:=vT nm1 N1.length (M+1)
  let R0:B:=.row [.i6 x.R,.J,.b8,.i6 0,.i6 0,.i6 0,.J,.i6 0,.b8,.i6 0,.bool false,.i6 0] 103
  let R2:B:=.row (rW Q (gX x.R []) .J) 103
  let o:X (Nat×B):=(M+1,R0)::(M,.row (bL x) 79)::H
  have hm1:=hm.more J<|.row (bL x) 79;have o7:oY ⟨(M,.row (bL x) 79)::H,M+1⟩:=fun k b v=>by have v:gt ((M,B.row (bL x) 79)::H) k=some b:=v;rw[aV]at v;by_cases e:M=k;rw[kh e]at v;cases v;exact⟨by show k<M+1;omega,y7 _ x⟩;rw[iy e]at v;obtain⟨h1,h2⟩:=J k b v;exact⟨Xm h1,Ma (Wt _) h2⟩
  have sL:=hm1.add o7 (by rw[EF];omega) x.R;have rz:(mP P.N.length f.D6.length t).map (nX nm1)=(mP P.N.length f.D6.length t).map (nX Q):=(qze (nm':=Q) (nm:=nm1) (n:=N1.length) xE ag).symm;have yT:gt o (nx+1)=some (.row ((mP P.N.length f.D6.length t).map (nX Q)).flatten 92):=by simp only[o];rw[aV,iy ag,aV,iy ag,E,rz]
  have Fw:live (Sg.mk o<|M+2) (nx+1) 0=true:=by simp[live,yT,B.st]
  have F:pD (mP P.N.length f.D6.length t) 0 f.D6.length (t:Int)=some none:=by rw[pD,kh ⟨by omega,by omega⟩];simp only[zZ,Wy];rw[UD I,iy<|Nat.lt_irrefl _]
  refine RS.w rfl (eM rfl rfl (J0 (Y:=⟨o,M+2⟩) iA.h (bG jC.h) Fw F)) ?_;have tT:([.ptr (M+1) 0 0]:X U)=nX Q (some<|P.N.length+t):=by simp only[nX,po,pt,Q,<-EF,Au]
  refine RS.wn rfl (F_ (Y:=⟨o,M+2⟩) (y:=some<|P.N.length+t) (nX Q) (bG jC.h) (fun _=>rfl) rfl rfl rfl rfl tT yT F rfl) ?_;refine goN ?_;have hug:∀b,ug o (M+1) b=(M+1,b)::(M,.row (bL x) 79)::H:=fun b=>by simp[o,ug,beq_eq]
  have hy2:MV y=gX x.R []:=by obtain⟨_,V⟩:=bY V;obtain⟨z,_,V⟩:=aK V;obtain rfl:=sI V;rfl
  have hH3:rC kp d st nm P h nx Q (P.N++(L.take<|t+1).map MV) P.size P.N.length (ug ((M+1,R2)::(M,.row (bL x) 79)::H) (nx+1)<|.row ((mP P.N.length f.D6.length<|t+1).map (nX Q)).flatten 92) (M+2):=by
   have e:P.N++(L.take<|t+1).map MV=N1++[gX x.R []]:=by rw[KX,hy];simp[N1,hy2]
   rw[e];refine sL.rQ (Wt _) (q:=((mP P.N.length f.D6.length t).map (nX Q)).flatten) ?_ _;rw[aV,iy ag,aV,iy ag,E,rz]
  refine⟨f.D6.length-(t+1),_,_,by omega,⟨t+1,Q,_,M+2,rfl,I,rfl,rfl,hH3,?_,?_,by omega⟩,hH3.le,Gh.trans (Gh.sub (l':=[(0,.ptr kp 0 0),(3,.ptr nx 0 0),(5,.sl (nx+1) 0 f.D6.length f.D6.length),(17,.iM bL f.D6),(18,.i6 f.D6.length),(19,.i6 ((t+1:Nat):Int))]) ?_) ?_⟩;rw[bT,kh rfl,aV,iy ag,aV,iy ag,E];rfl;rw[bT,iy ag,aV,iy ag,aV,iy ag];exact rg
  ·rw[<-mG];(repeat refine⟨rfl,?_⟩);exact trivial
  have e3:(mP P.N.length f.D6.length t).set ((t:Int)).toNat (some<|P.N.length+t)=mP P.N.length f.D6.length (t+1):=z6q I;rw[e3];have Zi:∀(b c:B),ug ((M+1,b)::(M,.row (bL x) 79)::H) (nx+1) c=(M+1,b)::(M,.row (bL x) 79)::ug H (nx+1) c:=fun b c=>by simp only[ug,beq_eq];rw[eJ ag,eJ ag];rfl
  have hug3:∀(T:X (Nat×B))(b:B),ug ((M+1,R0)::T) (M+1) b=(M+1,b)::T:=fun T b=>by simp[ug,beq_eq]
  have hgM:∀T:X (Nat×B),gt ((M+1,R0)::T) (M+1)=some R0:=fun T=>by simp[aV]
  refine(Gh.eqv rfl (congrArg (fun T=>(⟨T,M+2⟩:Sg))<|Zi R0 _)).trans ((Gh.qJ (Y:=⟨_,M+2⟩) (K:=M+1) (hgM _) (q':=rW Q (gX x.R []) .J) rfl ?_).trans (Gh.eqv rfl ?_));exact .cons (.refl _)<|.cons (.refl _)<|.cons (.refl _)<|.cons (.refl _)<|.cons (.refl _)<|.cons (.refl _)<|.cons (.nil false)<|pQ.refl _;exact congrArg (fun T=>(⟨T,M+2⟩:Sg)) ((hug3 _ _).trans (Zi R2 _).symm)
 ·refine goN ?_;have I:t=f.D6.length:=by
   have:¬ (t:Int)<f.D6.length:=by simpa using h7
   omega
  subst I;refine⟨_,_,⟨nm1,H,M,rfl,rfl,?_,E,rg,hM⟩,hm.le,Gh.sub<|by((repeat refine⟨rfl,?_⟩);exact trivial)⟩;have e:P.N++(L.take f.D6.length).map MV=wN P.N L 0:=by rw[<-Hf,xe];simp[wN]
  rw[<-e];exact hm
end
end Go.Proofs
namespace Go.Proofs
open Go Go.Rx Go.Vx Tryz
def NX(n:Nat)(t:Int):A cb:=a8 (NH n 0 [0,1]) fun a=>a8 (NH n t []) fun b=>Mc n [a,b]
def pEx(n:Nat):A Rl :=
 a8 (ct n) fun H=>a8 (NX n 1) fun f0=>a8 (xV (uT H) f0) fun a=>aE (a.1=0) (a8 (NX n 0) fun f1=>a8 (xV a.2 f1) fun b=>aE (b.1=1)<|a8 (NX n 2) fun f2=>a8 (xV b.2 f2) fun c=>aE (c.1=2)<|a8 (DK n c.2 0 1) fun u=>aE (u.1.1=3/\u.1.2=true)<|a8 (GW n u.2 3) fun g=>aE (g.2=true)<|a8 (DK n u.2 0 2) fun v=>aE (v.1.1=0/\v.1.2=false)<|a8 (UM n g.1 f0) fun e=>aE (e=true)<|a8 (Af n v.2 1 2) fun t1=>aE (t1.1=true)<|a8 (Af n t1.2 0 2) fun t2=>aE (t2.1=false)<|a8 (DK n t2.2 1 2) fun w=>aE (w.1.1=4/\w.1.2=true)<|a8 (GW n w.2 5) fun x=>aE (x.2=false/\w.2.size>=2/\w.2.size<=10)<|some true)
def VJ(m:Nat):pEx (m+200)=some true:=bD
def De{n:Nat}(h:200<=n):pEx n=some true:=by
 have:=VJ (n-200)
 rwa [Nat.sub_add_cancel h]at this
end Go.Proofs
namespace Go.Proofs
open Go Go.Rx Go.Vx Tryz
variable{P:PP}{f:cb}
def qud{r:Int×PP}(h:xV P f=some r)(w:Wf P.N)(D:∀k∈P.roots,k<P.N.length):Wf r.2.N/\(∀k∈r.2.roots,k<r.2.N.length)/\P.N.length<=r.2.N.length:=by
 obtain⟨⟨G,_,_⟩,h⟩:=bY h;obtain⟨L,B,h⟩:=aK h;obtain rfl:=sI h;obtain⟨m,t⟩:=Th B;have s:(P.N++L).length=P.N.length+f.D6.length:=by simp[m]
 refine⟨fun x e=>?_,fun k c=>?_,by show _<=(P.N++L).length;omega⟩;show lJ (P.N++L).length x;rw[s];obtain e |e:=yD.1 e;exact(w x e).le (jG _ _);obtain⟨i,p⟩:=mc e;have F:i<f.D6.length:=by rw[<-m];exact oT p
 obtain⟨y,n,d⟩:=t i _<|hF F;rw[p]at n;cases n;obtain⟨_,d⟩:=bY d;obtain⟨l,u,d⟩:=aK d;obtain rfl:=sI d;obtain⟨v,z⟩:=Th u;refine⟨fun a C=>?_,trivial,nofun,trivial⟩;obtain⟨j,g⟩:=mc C;have g:l[j]? = some a:=g;have q:j<l.length:=(zG.1 g).1;rw[v]at q;obtain⟨b,o,A⟩:=z j _<|hF q;rw[g]at o;cases o;obtain⟨H,I,E⟩:=C! A;rw[E];show P.N.length+_<_;omega;show k<(P.N++L).length;obtain c |c:=yD.1 c;have:=D k c;omega;simp at c;subst c;omega
variable{a:Int}{b:Int}
def z2g{n:Nat}{r:(Int×Rl)×PP}(h:DK n P a b=some r)(w:Wf P.N)(i:∀k∈P.roots,k<P.N.length):Wf r.2.N/\(∀k∈r.2.roots,k<r.2.N.length)/\P.N.length<=r.2.N.length:=by
 obtain⟨j,t,h⟩:=aK h;obtain⟨e,l,x,m,y,z⟩:=sg t w;cases g:j.1 with
 |none=>rw[g]at h;obtain rfl:=sI h;exact⟨l,fun k d=>by rw[m]at d;rw[e.len];exact i k d,by rw[e.len];exact zF _⟩
 |some q=>rw[g]at h;obtain⟨c,u,h⟩:=aK h;obtain⟨_,h⟩:=bY h;obtain rfl:=sI h;obtain⟨o,p,s⟩:=qwm u l;have v:j.2.N.length<=c.2.1.length:=o.len;refine⟨p,fun k d=>?_,by show P.N.length<=c.2.1.length;rw[<-e.len];exact v⟩;show k<c.2.1.length;obtain d |d:=yD.1 d;rw[m]at d;have:=i k d;rw[<-e.len]at this;omega;simp at d;subst d;exact s
def z6n{n:Nat}{r:Rl×PP}(h:Af n P a b=some r)(w:Wf P.N)(g:∀k∈P.roots,k<P.N.length):Wf r.2.N/\(∀k∈r.2.roots,k<r.2.N.length)/\r.2.N.length=P.N.length:=by obtain⟨l,e,h⟩:=aK h;obtain rfl:=sI h;obtain⟨d,i,m,j,o,p⟩:=sg e w;exact⟨i,fun k c=>by rw[j]at c;rw[d.len];exact g k c,d.len⟩
def NP(b:B):Prop:=(∀l,b≠.row l 83)/\(∀l,b≠.row l 103)/\∀l s t,b≠.vec l 92 s t
structure PL(n0:Nat)(h0:X (Nat×B))(kp:Nat)(P:PP)(h:X (Nat×B))(nx:Nat):Prop where
 ex:∃kr st nm,PH kp kr st nm P h/\n0<=kr/\(∀i,i<P.N.length->n0<=nm i)/\kr<nx/\kp<nx/\∀i,i<P.N.length->nm i<nx
 kp:n0<=kp
 lo:∀k,k<n0->gt h k=gt h0 k
 le:n0<=nx
structure PS(n0:Nat)(h0:X (Nat×B))(kp:Nat)(P:PP)(h:X (Nat×B))(nx:Nat)(h':X (Nat×B))(nx':Nat):Prop where
 pl:PL n0 h0 kp P h' nx'
 le:nx<=nx'
 np:∀k b,k<nx->gt h k=some b->NP b->gt h' k=some b
section
variable{n0 kp:Nat}{h0:X (Nat×B)}{P:PP}{h:X (Nat×B)}{nx:Nat}
def PL.more(p:PL n0 h0 kp P h nx)(b:B):PL n0 h0 kp P ((nx,b)::h) (nx+1):=by obtain⟨q,st,nm,c,j,l,m,n,d⟩:=p.ex;exact⟨⟨q,st,nm,⟨by rw[jU n];exact c.b5,by rw[jU m];exact c.roots,fun i x g=>by rw[jU<|d i (zG.1 g).1];exact c.node i x g,c.inj,c.wf,c.rt⟩,j,l,by omega,by omega,fun i o=>by have:=d i o;omega⟩,p.kp,fun k e=>by rw[jU<|Xj e p.le];exact p.lo k e,XK p.le⟩
def PL.up(p:PL n0 h0 kp P h nx){nx':Nat}(k:nx<=nx'):PL n0 h0 kp P h nx':=by obtain⟨l,st,nm,c,d,e,m,n,g⟩:=p.ex;exact⟨⟨l,st,nm,c,d,e,by omega,by omega,fun i j=>by have:=g i j;omega⟩,p.kp,p.lo,eb p.le k⟩
def PL.rQ(p:PL n0 h0 kp P h nx){h':X (Nat×B)}{K:Nat}(v:n0<=K){b:B}(r:gt h K=some b)(d:NP b)(l:∀k,k≠K->gt h' k=gt h k):PL n0 h0 kp P h' nx:=by
 obtain⟨u,st,nm,g,n,o,q⟩:=p.ex;have key:∀k c,gt h k=some c->¬ NP c->gt h' k=some c:=fun k c j m=>by rw[l k fun e=>?_];exact j;rw[e,r]at j;cases j;exact m d
 refine⟨⟨u,st,nm,⟨key _ _ g.b5 fun d=>d.1 _ rfl,key _ _ g.roots fun d=>d.2.2 _ _ _ rfl,fun i x t=>key _ _ (g.node i x t) fun d=>d.2.1 _ rfl,g.inj,g.wf,g.rt⟩,n,o,q⟩,p.kp,fun k s=>by rw[l k ag];exact p.lo k s,p.le⟩
def PL.wf(p:PL n0 h0 kp P h nx):Wf P.N:=by obtain⟨_,_,_,c,_⟩:=p.ex;exact c.wf
def PL.rt(p:PL n0 h0 kp P h nx):∀k∈P.roots,k<P.N.length:=by obtain⟨_,_,_,c,_⟩:=p.ex;exact c.rt
def qzi{k st:Nat}{nm:Nat->Nat}{o:Nat}{P1:PP}(p:PH kp k st nm P h)(t:kp<nx)(s:k<nx)(n:∀i,i<P.N.length->nm i<nx)(m:∀x∈P1.N,lJ P1.N.length x)(jO:∀r∈P1.roots,r<P1.N.length):PH kp k o (jW nm P.N.length nx) P1 (cH kp k o (jW nm P.N.length nx) P1 h):=by
 have g:∀i,(i<P.N.length/\jW nm P.N.length nx i=nm i)\/(P.N.length<=i/\jW nm P.N.length nx i=nx+(i-P.N.length)):=fun i=>by obtain c |c:=XL i P.N.length;exact .inl ⟨c,B1 i c⟩;exact .inr ⟨c,by rw[jW,iy ag]⟩
 refine M_ (Wv p.oB) (fun i _=>?_) (fun i _=>?_) (fun i j _ _ e=>?_) m jO;obtain⟨c,d⟩|⟨c,d⟩:=g i;rw[d];exact p.kC c;omega;obtain⟨c,d⟩|⟨c,d⟩:=g i;rw[d];exact p.rL c;omega;obtain⟨c,d⟩|⟨c,d⟩:=g i<;>obtain⟨l,q⟩|⟨l,q⟩:=g j;rw[d,q]at e;exact p.inj i j c l e;have:=n i c;omega;have:=n j l;omega;omega
def V6{g st:Nat}{nm:Nat->Nat}(p:PH kp g st nm P h)(q1:kp<nx)(q2:g<nx)(q3:∀i,i<P.N.length->nm i<nx)(x:∀k,k<n0->gt h k=gt h0 k)(le:n0<=nx)(y:n0<=kp)(t:n0<=g)(q:∀i,i<P.N.length->n0<=nm i){l:Nat}{P1:PP}(o:Wf P1.N)(jO:∀r∈P1.roots,r<P1.N.length)(N:Nat)(z:nx+(P1.N.length-P.N.length)<=N):PS n0 h0 kp P1 h nx (cH kp g l (jW nm P.N.length nx) P1 h) N:=by
 have s:∀k,k<nx->k≠kp->k≠g->(∀i,i<P.N.length->nm i≠k)->gt (cH kp g l (jW nm P.N.length nx) P1 h) k=gt h k:=fun k A u v w=>lh u v fun i j e=>by obtain c |c:=XL i P.N.length;rw[B1 i c]at e;exact w i c e;rw[jW,iy ag]at e;omega
 refine⟨⟨⟨g,l,_,qzi p q1 q2 q3 o jO,t,fun i j=>?_,by omega,by omega,fun i j=>?_⟩,y,fun k m=>?_,by omega⟩,by omega,fun k b m d n=>?_⟩;obtain c |c:=XL i P.N.length;rw[B1 i c];exact q i c;rw[jW,iy ag];omega;obtain c |c:=XL i P.N.length;rw[B1 i c];have:=q3 i c;omega;rw[jW,iy ag];omega;rw[s k ag ag ag fun i j e=>by have:=q i j;omega];exact x k m;rw[s k m (fun e=>?_) (fun e=>?_) fun i j e=>?_];exact d;rw[e,p.b5]at d;cases d;exact n.1 _ rfl;rw[e,p.roots]at d;cases d;exact n.2.2 _ _ _ rfl;rw[<-e,p.node i _<|hF j]at d;cases d;exact n.2.1 _ rfl
variable{k:Int}{c:PP}
def z2u(p:PL n0 h0 kp P h nx)(O:xV P f=some (k,c)):∃e d,aT prog 18 [.ptr kp 0 0,.agg<|jQ f] ⟨h,nx⟩ (fun u i=>u=.i6 k/\i=⟨e,d⟩)/\PS n0 h0 kp c h nx e d:=by obtain⟨s,st,nm,g,j,l,m,n,o⟩:=p.ex;obtain⟨q,r,t⟩:=qud O p.wf p.rt;exact⟨_,_,Cv g O,V6 g n m o p.lo p.le p.kp j l q r _<|zF _⟩
def z2v(p:PL n0 h0 kp P h nx)(O:xV P f=some (k,c)):aT prog 18 [.ptr kp 0 0,.agg<|jQ f] ⟨h,nx⟩ (fun u g=>∃e d,u=.i6 k/\g=⟨e,d⟩/\PS n0 h0 kp c h nx e d):=by obtain⟨e,d,g1,g2⟩:=z2u p O;exact g1.mono fun u g ⟨i,j⟩=>⟨e,d,i,j,g2⟩
def U_(p:PL n0 h0 kp P h nx){r:Int×PP}(O:xV P f=some r):aT prog 18 [.ptr kp 0 0,.agg<|jQ f] ⟨h,nx⟩ (fun u e=>∃d nx',u=.i6 r.1/\e=⟨d,nx'⟩/\PS n0 h0 kp r.2 h nx d nx'):=z2v p O
def su(p:PL n0 h0 kp P h nx)(n:Nat){r:(Int×Rl)×PP}(O:DK n P a b=some r):aT prog 21 [.ptr kp 0 0,.i6 a,.i6 b] ⟨h,nx⟩ (fun u e=>∃g d,u=.a7 [.i6 r.1.1,.bool r.1.2]/\e=⟨g,d⟩/\PS n0 h0 kp r.2 h nx g d):=by obtain⟨y,st,nm,i,m,o,q,s,t⟩:=p.ex;obtain⟨v,w,z⟩:=z2g O p.wf p.rt;exact(z7g i n O).mono fun u e ⟨x,j,l⟩=>⟨_,_,j,l,V6 i s q t p.lo p.le p.kp m o v w _<|zF _⟩
def qxe(p:PL n0 h0 kp P h nx)(n:Nat){r:Rl×PP}(O:Af n P a b=some r):∃q,aT prog 22 [.ptr kp 0 0,.i6 a,.i6 b] ⟨h,nx⟩ (fun u t=>u=.bool r.1/\t=⟨q,nx⟩)/\PS n0 h0 kp r.2 h nx q nx:=by obtain⟨m,st,nm,j,v,s,w,x,y⟩:=p.ex;obtain⟨E,F,G⟩:=z6n O p.wf p.rt;have o:∀k,k≠kp->k≠m->(∀i,i<P.N.length->nm i≠k)->gt (cH kp m st nm r.2 h) k=gt h k:=fun k A C D=>lh A C fun i g=>D i ag;refine⟨_,zbf j n O,⟨⟨m,st,nm,qr9 j G E F,v,fun i g=>s i ag,w,x,fun i g=>y i ag⟩,p.kp,fun k z=>?_,p.le⟩,zF _,fun k b _ d l=>?_⟩;rw[o k (by have:=p.kp;omega) ag fun i g e=>by have:=s i g;omega];exact p.lo k z;rw[o k (fun e=>?_) (fun e=>?_) fun i g e=>?_];exact d;rw[e,j.b5]at d;cases d;exact l.1 _ rfl;rw[e,j.roots]at d;cases d;exact l.2.2 _ _ _ rfl;rw[<-e,j.node i _<|hF g]at d;cases d;exact l.2.1 _ rfl
def E'(p:PL n0 h0 kp P h nx)(n:Nat){r:cb×Rl}(O:GW n P k=some r):aT prog 19 [.ptr kp 0 0,.i6 k] ⟨h,nx⟩ (fun u d=>u=.a7 [.agg<|jQ r.1,.bool r.2]/\d=⟨h,nx⟩):=by obtain⟨g,st,nm,e,_⟩:=p.ex;exact quq e n O
def z3z(p:PL n0 h0 kp P h nx)(n:Nat){ok:Rl}(O:DK n P a b=some ((k,ok),c)):aT prog 21 [.ptr kp 0 0,.i6 a,.i6 b] ⟨h,nx⟩ (fun u g=>∃e d,u=.a7 [.i6 k,.bool ok]/\g=⟨e,d⟩/\PS n0 h0 kp c h nx e d):=su p n O
def z6w(p:PL n0 h0 kp P h nx)(n:Nat){ok:Rl}(O:GW n P k=some (f,ok)):aT prog 19 [.ptr kp 0 0,.i6 k] ⟨h,nx⟩ (fun u d=>u=.a7 [.agg<|jQ f,.bool ok]/\d=⟨h,nx⟩):=E' p n O
def quz(p:PL n0 h0 kp P h nx):aT prog 16 [.ptr kp 0 0] ⟨h,nx⟩ (fun u d=>u=.i6 P.size/\d=⟨h,nx⟩):=by obtain⟨g,st,nm,e,_⟩:=p.ex;exact zb6 e
def z8n(H:dK)(j:n0<=nx)(g:∀k,k<n0->gt h k=gt h0 k):PL n0 h0 (nx+1) (uT H) (C5 H nx h) (nx+3):=
 ⟨⟨nx+2,0,id,zak H nx h id,by omega,fun i d=>by simp[uT]at d,by omega,by omega,fun i d=>by simp[uT]at d⟩,by omega,fun k e=>by rw[C5,aV,iy ag,aV,iy ag,aV,iy ag];exact g k e,by omega⟩
end
end Go.Proofs
namespace Go.Proofs
open Go Go.Rx Go.Vx
def gA(a:dZ):aL:=⟨a.f,(a.to:Int)⟩
def cN(x:PN):aU:=⟨x.kind,x.D8.map gA⟩
def core(N:X PN):cb:=⟨N.map cN⟩
def iN(l:X Nat):X Int:=l.map fun(i:Nat)=>(i:Int)
def Lh{l:X Nat}{u:Nat}:(u:Int)∈iN l↔u∈l:=by
 simp only[iN,gf];constructor;rintro⟨a,b,e⟩;have:a=u:=by omega
 subst this;exact b;exact fun h=>⟨u,h,rfl⟩
def o?(a b:X Nat):iN (a++b)=iN a++iN b:=by simp[iN]
def m?(l:X Nat):(iN l).length=l.length:=by simp[iN]
def n?{u:Nat}:∀{l:X Nat},(iN l).idxOf (u:Int)=l.idxOf u
 |[]=>rfl|a::l=>by
  rw[show iN (a::l)=(a:Int)::iN l from rfl,Gz,Gz,n?];have:((a:Int)==(u:Int))=(a==u):=by rw[ve];simp;omega
  rw[this]
structure CO(N:X PN):Prop where
 M6:m7 (core N)
 up:∀x∈N,gZ (x.D8.map gA)
 len:N.length<=1000000
 sm:∀x∈N,x.D8.length<=1000000
def jI(N:X PN):(core N).D6.length=N.length:=by simp[core]
variable{N:X PN}
def H7{i:Nat}{x:PN}(a:N[i]? = some x):nd (core N) (i:Int)=cN x:=by simp only[nd,core,zZ,vz,a,zM,gK]
def CO.R5{N:X PN}(c:CO N){i:Nat}{x:PN}(a:N[i]? = some x):Go.Proofs.R5 (core N) (i:Int)=x.D8.map gA:=by rw[Go.Proofs.R5,H7 a];exact uy (c.up x<|zX a)
def CO.to{N:X PN}(c:CO N){i:Nat}{x:PN}(d:N[i]? = some x):∀a∈x.D8,a.to<N.length:=fun a b=>by
 have:=((c.M6 (cN x)<|W2<|zX d).O9 (gA a) (W2 b)).2.2;rw[jI]at this;simp only[gA]at this;omega
def X_(q:Nat):∀(l:X Nat)(s:Nat),V8 q l s=if q∈l then some (s+l.idxOf q)else none
 |[],s=>rfl|k::l,s=>by
  rw[V8];by_cases e:k=q;subst e;simp[beq_eq];have a:Nat.beq k q=false:=by simp[beq_eq,e]
  have b:(k==q)=false:=by simp[e]
  rw[a,zD,X_ q l,Gz,b,zD];simp only[zI,Wv e,Ew];split;congr 1;omega;rfl
structure XV(N:X PN)(s:X Nat×X aU):Prop where
 nd:s.1.Nodup
 W4:∀v∈s.1,v<N.length
 len:s.2.length=s.1.length
def qvv{l:X Nat}(h:l.Nodup):(iN l).Nodup:=by unfold iN Nodup at*;rw[XN];exact h.imp fun{a b} q e=>q ag
def XV.seen{s:X Nat×X aU}(h:XV N s):Seen (core N) (iN s.1):=⟨qvv h.nd,fun v b=>by
 obtain⟨u,a,rfl⟩:=mem_map.1 b;have:=h.W4 u a;exact⟨by omega,by rw[jI];omega⟩⟩
def XV.le{s:X Nat×X aU}(h:XV N s):s.1.length<=N.length:=by have:=h.seen.len;rw[m?,jI]at this;exact this
def z3i(a b:X aU)(k:Int)(l:X aL):MZ (a++[⟨k,[]⟩]++b) a.length l=a++⟨k,l⟩::b:=by simp[MZ]
def CJ{f:cb}{o t:X Int}{u:Int}(c:∀a∈(nd f u).E2,a.To∈o):gQ f (o++t) u=gQ f o u:=by simp only[gQ,aU.mk.injEq,di];refine Wu fun a b=>?_;simp only[kL,ns,c a<|tI.1 b,It]
def qwq{N:X PN}(c:CO N):∀(k:Nat)(s:X Nat×X aU)(v:Nat),XV N s->v<N.length->N.length-s.1.length<k->v ∉ s.1->
  ∃t,O5 (core N) k (iN s.1) (v:Int)=iN (s.1++v::t)/\DF N k v s=some (s.1.length,s.1++v::t,s.2++(v::t).map fun(u:Nat)=>gQ (core N) (iN (s.1++v::t)) (u:Int))
 |0,s,v,w,D,P,_=>by omega
 |k+1,s,v,w,D,P,hm=>by
  obtain⟨x,r⟩:∃x,N[v]? = some x:=⟨N[v],hF D⟩;have I:XV N (s.1++[v],s.2++[⟨x.kind,[]⟩]):=⟨by
   show(s.1++[v]).Nodup;rw[f_];refine⟨w.nd,by simp,fun a B b g=>?_⟩;simp at g;subst g;intro e;subst e;exact hm B,fun u i=>by
   obtain i |i:=yD.1 i;exact w.W4 u i;simp at i;subst i;exact D,by simp[w.len]⟩
  have Q:=I.le;simp only[zU,zO,zS]at Q;have S:=c.len;have R:=c.sm x<|zX r;have key:∀(l:X dZ),(∀a∈l,a.to<N.length)->∀(d:X Nat×X aU)(m:X aL),XV N d->s.1.length+1<=d.1.length->m.length+l.length<=1000000->
    ∃t,(l.map gA).foldl (jH<|O5 (core N) k) (iN d.1)=iN (d.1++t)/\(∀a∈l,a.to∈d.1++t)/\(∀u∈t,∀a∈(nd (core N) (u:Int)).E2,a.To∈iN (d.1++t))/\
     Ae (DF N k) l d m=some (m++l.map (fun a=>kL (iN<|d.1++t)<|gA a),d.1++t,d.2++t.map fun(u:Nat)=>gQ (core N) (iN<|d.1++t) (u:Int)):=by
   intro l;induction l with
   |nil=>intro _ d m o G _;exact⟨[],by simp,by simp,by simp,by simp[Ae]⟩|cons a l H=>
    intro C d m o G M;have B:=C a ca;simp only[zO]at M;rw[Ae,aE,kh ag];have U:=o.le;by_cases j:a.to∈d.1;have y:DF N k a.to d=some (d.1.idxOf a.to,d):=by obtain⟨T,rfl⟩:=qj (show 1<=k by omega);rw[DF,X_,kh j,Wy]
    rw[y,aN];obtain⟨t,q1,q2,q3,q4⟩:=H (fun b g=>C b<|kj _ g) d (m++[⟨a.f,(d.1.idxOf a.to:Int)⟩]) o G (by simp;omega);refine⟨t,?_,?_,q3,?_⟩;rw[zQ,oe];have:jH (O5 (core N) k) (iN d.1) (gA a)=iN d.1:=by rw[jH];exact kh (Lh.2 j)
    rw[this,q1];intro b g;obtain rfl |g:=zI.1 g;exact vt _ j;exact q2 b g;rw[q4];have:kL (iN<|d.1++t) (gA a)=⟨a.f,(d.1.idxOf a.to:Int)⟩:=by simp only[kL,gA,n?,ns,j,It]
    rw[zQ,this];simp;obtain⟨t1,y,A⟩:=qwq c k d a.to o B ag j;have O:fU (core N) (a.to:Int):=⟨by omega,by rw[jI];omega⟩;obtain⟨d1,_,d3,_⟩:=Lk c.M6 k (iN d.1) (a.to:Int) o.seen O (fun h=>j<|Lh.1 h) (by rw[jI,m?];omega);rw[y]at d1 d3;rw[A,aN];have n:(d.1++a.to::t1).Nodup:=by have:=d1.nd;unfold iN Nodup at this;rw[XN]at this;exact this.imp fun{p q} h e=>h ag
    have E:∀u∈a.to::t1,∀b∈(nd (core N) (u:Int)).E2,b.To∈iN (d.1++a.to::t1):=fun u i b g=>by refine d3 u (Lh.2<|qa _ i) (fun h=>?_) b g;rw[f_]at n;exact n.2.2 u (Lh.1 h) u i rfl
    have v1:XV N (d.1++a.to::t1,d.2++(a.to::t1).map fun(u:Nat)=>gQ (core N) (iN (d.1++a.to::t1)) (u:Int)):=⟨n,fun u i=>by have:=(d1.W4 u<|Lh.2 i).2;rw[jI]at this;omega,by simp[o.len]⟩;obtain⟨t,q1,q2,q3,q4⟩:=H (fun b g=>C b<|kj _ g) _ (m++[⟨a.f,(d.1.length:Int)⟩]) v1 (by simp only[zU,zO];omega) (by simp;omega);simp only at q1 q2 q3 q4;have z:d.1++(a.to::t1++t)=d.1++a.to::t1++t:=by simp
    refine⟨a.to::t1++t,?_,?_,?_,?_⟩;rw[zQ,oe];have:jH (O5 (core N) k) (iN d.1) (gA a)=iN (d.1++a.to::t1):=by rw[jH];exact(iy fun h=>j<|Lh.1 h).trans y
    rw[this,q1,z];intro b g;rw[z];obtain rfl |g:=zI.1 g;simp;exact q2 b g;intro u i b g;rw[z];obtain i |i:=yD.1 i;rw[o?];exact vt _<|E u i b g;exact q3 u i b g;rw[q4,z];have K:kL (iN (d.1++a.to::t1++t)) (gA a)=⟨a.f,(d.1.length:Int)⟩:=by simp only[kL,gA,n?,ns,yD,j,zI,true_or,or_true,It,LX,idxOf_cons_self];simp
    have L:((a.to::t1).map fun(u:Nat)=>gQ (core N) (iN (d.1++a.to::t1++t)) (u:Int))=(a.to::t1).map fun(u:Nat)=>gQ (core N) (iN (d.1++a.to::t1)) (u:Int):=Wu fun u i=>by rw[o? _ t];exact CJ (E u i)
    rw[LY,L,zQ (f:=fun a=>kL _<|gA a),K];simp only[zT,qcY,fV,eY]
  obtain⟨t,q1,q2,q3,q4⟩:=key _ (c.to r) (s.1++[v],s.2++[⟨x.kind,[]⟩]) [] I ca (by simp;omega);simp only at q1 q2 q3 q4;have F:s.1++v::t=s.1++[v]++t:=by simp
  refine⟨t,?_,?_⟩;rw[O5,c.R5 r,F,<-q1,o?];rfl;have J:=w.len;rw[DF,X_,iy hm];simp only[r,aN];rw[aE,kh ⟨by omega,by omega⟩,q4,aN];simp only;rw[z3i,F,J,eY];have A:gQ (core N) (iN<|s.1++[v]++t) (v:Int)=⟨x.kind,x.D8.map fun a=>kL (iN<|s.1++[v]++t)<|gA a⟩:=by rw[gQ,H7 r,c.R5 r,dT];rfl
  rw[zQ,A]
def z6m{P:PP}(c:CO P.N){n:Nat}(l:P.N.length<n){k:Int}{r:Nat}(i:0<=k)(e:P.roots[k.toNat]? = some r)(g:r<P.N.length):GW n P k=some (bX (core P.N) (r:Int),true):=by
 have j:k.toNat<P.roots.length:=(zG.1 e).1;obtain⟨t,a,b⟩:=qwq c n ([],[]) r ⟨Ab,nofun,rfl⟩ g (by simp;omega) ca;obtain⟨m,h⟩:=H6 c.M6 (r:=(r:Int)) ⟨by omega,by rw[jI];omega⟩;simp only[eY]at a b;have d:O5 (core P.N) n [] (r:Int)=iN (r::t):=a;rw[h n (by rw[jI];omega)]at d;have f:aC P.roots k=some r:=by rw[show k=((k.toNat:Nat):Int) by omega,cZ,e]
 rw[GW,eJ ag,zD,eJ ag,zD,f,aN,b,aN];simp only[bX,d,iN,dT];rfl
def fJ{a:Type}{l:X a}{i:Nat}(h:i<l.length):∃x,l[i]? = some x:=⟨l[i],hF h⟩
variable{N:X PN}
def qrn{j:X PN}(c:CO N)(o:CO j)(e:Ex N.length N j){r:Nat}(u:r<N.length):bX (core j) (r:Int)=bX (core N) (r:Int):=by
 have t:=e.len;have at_:∀v,fU (core N) v->∃(i:Nat)(x g:PN),v=(i:Int)/\N[i]? = some x/\j[i]? = some g/\g.kind=x.kind/\g.D8=x.D8:=fun v d=>by have:=d.2;rw[jI]at this;obtain⟨x,f⟩:=fJ (l:=N) (i:=v.toNat) (by have:=d.1;omega);obtain⟨g,k,m,q⟩:=e.st v.toNat x (by have:=d.1;omega) f;exact⟨v.toNat,x,g,by have:=d.1;omega,f,k,m,q⟩
 have S:oZ (core N) (core j) id (fU<|core N):=by refine⟨fun v d a p=>?_,fun _ _ _ _ h=>h,fun v d=>?_,fun v d=>?_⟩;obtain⟨i,x,g,rfl,f,n,k,m⟩:=at_ v d;rw[c.R5 f]at p;obtain⟨b,s,rfl⟩:=mem_map.1 p;have:=c.to f b s;exact⟨by simp only[gA];omega,by rw[jI];simp only[gA];omega⟩;obtain⟨i,x,g,rfl,f,n,k,m⟩:=at_ v d;simp only[id,H7 f,H7 n,cN,k];obtain⟨i,x,g,rfl,f,n,k,m⟩:=at_ v d;simp only[id,c.R5 f,o.R5 n,m];exact(Jf _).symm
 have:=S.canon c.M6 o.M6 (r:=(r:Int)) ⟨by omega,by rw[jI];omega⟩ ⟨by omega,by rw[jI];omega⟩ ⟨by simp only[id];omega,by rw[jI];simp only[id];omega⟩;exact this.2
def Xu(k:Nat)(a:aL):dZ:=⟨a.D9,k+a.To.toNat⟩
def nR(k:Nat)(x:aU):PN:=gX x.R (x.E2.map<|Xu k)
def qty{c d:Type}{f:c->A d}{g:c->d}:∀{l:X c},(∀a∈l,f a=some (g a))->FM f l=some (l.map g)
 |[],_=>rfl|a::l,h=>by rw[FM,h a ca,aN,qty fun b e=>h b (by simp[e]),aN];rfl
def Xt(k:Nat){a:aL}(h:0<=a.To):gA (Xu k a)=oA k a:=by simp only[gA,Xu,oA,aL.mk.injEq,di];omega
variable{P:PP}{f:cb}{k:Nat}
def z2e(b:dC f k)(l:k<=1000000)(d:0<f.D6.length)(i:m7 f)(j:P.roots.length<=1000000):
  xV P f=some ((P.roots.length:Int),{ P with N:=P.N++f.D6.map (nR P.N.length),size:=i64.wrap<|P.size+f.D6.length,roots:=P.roots++[P.N.length] }):=by have m:=b.nodes;rw[xV,aE,kh ⟨d,by omega,j⟩,qty (g:=nR P.N.length) fun x c=>?_,aN];have:=b.D8 x c;rw[V7,aE,kh ag,qty (g:=Xu P.N.length) fun a h=>?_,aN];rfl;have e:=(i x c).O9 a h;rw[yw,jl e.2,zC];rfl
def pn{x:aU}(h:∀a∈x.E2,0<=a.To):(nR k x).D8.map gA=x.E2.map (oA k):=by simp only[nR,gX,dT];exact Wu fun a b=>Xt k (h a b)
def IA{l:X aL}(h:gZ l):gZ (l.map<|oA k):=by unfold gZ at*;rw[XN];exact h.imp fun{a b} q=>q
def Cy(c:CO N)(p:dC f k)(r:k<=1000000)(i:m7 f)(j:∀x∈f.D6,gZ x.E2)(o:N.length+f.D6.length<=1000000):CO (N++f.D6.map (nR N.length)):=by
 have m:(core<|N++f.D6.map (nR N.length)).D6.length=N.length+f.D6.length:=by simp[jI]
 have l:∀x∈f.D6,∀a∈x.E2,0<=a.To:=fun x d a g=>((i x d).O9 a g).2.1;refine⟨fun y q=>?_,fun x d=>?_,by simp;exact o,fun x d=>?_⟩;rw[m];obtain⟨x,d,rfl⟩:=mem_map.1 q;obtain d |d:=yD.1 d
 have:=c.M6 (cN x)<|W2 d;rw[jI]at this;exact⟨this.ty,this.aR,fun a g=>by have:=this.O9 a g;omega⟩;obtain⟨z,e,rfl⟩:=mem_map.1 d;have h:=i z e;simp only[cN,pn<|l z e];refine⟨h.ty,(IA<|j z e).aR,fun a g=>?_⟩;obtain⟨b,n,rfl⟩:=mem_map.1 g;have:=h.O9 b n;simp only[oA];omega;obtain d |d:=yD.1 d;exact c.up x d;obtain⟨z,e,rfl⟩:=mem_map.1 d;rw[pn<|l z e];exact IA<|j z e;obtain d |d:=yD.1 d;exact c.sm x d;obtain⟨z,e,rfl⟩:=mem_map.1 d;have:=p.D8 z e;simp only[nR,gX,yA];omega
def z2s(m:CO (N++f.D6.map (nR N.length)))(j:m7 f)(p:∀x∈f.D6,gZ x.E2){r:Nat}(u:r<f.D6.length):bX (core<|N++f.D6.map (nR N.length)) ((N.length+r:Nat):Int)=bX f (r:Int):=by
 have q:∀x∈f.D6,∀a∈x.E2,0<=a.To:=fun x b a d=>((j x b).O9 a d).2.1;have o:(core<|N++f.D6.map (nR N.length)).D6.length=N.length+f.D6.length:=by simp[jI]
 have at_:∀v,fU f v->∃(i:Nat)(x:aU),v=(i:Int)/\i<f.D6.length/\f.D6[i]? = some x/\nd f v=x/\(N++f.D6.map (nR N.length))[N.length+i]? = some (nR N.length x):=fun v c=>by have s:=c.1;have t:=c.2;obtain⟨x,b⟩:=fJ (l:=f.D6) (i:=v.toNat) ag;refine⟨v.toNat,x,by omega,by omega,b,by simp[nd,b],?_⟩;rw[kq ag,nv,vz,b];rfl
 have S:oZ f (core<|N++f.D6.map (nR N.length)) (fun v=>v+(N.length:Int)) (fU f):=by refine⟨fun v c a d=>?_,fun _ _ _ _ h=>ag,fun v c=>?_,fun v c=>?_⟩;obtain⟨i,x,rfl,n,b,e,g⟩:=at_ v c;have d:=tI.1 d;rw[e]at d;have:=(j x<|zX b).O9 a d;exact⟨this.2.1,this.2.2⟩;obtain⟨i,x,rfl,n,b,e,g⟩:=at_ v c;rw[show((i:Int)+(N.length:Int))=((N.length+i:Nat):Int) by omega,H7 g,e];rfl;obtain⟨i,x,rfl,n,b,e,g⟩:=at_ v c;rw[show((i:Int)+(N.length:Int))=((N.length+i:Nat):Int) by omega,m.R5 g,pn<|q x<|zX b,Go.Proofs.R5,e,uy<|p x<|zX b];rfl
 have:=S.canon j m.M6 (r:=(r:Int)) ⟨by omega,by omega⟩ ⟨by omega,by omega⟩ ⟨by omega,by rw[o];omega⟩;rw[show((N.length+r:Nat):Int)=(r:Int)+(N.length:Int) by omega];exact this.2
def z8x(N:X PN)(f:cb):Ex N.length N (N++f.D6.map (nR N.length)):=⟨by simp,fun i x a b=>⟨x,by rw[kl a];exact b,rfl,rfl⟩⟩
def tH.CX{h:dK}(a:tH h f):∀x∈f.D6,gZ x.E2:=fun x b=>(a.p9 x b).2.up
structure Has(P:PP)(fs:X cb):Prop where
 co:CO P.N
 len:P.roots.length=fs.length
 at_:∀(k:Nat)(f:cb),fs[k]? = some f->∃r,P.roots[k]? = some r/\r<P.N.length/\bX (core P.N) (r:Int)=f
def Has.new(H:dK):Has (uT H) []:=⟨⟨fun x a=>by simp[core,uT]at a,nofun,by simp[uT],nofun⟩,rfl,nofun⟩
def Has.put{c:X cb}(p:Has P c){h:dK}(a:tH h f)(n:P.N.length+f.D6.length<=1000000)(o:P.roots.length<=1000000):
  ∃b,xV P f=some ((P.roots.length:Int),b)/\Has b (c++[f])/\b.N.length=P.N.length+f.D6.length/\b.H=P.H/\b.gen=P.gen:=by
 have e:=Cy p.co a.sm cg a.M6 a.CX n;refine⟨_,z2e a.sm cg a.ne a.M6 o,⟨e,by simp[p.len],fun k g d=>?_⟩,by simp,rfl,rfl⟩;by_cases i:k<c.length;rw[kl i]at d;obtain⟨r,j,l,m⟩:=p.at_ k g d;exact⟨r,by show(P.roots++_)[k]? = _;rw[kl (by rw[p.len];exact i)];exact j,by simp;omega,by rw[<-m];exact qrn p.co e (z8x _ _) l⟩;have q:k<(c++[f]).length:=(zG.1 d).1;simp at q;have:k=c.length:=by omega
 subst this;simp at d;subst d;refine⟨P.N.length,by show(P.roots++_)[_]? = _;rw[<-p.len];simp,by have:=a.ne;simp;omega,?_⟩;have:=z2s e a.M6 a.CX (r:=0) a.ne;rw[ek]at this;exact this.trans a.can
def Has.read{a:X cb}(p:Has P a){n:Nat}(e:P.N.length<n)(h:a[k]? = some f):GW n P (k:Int)=some (f,true):=by obtain⟨r,b,c,d⟩:=p.at_ k f h;rw[z6m p.co e (r:=r) ag (by rw[zZ];exact b) c,d]
def Rk(k:Nat)(x:aU):aU:=⟨x.R,x.E2.map<|oA k⟩
def z5h{a b:X aL}(d:m8 a)(g:m8 b):m8 (a++mT a b):=by unfold m8 at*;rw[qp];refine⟨d,g.filter _,fun x h y i e=>?_⟩;have:=(mem_filter.1 i).2;have c:AR a y.D9=true:=PK.2 ⟨x,h,e⟩;rw[c]at this;cases this
def IH{cells:X aY}{m n:Nat}{x y:aY}(a:cells[m]? = some x)(b:cells[n]? = some y)(d:m≠n)(t:Int){o:X aL}{k:Nat}(h:o.length+k=x.D8.length+y.D8.length):
  M5 (uU cells m n t o)+k=M5 cells:=by
 have e:=Av ⟨-1,t,o⟩ a;have c:(cells.set m ⟨-1,t,o⟩)[n]? = some y:=by rw[Ty d];exact b
 have g:=Av ⟨(m:Int),0,[]⟩ c;simp only[uU,zS]at*;omega
def wI(w:Nat×Nat):Int×Int:=((w.1:Int),(w.2:Int))
structure Old(g:Int)(x:PN):Prop where
 fw:x.c3<g
 mt:x.b9<g
 mo:x.L8<g
 cp:x.c8<g
 ch:x.c4<g
structure Mid(g:Int)(x:PN):Prop where
 fw:x.c3<=g
 mt:x.b9<=g
 mo:x.L8<=g
 cp:x.c8<g
 ch:x.c4<g
def Old.kH{g:Int}{x:PN}(h:Old g x):Mid g x:=⟨by have:=h.fw;omega,by have:=h.mt;omega,by have:=h.mo;omega,h.cp,h.ch⟩
structure US(ws:X Nat)(g:Int)(N:X PN)(C:X aY)(aA d:Nat->Nat)(D:Nat):Prop where
 b6:Aj N.length D aA d
 root:∀(i:Nat)(x:PN),N[i]? = some x->aA i=i->(x.c3 != g)=true
 link:∀(i:Nat)(x:PN),N[i]? = some x->aA i≠i->(x.c3 != g)=false/\∃j,x.fw=some j/\Ln N.length aA d i j
 cl:C.length=N.length
 kd:∀(i:Nat)(x:PN),N[i]? = some x->aA i=i->(E5 C i).kind=hX g x
 ar:∀(i:Nat)(x:PN),N[i]? = some x->aA i=i->(E5 C i).D8=(bV g x).map gA
 ds:∀i,i<N.length->m8 (E5 C i).D8
 kr:∀i,i<N.length->aA i=i->0<=(E5 C i).kind/\(E5 C i).kind<(ws.length:Int)
 wf:Wf N
 kH:∀x∈N,Mid g x
def US.find{p:X Nat}{g:Int}{N:X PN}{C:X aY}{a d:Nat->Nat}{D:Nat}(u:US p g N C a d D):∀(k i:Nat),d i<k->i<N.length->u9 N g k i=some (a i)
 |0,i,o,_=>by omega
 |k+1,i,o,n=>by obtain⟨x,b⟩:=fJ n;rw[u9,b,aN];by_cases e:a i=i;rw[u.root i x b e,zC,e];obtain⟨c,j,h,l,m,q⟩:=u.link i x b e;rw[c,zD,h,aN,u.find k j ag l,m]
def z24{q:dZ->Rl}{l:X dZ}(h:l.find? q=none):decide (C3 q l>=0)=false:=by
 have:l.findIdx? q=none:=by rw[QS];intro x a;simpa using find?_eq_none.1 h x a
 rw[C3,this];rfl
def qsc{q:dZ->Rl}{z:dZ}:∀{l:X dZ},l.find? q=some z->∃i:Nat,C3 q l=(i:Int)/\l[i]? = some z
 |[],h=>by cases h
 |a::l,h=>by
  rw[find?_cons]at h;cases c:q a with
  |true=>rw[c]at h;cases h;exact⟨0,by simp[C3,findIdx?_cons,c],rfl⟩|false=>rw[c]at h;obtain⟨i,b,e⟩:=qsc (l:=l) h;refine⟨i+1,?_,by simpa using e⟩;unfold C3 at b ⊢;rw[findIdx?_cons,c];rcases d:l.findIdx? q with _|j;rw[d]at b;simp at b;rw[d]at b;simp at b ⊢;omega
def za2(l:X dZ)(f:Int):(l.map gA).find? (fun x=>x.D9==f)=(l.find? fun z=>z.f==f).map gA:=by rw[find?_map];rfl
def z0c(l:X dZ)(f:Int):AR (l.map gA) f=(l.find? fun z=>z.f==f).isSome:=by rw[ve,find?_isSome,PK];constructor;rintro⟨x,c,e⟩;obtain⟨a,b,rfl⟩:=mem_map.1 c;exact⟨a,b,by simpa[gA]using e⟩;rintro⟨a,b,e⟩;exact⟨gA a,W2 b,by simpa[gA]using e⟩
def z72{N:X PN}{p:Nat}{x:PN}(h:N[p]? = some x):N.set p x=N:=by
 apply me;intro i;rw[mi];split
 ·next e=>subst e;rw[kh (zG.1 h).1,h]
 rfl
def Z_{g:Int}{p:Nat}{mine:X dZ}:∀(c:X dZ)(W:X (Nat×Nat))(N:X PN)(x:PN),N[p]? = some x->W.length+c.length<=1000000->(gW g x).length+c.length<=1000000->
  ∃h mo L8 l,QF g p mine c W N=some (W++h,N.set p { x with more:=mo,L8:=L8 })/\h.map wI=W0 (mine.map gA) (c.map gA)/\gW g { x with more:=mo,L8:=L8 }=gW g x++l/\l.map gA=mT (mine.map gA) (c.map gA)/\(∀a∈l,a∈c)/\(L8=x.L8/\mo=x.more\/L8=g)/\(∀w∈h,∃a∈mine,∃b∈c,w=(a.to,b.to))
 |[],W,N,x,n,_,_=>⟨[],x.more,x.L8,[],by rw[QF];simp[z72 n],rfl,by simp,rfl,nofun,.inl ⟨rfl,rfl⟩,nofun⟩|y::c,W,N,x,n,D,E=>by
  simp only[zO]at D E;rw[QF];have v:=za2 mine y.f;cases j:mine.find? (fun z=>z.f==y.f)with
  |some z=>obtain⟨i,A,B⟩:=qsc j;have G:=Kd j;rw[A,jl ag,zC,cZ,B,aN,aE,kh ag];obtain⟨h,mo,L8,l,g1,g2,o,q,r,s,t⟩:=Z_ (g:=g) (p:=p) (mine:=mine) c (W++[(z.to,y.to)]) N x n (by simp;omega) ag;refine⟨(z.to,y.to)::h,mo,L8,l,by rw[g1];simp,?_,o,?_,fun a d=>kj _<|r a d,s,fun w m=>?_⟩;rw[zQ,zQ,pd,show(gA y).D9=y.f from rfl,v,j,g2];rfl;rw[q,zQ,mT,mT,ll,show(gA y).D9=y.f from rfl,z0c,j];rfl;obtain rfl |m:=zI.1 m;exact⟨z,G,y,by simp,rfl⟩;obtain⟨a,d,b,u,e⟩:=t w m;exact⟨a,d,b,kj _ u,e⟩
  |none=>
   rw[z24 j,zD,n,aN,aE,kh ag];have F:p<N.length:=oT n;have hm:gW g { x with more:=gW g x++[y],L8:=g }=gW g x++[y]:=by simp[gW]
   obtain⟨h,mo,L8,l,g1,g2,o,q,r,s,t⟩:=Z_ (g:=g) (p:=p) (mine:=mine) c W (N.set p { x with more:=gW g x++[y],L8:=g }) { x with more:=gW g x++[y],L8:=g } (by rw[qe F]) ag (by rw[hm];simp;omega);have C:gW g { x with more:=mo,L8:=L8 }=gW g { ({ x with more:=gW g x++[y],L8:=g }:PN)with more:=mo,L8:=L8 }:=rfl;refine⟨h,mo,L8,y::l,by rw[g1,TI],?_,?_,?_,fun a d=>?_,.inr ?_,fun w m=>?_⟩;rw[zQ,pd,show(gA y).D9=y.f from rfl,v,j,g2];rfl;rw[C,o,hm];simp;rw[zQ,q,zQ,mT,mT,ll,show(gA y).D9=y.f from rfl,z0c,j];rfl;obtain rfl |d:=zI.1 d;simp;exact kj _<|r a d;obtain⟨e,_⟩|e:=s;exact e;exact e;obtain⟨a,d,b,u,e⟩:=t w m;exact⟨a,d,b,kj _ u,e⟩
def US.aW{O:X Nat}{g:Int}{N:X PN}{C:X aY}{w d:Nat->Nat}{D:Nat}(u:US O g N C w d D){p q:Nat}(F:p<N.length)(M:q<N.length)(c:w p=p)(eq:w q=q)(r:p≠q){x y:PN}(G:N[p]? = some x)(R:N[q]? = some y){t:Int}(Y:0<=t/\t<(O.length:Int)){mo:X dZ}{L8:Int}{l:X dZ}
  (K:gW g { x with more:=mo,L8:=L8 }=gW g x++l) (U:l.map gA=mT (E5 C p).D8 (E5 C q).D8) (V:∀a∈l,a∈bV g y) (Q:L8=x.L8/\mo=x.more\/L8=g):
  US O g ((N.set p { x with more:=mo,L8:=L8,mt:=t,b9:=g }).set q { y with fw:=some p,c3:=g }) (uU C p q t<|(E5 C p).D8++mT (E5 C p).D8 (E5 C q).D8) (gM w p q) (EY w d q) (D+1):=by
 have E:((N.set p { x with more:=mo,L8:=L8,mt:=t,b9:=g }).set q { y with fw:=some p,c3:=g }).length=N.length:=by simp
 have S:p<C.length:=by rw[u.cl];exact F
 have L:q<C.length:=by rw[u.cl];exact M
 have nM:=Mm S L r t<|(E5 C p).D8++mT (E5 C p).D8 (E5 C q).D8;have v:∀(i:Nat)(z:PN),((N.set p { x with more:=mo,L8:=L8,mt:=t,b9:=g }).set q { y with fw:=some p,c3:=g })[i]? = some z->(i=q/\z={ y with fw:=some p,c3:=g })\/(i≠q/\i=p/\z={ x with more:=mo,L8:=L8,mt:=t,b9:=g })\/(i≠q/\i≠p/\N[i]? = some z):=fun i z b=>by obtain⟨e,B⟩|⟨e,b⟩:=N8 b;exact .inl ⟨e,B⟩;obtain⟨A,B⟩|⟨A,b⟩:=N8 b;exact .inr<|.inl ⟨e,A,B⟩;exact .inr (.inr ⟨e,A,b⟩)
 have wx:=u.wf.at G;have J:=u.wf.at R;have H:=u.kH x<|zX G;have I:=u.kH y<|zX R;have T:∀a∈mo,a.to<N.length:=fun a o=>by
  obtain⟨_,B⟩|e:=Q;rw[B]at o;exact wx.more a o;have W:gW g { x with more:=mo,L8:=L8 }=mo:=by simp[gW,e]
  rw[W]at K;rw[K]at o;obtain o |o:=yD.1 o;exact QL wx a o;exact PD J a (V a o)
 refine⟨by rw[E];exact u.b6.aW F c eq r,fun i z b h=>?_,fun i z b h=>?_,by simp only[uU,lu,u.cl],fun i z b h=>?_,fun i z b h=>?_,fun i m=>?_,fun i m h=>?_,fun z b=>?_,fun z b=>?_⟩;obtain⟨n,s⟩:=Mq c r h;obtain⟨e,_⟩|⟨_,e,rfl⟩|⟨_,_,b⟩:=v i z b;exact absurd e n;exact u.root p x G c;exact u.root i z b s;rw[E];obtain⟨rfl,rfl⟩|⟨_,rfl,rfl⟩|⟨A,_,b⟩:=v i z b;exact⟨by simp,p,rfl,qw5 u.b6 F M c eq r⟩;exfalso;apply h;unfold gM;rw[c,iy r];obtain⟨Z,j,k2,k3⟩:=u.link i z b<|qx2 c h A;exact⟨Z,j,k2,k3.aW (D:=D)⟩;obtain⟨n,s⟩:=Mq c r h;rw[nM,iy n];obtain⟨e,_⟩|⟨_,e,rfl⟩|⟨_,e,b⟩:=v i z b;exact absurd e n;rw[kh e];simp[hX];rw[iy e];exact u.kd i z b s;obtain⟨n,s⟩:=Mq c r h;rw[nM,iy n];obtain⟨e,_⟩|⟨_,e,rfl⟩|⟨_,e,b⟩:=v i z b;exact absurd e n;rw[kh e];show _++mT _ _=(x.D8++gW g { x with more:=mo,L8:=L8 }).map gA;rw[K,<-zT,LY,U,u.ar p x G c];rfl;rw[iy e];exact u.ar i z b s;rw[E]at m;rw[nM];split;exact Pairwise.nil;split;exact z5h (u.ds p F)<|u.ds q M;exact u.ds i m;rw[E]at m;obtain⟨n,s⟩:=Mq c r h;rw[nM,iy n];split;exact Y;exact u.kr i m s;rw[E];obtain⟨i,m⟩:=mc b;obtain⟨_,rfl⟩|⟨_,_,rfl⟩|⟨_,_,b⟩:=v i z m;exact⟨J.D8,F,J.more,J.cp⟩;exact⟨wx.D8,wx.fw,T,wx.cp⟩;exact u.wf.at b;obtain⟨i,m⟩:=mc b;obtain⟨_,rfl⟩|⟨_,_,rfl⟩|⟨_,_,b⟩:=v i z m;exact⟨yv _,I.mt,I.mo,I.cp,I.ch⟩;refine⟨H.fw,yv _,?_,H.cp,H.ch⟩;show L8<=g;obtain⟨e,_⟩|e:=Q;rw[e];exact H.mo;omega;exact u.kH z (zX b)
structure UR(ws:X Nat)(g:Int)(L:X aU)(W:X (Nat×Nat))(N N':X PN)(aA:Nat->Nat)(B:Nat)(b:Rl):Prop where
 sm:Sm N N'
 wf:Wf N'
 kH:∀x∈N',Mid g x
 yes:b=true->∃C' bS d' D',US ws g N' C' bS d' D'/\D'+M5 C'<=B/\TC ws N.length L [] C' bS/\(∀i j,aA i=aA j->bS i=bS j)/\(∀w∈W,bS w.1=bS w.2)/\∀q,u7 L q->OD N.length (W.map wI) aA q->OD N.length [] bS q
 no:b=false->∀q,u7 L q->OD N.length (W.map wI) aA q->Ju ws L q
def RT{C:X aY}{i:Nat}(b:i<C.length):(E5 C i).D8.length<=M5 C:=by
 obtain⟨x,a⟩:=fJ b;have:E5 C i=x:=by simp[E5,a]
 rw[this];exact Lp a
def Zv{H:dK}{G:X Nat}(hh:oE H G){n:Nat}(hn:2000<=n){g:Int}{L:X aU}:∀(m:Nat)(W:X (Nat×Nat))(N:X PN)(C:X aY)(c d:Nat->Nat)(D:Nat),HW N.length G L->US G g N C c d D->(∀w∈W,w.1<N.length/\w.2<N.length)->TC G N.length L (W.map wI) C c->W.length+M5 C<m->D+W.length+M5 C<n->2*(W.length+M5 C)<=1000000->
  ∃b Q,MC H g n m W N=some (b,Q)/\UR G g L W N Q c (D+W.length+M5 C) b
 |0,W,N,C,c,d,D,_,_,_,_,hm,_,_=>by omega
 |m+1,[],N,C,c,d,D,F,u,Z,J,hm,hD,hB=>⟨true,N,rfl,Sm.refl N,u.wf,u.kH,fun _=>⟨C,c,d,D,u,by simp,J,fun _ _ h=>h,nofun,fun q _ h=>h⟩,nofun⟩|m+1,w::W,N,C,c,d,D,F,u,Z,J,hm,hD,hB=>by
  simp only[zO]at hm hD hB;obtain⟨S,Y⟩:=Z w ca;have yQ:=u.b6.bd _ S;have BZ:=u.b6.bd _ Y;rw[MC,u.find n w.1 ag S,aN,u.find n w.2 ag Y,aN];have pi:Sj N.length (wI w):=⟨⟨by simp[wI],by simp[wI];exact S⟩,by simp[wI],by simp[wI];exact Y⟩;by_cases e:c w.1=c w.2;have e1:Nat.beq (c w.1) (c w.2)=true:=by rw[beq_eq];simp[e]
  rw[e1,zC];obtain⟨b,Q,g1,g2⟩:=Zv hh hn m W N C c d D F u (fun z s=>Z z<|kj _ s) (J.skip pi<|by simpa[wI]using e) ag ag ag;refine⟨b,Q,g1,g2.sm,g2.wf,g2.kH,fun v=>?_,fun v q B A=>g2.no v q B ⟨A.r,fun z s=>A.w z<|kj _ s⟩⟩;obtain⟨C',bS,d',D',k1,R,k3,k4,k5,k6⟩:=g2.yes v;refine⟨C',bS,d',D',k1,by simp;omega,k3,k4,fun z s=>?_,fun q B A=>k6 q B ⟨A.r,fun z s=>A.w z<|kj _ s⟩⟩;obtain rfl |s:=zI.1 s;exact k4 _ _ e;exact k5 z s;have e1:Nat.beq (c w.1) (c w.2)=false:=by rw[beq_eq];simp[e]
  have E:=u.b6.lt _ S;have B:=u.b6.lt _ Y;have K:=u.b6.idem _ S;have eq:=u.b6.idem _ Y;obtain⟨x,I⟩:=fJ E;obtain⟨y,M⟩:=fJ B;rw[e1,zD,I,aN,M,aN];have kx:=u.kd _ x I K;have ky:=u.kd _ y M eq;have krx:=u.kr _ E K;have kry:=u.kr _ B eq;have ax:=u.ar _ x I K;have ay:=u.ar _ y M eq;have T:Mg N.length (wI w) C c (c w.1) (c w.2):=⟨u.cl,E,B,K,eq,e,u.b6.lt,u.b6.idem,pi,.inl ⟨by simp[wI],by simp[wI]⟩,u.ds _ E⟩;rw[<-kx,<-ky];obtain⟨_,⟨r,h1,h2⟩,h3⟩|⟨r,_,h1,h2,h3⟩:=Rz hh krx kry hn;rw[h1,aN,h2];simp only[lf,zC];refine⟨false,N,rfl,Sm.refl N,u.wf,u.kH,nofun,fun _ q O A=>?_⟩;obtain⟨e3,_⟩:=A.aW F T J O (W':=W.map wI) fun z s=>.inr s
  refine⟨c w.1,by rw[F.len];exact E,fun b=>?_⟩;have v:(iY G (E5 C<|c w.1).kind).testBit b=false\/(iY G (E5 C<|c w.2).kind).testBit b=false:=by have:=congrArg (fun x=>x.testBit b) h3;simp only[Fq,qcu,qca]at this;exact this
  have find:∀i,i<N.length->c i=i->(iY G (E5 C i).kind).testBit b=false->∃(j:Nat)(x:aU),L[j]? = some x/\c j=i/\(iY G x.R).testBit b=false:=fun i hi qB hf=>by
   refine zg fun fS=>?_;have:=(J.kd i hi qB b).2 fun j x hj Fc=>by rcases I:(iY G x.R).testBit b with _|_;exact absurd ⟨j,x,hj,Fc,I⟩ fS;rfl
   rw[hf]at this;cases this
  obtain v |v:=v;obtain⟨j,x,q1,q2,q3⟩:=find _ E K v;have V:=(zG.1 q1).1;rw[F.len]at V;exact⟨j,x,q1,A.r _ _ V E (by rw[K,q2]),q3⟩;obtain⟨j,x,q1,q2,q3⟩:=find _ B eq v;have V:=(zG.1 q1).1;rw[F.len]at V;exact⟨j,x,q1,by rw[e3];exact A.r _ _ V B (by rw[eq,q2]),q3⟩;have lx:(bV g x).length<=M5 C:=by have:=RT (C:=C) (i:=c w.1) (by rw[u.cl];exact E);rw[ax,yA]at this;exact this
  have ly:(bV g y).length<=M5 C:=by have:=RT (C:=C) (i:=c w.2) (by rw[u.cl];exact B);rw[ay,yA]at this;exact this
  have RL:C[c w.1]? = some (E5 C<|c w.1):=by obtain⟨z,s⟩:=fJ (l:=C) (i:=c w.1) (by rw[u.cl];exact E);simp[E5,s]
  have hcy:C[c w.2]? = some (E5 C<|c w.2):=by obtain⟨z,s⟩:=fJ (l:=C) (i:=c w.2) (by rw[u.cl];exact B);simp[E5,s]
  have kR:=IH (o:=(E5 C<|c w.1).D8++mT (E5 C<|c w.1).D8 (E5 C<|c w.2).D8) (k:=(W0 (E5 C<|c w.1).D8 (E5 C<|c w.2).D8).length) RL hcy e r (by rw[zU];have:=Ls (E5 C<|c w.1).D8 (E5 C<|c w.2).D8;omega);have lpr:(W0 (E5 C<|c w.1).D8 (E5 C<|c w.2).D8).length<=(bV g y).length:=by
   have h5:=Ls (E5 C<|c w.1).D8 (E5 C<|c w.2).D8;have h7:(E5 C<|c w.2).D8.length=(bV g y).length:=by rw[ay,yA]
   omega
  have lmo:(gW g x).length<=(bV g x).length:=by simp[bV]
  rw[h1,aN];simp only[fX,zD];rw[aE,kh ⟨by omega,by omega⟩];obtain⟨W1,mo,L8,l,g1,g2,g3,g4,g5,g6,g7⟩:=Z_ (g:=g) (p:=c w.1) (mine:=bV g x) (bV g y) W N x I ag ag;rw[g1,aN];simp only;rw[qe E,aN,TI,Ty e,M,aN];rw[<-ax,<-ay]at g2 g4;have u':=u.aW E B K eq e I M h2 g3 g4 g5 g6;have U:((N.set (c w.1) { x with more:=mo,L8:=L8,mt:=r,b9:=g }).set (c w.2) { y with fw:=some<|c w.1,c3:=g }).length=N.length:=by simp
  have wx:=u.wf.at I;have wy:=u.wf.at M;have lW1:W1.length=(W0 (E5 C<|c w.1).D8 (E5 C<|c w.2).D8).length:=by rw[<-g2,yA]
  have tc':=J.aW (W':=(W++W1).map wI) F T (t:=r) (o:=(E5 C<|c w.1).D8++mT (E5 C<|c w.1).D8 (E5 C<|c w.2).D8) h3 (Perm.refl _) (fun z s=>by rw[LY,g2];exact qa _ s) fun z s=>by rw[LY];exact vt _ s
  obtain⟨b,Q,k1,R⟩:=Zv hh hn m (W++W1) _ _ _ _ (D+1) (by rw[U];exact F) u' (fun z s=>by rw[U];obtain s |s:=yD.1 s;exact Z z<|kj _ s;obtain⟨a,ha,b,v,rfl⟩:=g7 z s;exact⟨PD wx a ha,PD wy b v⟩) (by rw[U];exact tc') (by rw[zU];omega) (by rw[zU];omega) (by rw[zU];omega);have hs:Sm N ((N.set (c w.1) { x with more:=mo,L8:=L8,mt:=r,b9:=g }).set (c w.2) { y with fw:=some<|c w.1,c3:=g }):=
   (Sm.set { x with more:=mo,L8:=L8,mt:=r,b9:=g } I rfl rfl).trans (Sm.set { y with fw:=some<|c w.1,c3:=g } (x:=y) (by rw[Ty e];exact M) rfl rfl)
  refine⟨b,Q,k1,hs.trans R.sm,R.wf,R.kH,fun v=>?_,fun v q O A=>?_⟩;obtain⟨C',bS,d',D',j1,j2,j3,j4,j5,j6⟩:=R.yes v;rw[U]at j3 j6;refine⟨C',bS,d',D',j1,by rw[zU]at j2;simp only[zO];omega,j3,fun i j mY=>j4 i j<|gm mY,fun z s=>?_,fun q O A=>j6 q O (A.aW F T J O fun z s=>?_).2⟩;obtain rfl |s:=zI.1 s;refine j4 _ _ ?_;unfold gM;rw[iy e,kh rfl];exact j5 z<|vt _ s;rw[LY,g2]at s;obtain s |s:=yD.1 s;exact .inr s;exact .inl s;have:=R.no v q O;rw[U]at this;refine this (A.aW F T J O fun z s=>?_).2;rw[LY,g2]at s;obtain s |s:=yD.1 s;exact .inr s;exact .inl s
def j?{l:X Nat}{n:Nat}(h:l.Nodup)(a:∀k∈l,k<n):l.length<=n:=by
 have:=Uy n (qvv h) fun v c=>by obtain⟨u,b,rfl⟩:=mem_map.1 c;have:=a u b;omega
 rwa [m?]at this
structure KK(x y:PN):Prop where
 kind:y.kind=x.kind
 D8:y.D8=x.D8
 fw:y.fw=x.fw
 c3:y.c3=x.c3
 mt:y.mt=x.mt
 b9:y.b9=x.b9
 more:y.more=x.more
 L8:y.L8=x.L8
def KK.refl(x:PN):KK x x:=⟨rfl,rfl,rfl,rfl,rfl,rfl,rfl,rfl⟩
variable{x:PN}{y:PN}
def KK.pk(h:KK x y)(g:Int):hX g y=hX g x/\gW g y=gW g x/\bV g y=bV g x:=by
 have a:gW g y=gW g x:=by rw[gW,gW,h.L8,h.more]
 exact⟨by rw[hX,hX,h.b9,h.kind,h.mt],a,by rw[bV,bV,h.D8,a]⟩
def Kp(a N:X PN):Prop:=∀(i:Nat)(x:PN),a[i]? = some x->∃y,N[i]? = some y/\KK x y
def Kp.refl(N:X PN):Kp N N:=fun i x a=>⟨x,a,KK.refl x⟩
section
variable{ws:X Nat}{g:Int}{s N:X PN}{C:X aY}{v d:Nat->Nat}{D n:Nat}
def US.pA(u:US ws g s C v d D)(h:Kp s N):∀(k i:Nat),d i<k->i<s.length->u9 N g k i=some (v i)
 |0,i,q,_=>by omega
 |k+1,i,q,p=>by obtain⟨x,a⟩:=fJ p;obtain⟨y,r,b⟩:=h i x a;rw[u9,r,aN,b.c3,b.fw];by_cases e:v i=i;rw[u.root i x a e,zC,e];obtain⟨c,j,l,m,o,t⟩:=u.link i x a e;rw[c,zD,l,aN,u.pA h k j ag m,o]
def US.uQ(u:US ws g s C v d D)(h:Kp s N)(b:D<n){i:Nat}(a:i<s.length):u9 N g n i=some (v i):=u.pA h n i (by have:=u.b6.bd i a;omega) a
variable{p:Nat}
def US.rR(u:US ws g s C v d D)(a:s[p]? = some x)(b:v p=p):(bV g x).length<=M5 C:=by have:=RT (C:=C) (i:=p) (by rw[u.cl];exact oT a);rw[u.ar p x a b,yA]at this;exact this
def US.to(u:US ws g s C v d D){p:Nat}{x:PN}(b:s[p]? = some x):∀a∈bV g x,a.to<s.length:=PD (u.wf.at b)
def qq2(u:US ws g s C v d D)(z:D<n)(A:s.length<=1000000):∀(l:X dZ)(out:X Nat),(∀a∈l,a.to<s.length)->out.Nodup->(∀k∈out,k<s.length)->
  ∃t,TV s g n l out=some (out++t)/\(out++t).Nodup/\(∀k∈t,∃a∈l,k=v a.to)/\∀a∈l,v a.to∈out++t
 |[],out,_,i,_=>⟨[],by simp[TV],by simpa using i,nofun,nofun⟩|a::l,out,w,i,r=>by
  have B:=w a ca;have G:=u.b6.lt _ B;rw[TV,u.uQ (Kp.refl _) z B,aN];by_cases j:v a.to∈out;have m:out.contains (v a.to)=true:=by simpa using j
  rw[m,zC];obtain⟨t,g1,g2,o,q⟩:=qq2 u z A l out (fun b c=>w b<|kj _ c) i r;refine⟨t,g1,g2,fun k h=>?_,fun b c=>?_⟩;obtain⟨b,c,e⟩:=o k h;exact⟨b,kj _ c,e⟩;obtain rfl |c:=zI.1 c;exact vt _ j;exact q b c;have m:out.contains (v a.to)=false:=by simpa using j
  have J:=j? i r;have I:(out++[v a.to]).Nodup:=by rw[f_];refine⟨i,by simp,fun x H y E=>?_⟩;simp at E;subst E;exact fun e=>j (e ▸ H)
  have F:∀k∈out++[v a.to],k<s.length:=fun k h=>by obtain h |h:=yD.1 h;exact r k h;simp at h;subst h;exact G
  rw[m,zD,aE,kh ag];obtain⟨t,g1,g2,o,q⟩:=qq2 u z A l (out++[v a.to]) (fun b c=>w b<|kj _ c) I F;refine⟨v a.to::t,by rw[g1];simp,by simpa using g2,fun k h=>?_,fun b c=>?_⟩;obtain rfl |h:=zI.1 h;exact⟨a,by simp,rfl⟩;obtain⟨b,c,e⟩:=o k h;exact⟨b,kj _ c,e⟩;obtain rfl |c:=zI.1 c;simp;have:=q b c;simpa using this
structure RO(g:Int)(N:X PN)(v:Nat->Nat)(r:Nat)(out:X Nat):Prop where
 nd:out.Nodup
 lt:∀k∈out,k<N.length
 rp:∀k∈out,v k=k
 hd:r∈out
 W7:∀p∈out,∀x,N[p]? = some x->∀a∈bV g x,v a.to∈out
 ind:∀S:Nat->Prop,S r->(∀p x a,S p->N[p]? = some x->a∈bV g x->S (v a.to))->∀p∈out,S p
def z91(u:US ws g s C v d D)(Q:D<n)(M:s.length<=1000000)(T:M5 C<=1000000){r:Nat}:∀(m i:Nat)(out:X Nat),out.Nodup->(∀k∈out,k<s.length)->(∀k∈out,v k=k)->r∈out->s.length-i<m->i<=out.length->
  (∀(j p:Nat),j<i->out[j]? = some p->∀x,s[p]? = some x->∀a∈bV g x,v a.to∈out)->(∀S:Nat->Prop,S r->(∀p x a,S p->s[p]? = some x->a∈bV g x->S (v a.to))->∀p∈out,S p)->
  ∃o,zo s g n m i out=some o/\RO g s v r o
 |0,i,out,A,l,_,_,hm,U,_,_=>by omega
 |m+1,i,out,A,l,G,K,hm,U,L,H=>by
  have V:=j? A l;rw[zo];by_cases E:i<out.length;obtain⟨p,z⟩:=fJ E;have B:=zX z;obtain⟨x,h⟩:=fJ<|l p B;have W:=u.rR h<|G p B;rw[jl E,zC,z,aN,h,aN,aE,kh ⟨by omega,by omega⟩];obtain⟨t,g1,g2,F,R⟩:=qq2 u Q M (bV g x) out (u.to h) A l;rw[g1,aN];refine z91 u Q M T m (i+1) (out++t) g2 (fun k b=>?_) (fun k b=>?_) (vt _ K) ag (by rw[zU];omega) (fun j q w e y J a c=>?_) fun S O I q e=>?_;obtain b |b:=yD.1 b
  exact l k b;obtain⟨a,c,rfl⟩:=F k b;exact u.b6.lt _<|u.to h a c;obtain b |b:=yD.1 b;exact G k b;obtain⟨a,c,rfl⟩:=F k b;exact u.b6.idem _<|u.to h a c;rw[kl ag]at e;obtain w |rfl:=Nat.lt_succ_iff_lt_or_eq.1 w;exact vt _<|L j q w e y J a c;rw[z]at e;cases e;rw[h]at J;cases J;exact R a c;obtain e |e:=yD.1 e;exact H S O I q e;obtain⟨a,c,rfl⟩:=F q e;exact I p x a (H S O I p B) h c;rw[eJ E,zD];refine⟨out,rfl,A,l,G,K,fun p z x h a c=>?_,H⟩;obtain⟨j,w⟩:=mc z;exact L j p (by have:=(zG.1 w).1;omega) w x h a c
def KM(g:Int)(x y:PN):Prop:=y={ x with ch:=y.ch,c4:=y.c4 }/\(y.c4=x.c4\/y.c4=g)
structure BW(g:Int)(s N:X PN):Prop where
 len:N.length=s.length
 st:∀(i:Nat)(x:PN),s[i]? = some x->∃y,N[i]? = some y/\KM g x y
def KM.kk(h:KM g x y):KK x y:=by rw[h.1];exact⟨rfl,rfl,rfl,rfl,rfl,rfl,rfl,rfl⟩
def BW.kp(h:BW g s N):Kp s N:=fun i x c=>by
 obtain⟨y,a,b⟩:=h.st i x c;exact⟨y,a,b.kk⟩
def BW.refl(g:Int)(N:X PN):BW g N N:=⟨rfl,fun i x a=>⟨x,a,rfl,.inl rfl⟩⟩
def BW.set(h:BW g s N){p:Nat}{y:PN}(j:N[p]? = some y)(c:Rl):BW g s (N.set p { y with ch:=c,c4:=g }):=⟨by simp[h.len],fun i x l=>by
 obtain⟨z,a,b⟩:=h.st i x l;by_cases e:p=i;subst e;rw[j]at a;cases a;refine⟨{ y with ch:=c,c4:=g },by rw[qe<|oT j],?_,.inr rfl⟩;rw[b.1];exact⟨z,by rw[Ty e];exact a,b⟩⟩
def dM(g:Int)(N:X PN)(p:Nat):Rl:=match N[p]? with
 |some x=>BC g x|none=>false
def Sf(h:N[p]? = some x):dM g N p=BC g x:=by rw[dM,h]
def qtk{q:Nat}(a:N[p]? = some y)(c:Rl):dM g (N.set p { y with ch:=c,c4:=g }) q=if q=p then c else dM g N q:=by by_cases e:q=p;subst e;rw[kh rfl,Sf (x:={ y with ch:=c,c4:=g })<|by rw[qe<|oT a]];simp[BC];rw[iy e,dM,dM,Ty<|Wv e]
def Pj(g:Int)(v:Nat->Nat)(x:PN):Rl:=hX g x != x.kind||(decide (((gW g x).length:Int)>0)||x.D8.any fun a=>!Nat.beq (v a.to) a.to)
def z7q{c:Type}{f h:c->Rl}:∀{l:X c},(∀a∈l,f a=h a)->l.any f=l.any h
 |[],_=>rfl|a::l,q=>by rw[qcR,qcR,q a ca,z7q fun b e=>q b<|by simp[e]]
def VH(u:US ws g s C v d D)(o:D<n)(B:∀x∈s,x.D8.length<=1000000):∀(l:X Nat)(N:X PN),BW g s N->(∀p∈l,p<s.length)->
  ∃b,Dd g n l N=some b/\BW g s b/\(∀p∈l,∀x,s[p]? = some x->dM g b p=Pj g v x)/\∀p,p ∉ l->b[p]? = N[p]?
 |[],N,h,_=>⟨N,rfl,h,nofun,fun _ _=>rfl⟩|p::l,N,h,A=>by
  obtain⟨x,i⟩:=fJ<|A p ca;obtain⟨y,r,K⟩:=h.st p x i;have kk:=K.kk;obtain⟨F,G,L⟩:=kk.pk g;have E:∀a∈x.D8,a.to<s.length:=(u.wf.at i).D8;have J:Kq N g n y.D8=true:=by rw[Kq,kk.D8,rj];intro a m;rw[u.uQ h.kp o<|E a m];rfl
  have hm:y.D8.any (OI N g n)=x.D8.any fun a=>!Nat.beq (v a.to) a.to:=by rw[kk.D8];refine z7q fun a m=>?_;rw[OI,u.uQ h.kp o<|E a m]
  have I:(hX g y != y.kind||(decide (((gW g y).length:Int)>0)||y.D8.any (OI N g n)))=Pj g v x:=by rw[hm,F,G,kk.kind];rfl
  rw[Dd,r,aN,J,zC,aE,kh (by rw[kk.D8];exact B x<|zX i),I];obtain⟨b,g1,g2,H,w⟩:=VH u o B l _ (h.set r<|Pj g v x) fun q c=>A q<|kj _ c;refine⟨b,g1,g2,fun q c z t=>?_,fun q c=>?_⟩;by_cases j:q∈l;exact H q j z t;have:q=p:=(zI.1 c).resolve_right j;subst this;rw[i]at t;cases t;rw[dM,w q j,<-dM,qtk r,kh rfl];rw[w q fun h=>c<|kj _ h,Ty fun e=>c (by rw[e];simp)]
def z7r(h:BW g s N):∀(l:X dZ),(∀a∈l,a.to<s.length)->JJ g N l=some (l.any fun a=>dM g N a.to)
 |[],_=>rfl|a::l,c=>by obtain⟨x,e⟩:=fJ (l:=N) (i:=a.to) (by rw[h.len];exact c a ca);rw[JJ,e,aN,qcR,Sf e];obtain _|_:=BC g x;rw[zD,z7r h l fun b j=>c b<|kj _ j,Bool.false_or];rfl
def uc(wf:Wf s)(E:∀x∈s,x.D8.length<=1000000):∀(l:X Nat)(o:Rl)(N:X PN),BW g s N->(∀p∈l,p<s.length)->
  ∃i j,MD g l o N=some (i,j)/\BW g s j/\(∀p,dM g N p=true->dM g j p=true)/\(∀p,p ∉ l->j[p]? = N[p]?)/\ (i=false->o=false/\j=N/\∀p∈l,dM g N p=false->∀x,s[p]? = some x->∀a∈x.D8,dM g N a.to=false)/\(i=true->o=true\/∃p∈l,dM g N p=false/\dM g j p=true)
 |[],o,N,h,_=>⟨o,N,rfl,h,fun _ h=>h,fun _ _=>rfl,fun e=>⟨e,rfl,nofun⟩,fun e=>.inl e⟩|p::l,o,N,h,K=>by
  obtain⟨x,F⟩:=fJ<|K p ca;obtain⟨y,u,O⟩:=h.st p x F;have kk:=O.kk;have I:∀q∈l,q<s.length:=fun q c=>K q<|kj _ c;have G:∀{q},q ∉ p::l->q ∉ l:=fun c h=>c<|kj _ h;rw[MD,u,aN];cases J:BC g y with
  |true=>rw[zC];obtain⟨i,j,g1,g2,t,A,m,B⟩:=uc wf E l o N h I;refine⟨i,j,g1,g2,t,fun q c=>A q<|G c,fun e=>⟨(m e).1,(m e).2.1,fun q c w=>?_⟩,fun e=>(B e).imp id fun⟨q,a,b⟩=>⟨q,kj _ a,b⟩⟩;obtain rfl |c:=zI.1 c;rw[Sf u,J]at w;cases w;exact(m e).2.2 q c w
  |false=>
   have Q:∀a∈y.D8,a.to<s.length:=by rw[kk.D8];exact(wf.at F).D8
   rw[zD,aE,kh (by rw[kk.D8];exact E x<|zX F),z7r h _ Q,aN];cases M:y.D8.any fun a=>dM g N a.to with
   |true=>
    rw[zC];obtain⟨i,j,g1,g2,t,A,m,B⟩:=uc wf E l true _ (h.set u true) I;have L:∀q,dM g N q=true->dM g (N.set p { y with ch:=true,c4:=g }) q=true:=fun q c=>by rw[qtk u];split<;>simp[c]
    refine⟨i,j,g1,g2,fun q c=>t q<|L q c,fun q c=>?_,fun e=>?_,fun e=>.inr ⟨p,by simp,by rw[Sf u,J],t p<|by rw[qtk u,kh rfl]⟩⟩;rw[A q<|G c,Ty fun e=>c (by rw[e];simp)];cases (m e).1
   |false=>rw[zD];obtain⟨i,j,g1,g2,t,A,m,B⟩:=uc wf E l o N h I;refine⟨i,j,g1,g2,t,fun q c=>A q<|G c,fun e=>⟨(m e).1,(m e).2.1,fun q c w z H a r=>?_⟩,fun e=>(B e).imp id fun⟨q,a,b⟩=>⟨q,kj _ a,b⟩⟩;obtain rfl |c:=zI.1 c;rw[F]at H;cases H;rw[<-kk.D8]at r;have:=any_eq_false.1 M a r;simpa using this;exact(m e).2.2 q c w z H a r
def OL(g:Int)(l:X Nat)(N:X PN):Nat:=(l.filter fun p=>!dM g N p).length
def qzl{N a:X PN}(h:∀p,dM g N p=true->dM g a p=true):∀l:X Nat,OL g l a<=OL g l N
 |[]=>zF _|p::l=>by
  have b:=qzl h l;unfold OL at b ⊢;rw[ll,ll];cases c:dM g N p with
  |true=>rw[h p c];simpa using b|false=>cases dM g a p<;>simp<;>omega
def qzm{N a:X PN}(h:∀p,dM g N p=true->dM g a p=true):∀l:X Nat,(∃p∈l,dM g N p=false/\dM g a p=true)->OL g l a<OL g l N
 |[],⟨p,m,_⟩=>(ml m).elim|p::l,⟨q,b,c,e⟩=>by
  have o:=qzl h l;unfold OL at o ⊢;rw[ll,ll];obtain rfl |b:=zI.1 b;rw[c,e];simp;omega;have i:=qzm h l ⟨q,b,c,e⟩;unfold OL at i;cases j:dM g N p with
  |true=>rw[h p j];simpa using i|false=>cases dM g a p<;>simp<;>omega
def VG(wf:Wf s)(t:∀x∈s,x.D8.length<=1000000){l:X Nat}(r:∀p∈l,p<s.length):∀(m:Nat)(N:X PN),BW g s N->OL g l N<m->
  ∃b,Dc g l m N=some b/\BW g s b/\(∀p,dM g N p=true->dM g b p=true)/\(∀p,p ∉ l->b[p]? = N[p]?)/\∀p∈l,dM g b p=false->∀x,s[p]? = some x->∀a∈x.D8,dM g b a.to=false
 |0,N,_,hm=>by omega
 |m+1,N,h,hm=>by
  obtain⟨u,j,g1,g2,i,o,w,z⟩:=uc wf t l false N h r;rw[Dc,g1,aN];cases u with
  |false=>rw[zD];obtain⟨_,e,q⟩:=w rfl;simp only at e ⊢;subst e;exact⟨j,rfl,g2,i,o,q⟩
  |true=>rw[zC];have:=qzm i l<|(z rfl).resolve_left ca;obtain⟨b,A,B,E,F,G⟩:=VG wf t r m j g2 ag;exact⟨b,A,B,fun p c=>E p<|i p c,fun p c=>by rw[F p c,o p c],G⟩
structure MO(g:Int)(v:Nat->Nat)(s N:X PN)(l:X Nat):Prop where
 km:BW g s N
 out:∀p,p ∉ l->N[p]? = s[p]?
 bs:∀p∈l,dM g N p=false->∀x,s[p]? = some x->Pj g v x=false
 cl:∀p∈l,dM g N p=false->∀x,s[p]? = some x->∀a∈x.D8,dM g N a.to=false
def zad(u:US ws g s C v d D)(o:D<n)(h:∀x∈s,x.D8.length<=1000000){l:X Nat}(e:∀p∈l,p<s.length)(B:l.length<n/\l.length<=1000000):∃N,Pm g n l s=some N/\MO g v s N l:=by obtain⟨b,g1,g2,i,j⟩:=VH u o h l s (BW.refl g s) e;obtain⟨N,r,t,w,z,A⟩:=VG u.wf h e n b g2 (by have:OL g l b<=l.length:=Gw _ _;omega);refine⟨N,by rw[Pm,aE,kh B.2,g1,aN,r],t,fun p a=>by rw[z p a,j p a],fun p a c x q=>?_,A⟩;rcases m:Pj g v x with _|_;rfl;have:=w p (by rw[i p a x q,m]);rw[this]at c;cases c
end
structure P_(d' d:X dZ):Prop where
 pm:d'.Perm d
 up:d'.Pairwise fun a b=>a.f<b.f
def zas{d:X dZ}(w:d.length<=1000000)(v:d.Pairwise fun a b=>a.f≠b.f)(o:∀a∈d,0<=a.f/\a.f<1000):∃q,JI d=some q/\P_ q d:=by
 have j:∀x∈d,∀y∈d,i4 (fun a b:dZ=>some<|RowKit.wrap64<|a.f-b.f) x y=decide (x.f<y.f):=fun x c y g=>by
  have i:=o x c;have l:=o y g;have:RowKit.wrap64 (x.f-y.f)=x.f-y.f:=by unfold RowKit.wrap64;omega
  simp only[i4,gK,this];rw[ve];simp;omega
 have n:∀x∈d,∀y∈d,x.f=y.f->x=y:=by
  clear j o w;induction d with
  |nil=>intro x c;cases c|cons a d C=>obtain⟨i,l⟩:=pairwise_cons.1 v;intro x c y g e;obtain r |kx:=zI.1 c<;>obtain t |ky:=zI.1 g;rw[r,t];subst r;exact absurd e<|i y ky;subst t;exact absurd e.symm<|i x kx;exact C l x kx y ky e
 have p:Ap LW (fun a b:dZ=>some<|RowKit.wrap64<|a.f-b.f) d=true:=by
  unfold Ap;rw[rj];intro x c;rw[fO,vP,rj];refine⟨by rw[j x c x c];simp,fun y g=>?_⟩;rw[fO,fO,rj];refine⟨rfl,?_,fun z A=>?_⟩;rw[j x c y g,j y g x c];by_cases e:x.f=y.f;have:=n x c y g e;subst this;simp[LW];have:x.f<y.f\/y.f<x.f:=by omega
  obtain h |h:=this<;>simp[h];rw[j x c y g,j y g z A,j x c z A];rw[fO,nw,nw,nw,vP,vP,qca,qcj,qcj,qcj,Bm,Bm,Bm];omega
 refine⟨_,by rw[JI,yt,p,Bool.and_true,tA w,zC],PE _ _,?_⟩;have B:=qog qzr p;have i:fL _ _:=qqk B d fun y g=>g;have l:(gR (i4 fun a b:dZ=>some<|RowKit.wrap64<|a.f-b.f) d).Pairwise fun a b=>a.f≠b.f:=(PE _ d).symm.pairwise v fun{a b} h=>Wv h;have m:∀x∈gR (i4 fun a b:dZ=>some<|RowKit.wrap64<|a.f-b.f) d,x∈d:=fun x c=>(PE _ d).mem_iff.1 c;revert i l m;generalize gR (i4 fun a b:dZ=>some<|RowKit.wrap64<|a.f-b.f) d=s;intro i l m;unfold fL at i;have:=Pairwise.and i l;refine qcS (fun{a b} ha hb h=>?_) this;have u:=h.1;rw[j b (m b hb) a<|m a ha]at u;have D:=h.2;simp at u;omega
section
variable{ws:X Nat}{g:Int}{c j:X PN}{C:X aY}{m d:Nat->Nat}{D n:Nat}
def jK(g:Int)(j:X PN)(out:X Nat)(i:Nat):Nat:=if dM g j i=true then j.length+(out.filter<|dM g j).idxOf i else i
structure P1(g:Int)(j:X PN)(out dn:X Nat)(N:X PN):Prop where
 len:N.length=j.length+(dn.filter (dM g j)).length
 o2:∀(i:Nat)(x:PN),j[i]? = some x->i ∉ dn->N[i]? = some x
 o0:∀(i:Nat)(x:PN),j[i]? = some x->i∈dn->N[i]? = some { x with cp:=some (jK g j out i),c8:=g }
 new:∀(k p:Nat)(x:PN),(dn.filter (dM g j))[k]? = some p->j[p]? = some x->N[j.length+k]? = some (gX (hX g x) [])
def z8t{out a l:X Nat}{p:Nat}(e:out=a++p::l)(i:out.Nodup)(b:dM g j p=true):jK g j out p=j.length+(a.filter<|dM g j).length:=by
 rw[jK,kh b,e,od,ll,b,kh rfl,ns];have:p ∉ a.filter (dM g j):=fun h=>by have h:=(mem_filter.1 h).1;rw[e,f_]at i;exact i.2.2 p h p ca rfl
 rw[iy this];simp
def qvt{l:X Nat}{p q k:Nat}(h:(l++[p])[k]? = some q):l[k]? = some q\/(k=l.length/\q=p):=by
 by_cases b:k<l.length;rw[kl b]at h;exact .inl h;rw[kq ag]at h;have e:k-l.length<1:=(zG.1 h).1;have a:k-l.length=0:=by omega
 rw[a]at h;simp at h;exact .inr ⟨by omega,h.symm⟩
def O_{out:X Nat}(z:out.Nodup)(F:∀p∈out,p<j.length):∀(l b:X Nat)(N:X PN)(s:Int),out=b++l->P1 g j out b N->0<=s->s+(l.length:Int)<=1000000->
  ∃A,V9 g l N s=some (A,s+((l.filter<|dM g j).length:Int))/\P1 g j out out A
 |[],b,N,s,u,h,_,_=>by
  have:b=out:=by rw[u];simp
  subst this;exact⟨N,by simp[V9],h⟩
 |p::l,b,N,s,u,h,L,O=>by
  have M:=F p (by rw[u];simp);obtain⟨x,w⟩:=fJ M;have I:p ∉ b:=fun q=>by rw[u,f_]at z;exact z.2.2 p q p ca rfl
  have J:=h.o2 p x w I;have E:=h.len;have H:p<N.length:=oT J;simp only[zO]at O;rw[V9,J,aN,<-Sf (N:=j) w,ll];cases B:dM g j p with
  |true=>
   rw[zC,kh rfl];have K:=z8t u z B;have Q:i64.wrap (s+1)=s+1:=wrap_i64 ag ag;rw[Q];have G:P1 g j out (b++[p]) ((N++[gX (hX g x) []]).set p { x with cp:=some N.length,c8:=g }):=by
    have v:(b++[p]).filter (dM g j)=b.filter (dM g j)++[p]:=by simp[od,B]
    refine⟨by rw[v];simp;omega,fun i y a t=>?_,fun i y a t=>?_,fun k q y r a=>?_⟩;have o:i ∉ b/\i≠p:=by simpa using t
    rw[Ty<|Wv o.2,kl (by rw[E];have:=oT a;omega)];exact h.o2 i y a o.1;by_cases e:i=p;subst e;rw[w]at a;cases a;rw[qe (by simp;omega),K,E];have o:i∈b:=by simpa[e]using t
    rw[Ty<|Wv e,kl (by rw[E];have:=oT a;omega)];exact h.o0 i y a o;rw[v]at r;rw[Ty ag];obtain r |⟨rfl,rfl⟩:=qvt r;have:=(zG.1 r).1;rw[kl ag];exact h.new k q y r a;rw[w]at a;cases a;rw[kq ag];simp[E]
   obtain⟨A,g1,g2⟩:=O_ z F l (b++[p]) _ (s+1) (by rw[u];simp) G ag ag;exact⟨A,by rw[g1,zO];congr 2;omega,g2⟩
  |false=>
   rw[zD,iy ca];have G:P1 g j out (b++[p]) (N.set p { x with cp:=some p,c8:=g }):=by
    have v:(b++[p]).filter (dM g j)=b.filter (dM g j):=by simp[od,B]
    refine⟨by rw[v];simp;omega,fun i y a t=>?_,fun i y a t=>?_,fun k q y r a=>?_⟩;have o:i ∉ b/\i≠p:=by simpa using t
    rw[Ty<|Wv o.2];exact h.o2 i y a o.1;by_cases e:i=p;subst e;rw[w]at a;cases a;rw[qe H,jK,B,iy ca];have o:i∈b:=by simpa[e]using t
    rw[Ty<|Wv e];exact h.o0 i y a o;rw[v]at r;rw[Ty ag];exact h.new k q y r a
   exact O_ z F l (b++[p]) _ s (by rw[u];simp) G L ag
def P1.nil(out:X Nat):P1 g j out [] j:=⟨by simp,fun _ _ h _=>h,fun _ _ _ h=>(ml h).elim,fun _ _ _ h=>by simp at h⟩
def NY(g:Int)(j:X PN)(out:X Nat)(m:Nat->Nat)(a:dZ):dZ:=⟨a.f,jK g j out<|m a.to⟩
def z7y(u:US ws g c C m d D)(q:D<n){N:X PN}(i:Kp c N){out:X Nat}(r:∀p∈out,∃y,N[p]? = some y/\y.cp=some (jK g j out p)/\y.c8=g):∀(l e:X dZ),(∀a∈l,a.to<c.length/\m a.to∈out)->e.length+l.length<=1000000->zf N g n l e=some (e++l.map (NY g j out m))
 |[],e,_,_=>by simp[zf]
 |a::l,e,o,A=>by
  obtain⟨t,v⟩:=o a ca;obtain⟨y,B,z,h⟩:=r _ v;simp only[zO]at A;have s:I0 g y=some (jK g j out<|m a.to):=by rw[I0,h,z];simp
  rw[zf,u.uQ i q t,aN,B,aN,s,aN,aE,kh ag,z7y u q i r l _ (fun b w=>o b<|kj _ w) (by simp;omega)];simp[NY]
structure P2(g:Int)(j N2:X PN)(m:Nat->Nat)(out dn:X Nat)(N:X PN):Prop where
 len:N.length=N2.length
 W3:∀i,i<j.length->N[i]? = N2[i]?
 r8:∀(k p:Nat)(x:PN),(dn.filter (dM g j))[k]? = some p->j[p]? = some x->∃d',N[j.length+k]? = some (gX (hX g x) d')/\P_ d' ((bV g x).map (NY g j out m))
 r9:∀k,(dn.filter (dM g j)).length<=k->N[j.length+k]? = N2[j.length+k]?
def N_(u:US ws g c C m d D)(Q:D<n)(t:Kp c j)(F:j.length=c.length){out:X Nat}(T:out.Nodup)(E:∀p∈out,p<j.length){K:X PN}(s:P1 g j out out K)
  (v:∀p∈out,∀x,j[p]? = some x->(bV g x).length<=1000000/\(bV g x).Pairwise (fun a b=>a.f≠b.f)/\∀a∈bV g x,(0<=a.f/\a.f<1000)/\a.to<c.length/\m a.to∈out):∀(l o:X Nat)(N:X PN),out=o++l->P2 g j K m out o N->
  ∃U,QH g n l N (j.length+(o.filter<|dM g j).length)=some U/\P2 g j K m out out U
 |[],o,N,A,h=>by
  have:o=out:=by rw[A];simp
  subst this;exact⟨N,by rw[QH,aE,kh<|by rw[h.len,s.len]],h⟩
 |p::l,o,N,A,h=>by
  have B:p∈out:=by rw[A];simp
  have Y:=E p B;obtain⟨x,J⟩:=fJ Y;have hN:N[p]? = some { x with cp:=some<|jK g j out p,c8:=g }:=by rw[h.W3 p Y];exact s.o0 p x J B
  have Gx:I0 g { x with cp:=some<|jK g j out p,c8:=g }=some (jK g j out p):=by simp[I0]
  rw[QH,hN,aN,Gx,aN];cases H:dM g j p with
  |false=>
   have M:Nat.beq (jK g j out p) p=true:=by rw[beq_eq,jK,H];simp
   rw[M,zC];have w:(o++[p]).filter (dM g j)=o.filter (dM g j):=by simp[od,H]
   have:=N_ u Q t F T E s v l (o++[p]) N (by rw[A];simp) ⟨h.len,h.W3,fun k q y e r=>h.r8 k q y (by rw[w]at e;exact e) r,fun k e=>h.r9 k (by rw[w]at e;exact e)⟩;rw[w]at this;exact this
  |true=>
   have I:=z8t A T H;have M:Nat.beq (jK g j out p) p=false:=by rw[beq_eq,I];simp;omega
   have w:(o++[p]).filter (dM g j)=o.filter (dM g j)++[p]:=by simp[od,H]
   have rk:(out.filter<|dM g j)[(o.filter<|dM g j).length]? = some p:=by rw[A,od,ll,H,kh rfl,kq<|zF _];simp
   have G:N[jK g j out p]? = some (gX (hX g x) []):=by rw[I,h.r9 _<|zF _];exact s.new _ p x rk J
   obtain⟨L,a2,a3⟩:=v p B x J;have Z:bV g { x with cp:=some<|jK g j out p,c8:=g }=bV g x:=rfl;rw[M,zD,G,aN,aE,kh ⟨I,by omega,by rw[Z];exact L⟩,Z];have hK:Kp c N:=fun i z S=>by obtain⟨y,r,e⟩:=t i z S;have O:=oT r;rw[h.W3 i O];by_cases V:i∈out;exact⟨_,s.o0 i y r V,⟨e.kind,e.D8,e.fw,e.c3,e.mt,e.b9,e.more,e.L8⟩⟩;exact⟨y,s.o2 i y r V,e⟩
   have eZ:∀q∈out,∃y,N[q]? = some y/\y.cp=some (jK g j out q)/\y.c8=g:=fun q R=>by obtain⟨z,S⟩:=fJ<|E q R;exact⟨_,by rw[h.W3 q<|E q R];exact s.o0 q z S R,rfl,rfl⟩
   rw[z7y u Q hK eZ (bV g x) [] (fun a v=>(a3 a v).2) (by simp;exact L),aN,eY];obtain⟨W,k1,k2⟩:=zas (d:=(bV g x).map (NY g j out m)) (by simp;exact L) (by rw[XN];exact a2) (fun b hb=>by obtain⟨a,v,rfl⟩:=mem_map.1 hb;exact(a3 a v).1);rw[k1,aN];have Fk:=oT G;have:=N_ u Q t F T E s v l (o++[p]) (N.set (jK g j out p) { gX (hX g x) []with D8:=W }) (by rw[A];simp) ⟨by simp[h.len],fun i O=>by rw[Ty ag];exact h.W3 i O,fun k q y e r=>?_,fun k e=>?_⟩;rw[w]at this;simpa[my]using this;rw[w]at e;obtain e |⟨rfl,rfl⟩:=qvt e;have:=(zG.1 e).1;rw[Ty ag];exact h.r8 k q y e r;rw[J]at r;cases r;refine⟨W,?_,k2⟩;rw[<-I,qe Fk];rfl;rw[w]at e;simp at e;rw[Ty ag];exact h.r9 k ag
end
inductive Wk(f:cb):Int->List Int->Int->Prop
 |nil (v:Int):Wk f v [] v
 |cons {v w:Int} {a:aL} {p:List Int}:a∈(nd f v).E2->Wk f a.To p w->Wk f v (a.D9::p) w
variable{f:cb}{v:Int}{w:Int}
def Wk.inv{q:X Int}(h:Wk f v q w):∀{x:Int}{p:X Int},q=x::p->∃b∈(nd f v).E2,b.D9=x/\Wk f b.To p w:=by cases h with|nil=>intro x p e;cases e| @cons _ _ a g c d=>intro x p e;cases e;exact⟨a,c,rfl,d⟩
variable{p:X Int}
def Wk.CZ(l:m7 f)(h:Wk f v p w):fU f v->∀{c},Wk f v p c->c=w:=by induction h with|nil v=>intro _ c d;cases d;rfl| @cons v w a p e q n=>intro m c d;have g:=l _ (xZ m).2;obtain⟨b,i,j,o⟩:=d.inv rfl;have:=g.aR.eq a e b i j.symm;subst this;have:=g.O9 a e;exact n ⟨this.2.1,this.2.2⟩ o
def Wk.W4(d:m7 f)(h:Wk f v p w)(b:fU f v):fU f w:=by induction h with|nil v=>exact b| @cons v w a p c g e=>have:=(d _ (xZ b).2).O9 a c;exact e ⟨this.2.1,this.2.2⟩
def Wk.snoc(h:Wk f v p w){a:aL}(b:a∈(nd f w).E2):Wk f v (p++[a.D9]) a.To:=by induction h with|nil v=>exact .cons b (.nil _)|cons c _ d=>exact .cons c (d b)
def Rc(f:cb)(v w:Int):Prop:=∃p,Wk f v p w
def Rc.refl(f:cb)(v:Int):Rc f v v:=⟨[],.nil v⟩
def Rc.snoc{f:cb}{v w:Int}(h:Rc f v w){a:aL}(b:a∈(nd f w).E2):Rc f v a.To:=h.elim fun p c=>⟨_,c.snoc b⟩
def Ix(x:PN):aY:=⟨-1,x.kind,x.D8.map gA⟩
variable{N:X PN}{i:Nat}{x:PN}
def Bj(h:N[i]? = some x):E5 (N.map Ix) i=Ix x:=by simp[E5,h]
def Old.pk{g:Int}(h:Old g x):hX g x=x.kind/\gW g x=[]/\bV g x=x.D8:=by
 have b:(x.b9 != g)=true:=by have:=h.mt;simp;omega
 have c:(x.L8 != g)=true:=by have:=h.mo;simp;omega
 have a:gW g x=[]:=by rw[gW,c];rfl
 exact⟨by rw[hX,b];rfl,a,by rw[bV,a,il]⟩
variable{ws:X Nat}
def Jy{g:Int}(c:CO N)(wf:Wf N)(d:∀x∈N,Old g x)(e:∀x∈N,0<=x.kind/\x.kind<(ws.length:Int)):US ws g N (N.map Ix) id (fun _=>0) 0:=by refine⟨⟨fun i b=>b,fun _ _=>rfl,fun _ _=>rfl,fun _ _=>zF _⟩,fun i x a _=>?_,fun i x a h=>absurd rfl h,by simp,fun i x a _=>?_,fun i x a _=>?_,fun i b=>?_,fun i b _=>?_,wf,fun x a=>(d x a).kH⟩;have:=(d x<|zX a).fw;simp;omega;rw[Bj a,(d x<|zX a).pk.1];rfl;rw[Bj a,(d x<|zX a).pk.2.2];rfl;obtain⟨x,a⟩:=fJ b;rw[Bj a];exact(c.up x<|zX a).aR;obtain⟨x,a⟩:=fJ b;rw[Bj a];exact e x (zX a)
def Ly{j:Nat}{c:aU}(h:(core N).D6[j]? = some c):∃x,N[j]? = some x/\c=cN x:=by simp only[core,vz]at h;rcases a:N[j]? with _|x;rw[a]at h;cases h;rw[a]at h;exact⟨x,rfl,(Option.some.inj h).symm⟩
def VN{j:Nat}(h:N[j]? = some x):(core N).D6[j]? = some (cN x):=by simp[core,h]
def Dr(c:CO N):HW N.length ws (core N).D6:=⟨jI N,fun j x a d b=>by
 have:=(c.M6 x<|zX d).O9 a b;rw[jI]at this;exact this.2⟩
def tc0(W:X (Int×Int)):TC ws N.length (core N).D6 W (N.map Ix) id:=by refine⟨fun j c a g n=>?_,fun i b l _ m=>?_,fun i l _ k=>?_⟩;obtain⟨x,d,rfl⟩:=Ly g;exact⟨a,by rw[id,Bj d];exact n,rfl,fun _ _ _=>rfl⟩;obtain⟨x,d⟩:=fJ l;rw[Bj d]at m;exact⟨i,cN x,VN d,rfl,m⟩;obtain⟨x,d⟩:=fJ l;rw[Bj d];constructor;intro h j c g e;have e:j=i:=e;subst e;rw[VN d]at g;cases g;exact h;intro h;exact h i (cN x) (VN d) rfl
def qG(C:X aY)(a:Nat->Nat)(N:Nat):cb:=⟨(List.range N).map fun i=>if a i=i then CK a (E5 C i)else⟨0,[]⟩⟩
variable{o:Nat->Nat}
def H_{C:X aY}{N:Nat}(a:i<N)(b:o i=i):(qG C o N).D6[i]? = some (CK o<|E5 C i):=by simp[qG,a,b]
def UK{C:X aY}{N:Nat}(a:i<N)(b:o i=i):nd (qG C o N) (i:Int)=CK o (E5 C i):=by rw[nd,zZ,H_ a b];rfl
def XO{l:X aL}(h:m8 l):m8 (l.map<|nY o):=by unfold m8 at*;rw[XN];exact h
section
variable{ws:X Nat}{g:Int}{f:X PN}{C:X aY}{o d:Nat->Nat}{D n:Nat}{L:X aU}
def US.vB(u:US ws g f C o d D)(r:HW f.length ws L)(O:∀c∈L,∀a∈c.E2,0<=a.D9)(A:TC ws f.length L [] C o):m7 (qG C o f.length):=fun x q=>by
 have z:(qG C o f.length).D6.length=f.length:=by simp[qG]
 simp only[qG]at q;obtain⟨i,h,rfl⟩:=mem_map.1 q;have h:i<f.length:=by simpa using h
 by_cases e:o i=i;rw[kh e];refine⟨(u.kr i h e).1,XO<|u.ds i h,fun a s=>?_⟩;obtain⟨b,t,rfl⟩:=mem_map.1 s;obtain⟨j,c,l,B,m⟩:=A.snd i b h e t;have E:=r.ar j c b l m;have F:=u.b6.lt b.To.toNat ag;rw[z];simp only[nY,rI];exact⟨O c (zX l) b m,by omega,by omega⟩;rw[iy e];exact⟨yv _,Pairwise.nil,nofun⟩
def US.qg(u:US ws g f C o d D)(F:HW f.length ws L)(s:TC ws f.length L [] C o):QG ws L o (qG C o f.length):=by
 have m:=F.len;have node:∀{i:Nat}{x:aU},(qG C o f.length).D6[i]? = some x->o i=i->i<f.length/\x=CK o (E5 C i):=fun{i x} l h=>by
  have c:i<f.length:=by have:=(zG.1 l).1;simpa[qG]using this
  rw[H_ c h]at l;exact⟨c,(Option.some.inj l).symm⟩
 refine⟨by simp[qG,m],fun i c=>?_,fun i x l h=>?_,fun i x l h=>?_,fun j y a z G=>?_,fun i x b l h H=>?_⟩;rw[m]at c ⊢;exact⟨u.b6.lt i c,u.b6.idem i c⟩;obtain⟨c,rfl⟩:=node l h;exact⟨u.kr i c h,s.kd i c h⟩;obtain⟨c,rfl⟩:=node l h;exact XO<|u.ds i c;obtain⟨b,A,B,E⟩:=s.nZ j y a z G;have r:=(zG.1 z).1;rw[m]at r;refine⟨CK o<|E5 C<|o j,nY o b,H_ (u.b6.lt j r)<|u.b6.idem j r,W2 A,B,?_⟩;simp only[nY,rI];rw[E o (fun _ _ _ _ e=>e) fun _ I=>by cases I];obtain⟨c,rfl⟩:=node l h;obtain⟨t,q,rfl⟩:=mem_map.1 H;obtain⟨j,y,q1,q2,q3⟩:=s.snd i t c h q;exact⟨j,y,t,q1,q2,q3,rfl,rfl⟩
def US.W7(u:US ws g f C o d D)(s:HW f.length ws L)(h:TC ws f.length L [] C o):u7 L o:=fun i j x y a b q A e t z H=>by
 obtain⟨l,B,I,E⟩:=h.nZ i x a q t;obtain⟨m,q1,q2,q3⟩:=h.nZ j y b A z;have r:=(zG.1 q).1;rw[s.len]at r;rw[<-e]at q1;have:l=m:=(u.ds _<|u.b6.lt i r).eq l B m q1 ag;subst this;have F:=E o (fun _ _ _ _ e=>e) (fun _ c=>by cases c);have G:=q3 o (fun _ _ _ _ e=>e) (fun _ c=>by cases c);omega
def US.nW(u:US ws g f C o d D)(e:HW f.length ws L)(q:∀w∈ws,w≠0)(h:TC ws f.length L [] C o):¬ Ju ws L o:=fun⟨i,a,l⟩=>by
 rw[e.len]at a;have b:=u.b6.lt i a;have c:=u.b6.idem i a;have m:=u.kr _ b c;obtain⟨k,r⟩:=N!<|q _<|zX<|As m;obtain⟨j,x,q1,q2,q3⟩:=l k;have:=(h.kd _ b c k).1 r j x q1 q2;rw[q3]at this;cases this
def QG.wk{r:Nat->Nat}{q:cb}(h:QG ws L r q)(E:∀(j:Nat)(c:aU)(a:aL),L[j]? = some c->a∈c.E2->0<=a.To/\a.To<(L.length:Int))(t:Wk ⟨L⟩ v p w):(0<=v/\v<(L.length:Int))->Wk q (r v.toNat:Int) p (r w.toNat:Int):=by
 induction t with
 |nil v=>intro _;exact .nil _| @cons v w a p m t F=>
  intro G;obtain⟨c,s⟩:=fJ (l:=L) (i:=v.toNat) ag;have e:nd ⟨L⟩ v=c:=by simp[nd,s]
  rw[e]at m;obtain⟨x,b,u,z,A,B⟩:=h.nZ _ c a s m;have:=F<|E _ c a s m;rw[<-A];refine .cons (a:=b) ?_ (by rw[B];exact this);simp[nd,u];exact z
end
structure yl(ws:X Nat)(g:Int)(Nu:X PN)(Q:cb)(r:Nat)(N3:X PN)(c k:Nat)(out:X Nat)(V:Nat->Nat):Prop where
 co:CO N3
 ex:Ex Nu.length Nu N3
 wf:Wf N3
 len:N3.length=Nu.length+k
 W3:∀x∈N3,Old (g+1) x
 kr:∀x∈N3,0<=x.kind/\x.kind<(ws.length:Int)
 ft:∀x∈N3,∀a∈x.D8,0<=a.f/\a.f<1000
 rt:c=V r/\r∈out
 lt:∀p∈out,p<Nu.length/\V p<N3.length
 oF:∀p∈out,(nd (core N3) (V p:Int)).R=(nd Q (p:Int)).R/\∀b,b∈(nd (core N3) (V p:Int)).E2↔∃a∈(nd Q (p:Int)).E2,∃q:Nat,a.To=(q:Int)/\q∈out/\b=⟨a.D9,(V q:Int)⟩
 inj:∀p∈out,∀q∈out,V p=V q->p=q
 low:∀p∈out,V p<Nu.length->V p=p
 new:∀i,Nu.length<=i->i<N3.length->∃p∈out,V p=i
 k:k<=out.length
 z8:∀p∈out,Rc Q (r:Int) (p:Int)
 cl:∀p∈out,∀a∈(nd Q (p:Int)).E2,∃q∈out,a.To=(q:Int)
 can:bX (core N3) (c:Int)=bX Q (r:Int)
 ord:out.length<=(bQ Q (r:Int)).length
def Ol{d n:Type}[DecidableEq n]{R:d->n->Prop}(j:∀a x y,R a x->R a y->x=y):∀(v11:X d)(l:X n),l.Nodup->(∀x∈l,∃a∈v11,R a x)->l.length<=v11.length
 |[],[],_,_=>zF _|[],x::l,_,h=>by obtain⟨a,t,_⟩:=h x ca;cases t
 |a::v11,l,m,h=>by
  by_cases e:∃x∈l,R a x;obtain⟨x,e,u⟩:=e;have s:=Ol j v11 (l.erase x) (m.erase x) fun y g=>by obtain⟨r,z⟩:=m.mem_erase_iff.1 g;obtain⟨b,c,q⟩:=h y z;obtain rfl |c:=zI.1 c;exact absurd (j _ _ _ q u) r;exact⟨b,c,q⟩
  have A:=qcQ e;simp only[zO];omega;have s:=Ol j v11 l m fun y g=>by obtain⟨b,c,q⟩:=h y g;obtain rfl |c:=zI.1 c;exact absurd ⟨y,g,q⟩ e;exact⟨b,c,q⟩
  simp only[zO];omega
def z5s{l:X Nat}(h:l.Nodup){k p:Nat}(b:k<l.length)(c:l[k]=p):l.idxOf p=k:=by have hm:p∈l:=c ▸ kG b;have a:=idxOf_lt_length_iff.2 hm;have d:=zc a;have g:=pairwise_iff_getElem.1 h;obtain e |e |e:=Nat.lt_trichotomy (l.idxOf p) k;exact absurd (d.trans c.symm)<|g _ _ a b e;exact e;exact absurd (c.trans d.symm) (g _ _ b a e)
def z9w{N:X PN}{K:Nat}(j:N.length<=1000000)(l:∀x∈N,x.D8.length<=1000000)(h:∀x∈N,0<=x.kind)(m:∀x∈N,x.D8.Pairwise fun a b=>a.f<b.f)(g:∀x∈N,∀a∈x.D8,0<=a.f)(wf:Wf N):CO N:=by
 have up:∀x∈N,gZ (x.D8.map gA):=fun x c=>by unfold gZ;rw[XN];exact m x c
 refine⟨fun y n=>?_,up,j,l⟩;rw[jI];obtain⟨x,c,rfl⟩:=mem_map.1 n;refine⟨h x c,(up x c).aR,fun a e=>?_⟩;obtain⟨b,d,rfl⟩:=mem_map.1 e;have:=(wf x c).D8 b d;exact⟨g x c b d,by simp only[gA];omega,by simp only[gA];omega⟩
def CO.wJ{N:X PN}(c:CO N):∀x∈N,x.D8.Pairwise fun a b=>a.f<b.f:=fun x d=>by
 have:=c.up x d;unfold gZ at this;rw[XN]at this;exact this
section
variable{ws:X Nat}{g:Int}{l:X PN}{C:X aY}{o d:Nat->Nat}{D n:Nat}
def kc(u:US ws g l C o d D)(co:CO l)(tc:TC ws l.length (core l).D6 [] C o)(hn:D<n/\l.length<n)(hN:2*l.length<=1000000)(hC:M5 C<=1000000)
  (H:∀x∈l,0<=x.kind/\x.kind<(ws.length:Int)) (hf:∀x∈l,∀a∈x.D8,0<=a.f/\a.f<1000) (hg:0<=g) {s:Int} (h0:0<=s) (hs:s+(l.length:Int)<=1000000) {r:Nat} (hr:r<l.length) (hrr:o r=r):
  ∃(c:Nat)(I:X PN)(k:Nat)(out:X Nat)(V:Nat->Nat),Kn g n l s r=some (c,I,s+(k:Int))/\yl ws g l (qG C o l.length) r I c k out V:=by
 have hL:=Dr (ws:=ws) co;obtain⟨out,o1,F⟩:=z91 u hn.1 ag hC (r:=r) n 0 [r] ca (fun k H=>by simp at H;subst H;exact hr) (fun k H=>by simp at H;subst H;exact hrr) ca ag ca (fun j p hj=>ag) (fun S hS _ p A=>by simp at A;subst A;exact hS);have FY:=j? F.nd F.lt;obtain⟨Nm,m1,m2⟩:=zad u hn.1 co.sm F.lt ⟨by omega,by omega⟩;have w9:=m2.km.len;have aH:∀p∈out,p<Nm.length:=fun p A=>by rw[w9];exact F.lt p A
 obtain⟨N2,p1,p2⟩:=O_ (g:=g) F.nd aH out [] Nm s rfl (P1.nil out) h0 ag;have iX:∀p∈out,∃x y,l[p]? = some x/\Nm[p]? = some y/\KM g x y/\hX g y=hX g x/\bV g y=bV g x/\(E5 C p).kind=hX g x/\(E5 C p).D8=(bV g x).map gA:=fun p A=>by obtain⟨x,B⟩:=fJ<|F.lt p A;obtain⟨y,G,H⟩:=m2.km.st p x B;obtain⟨e1,e2,e3⟩:=H.kk.pk g;exact⟨x,y,B,G,H,e1,e3,u.kd p x B<|F.rp p A,u.ar p x B<|F.rp p A⟩
 have Y:∀p∈out,∀x,l[p]? = some x->(bV g x).Pairwise (fun a b=>a.f≠b.f)/\∀a∈bV g x,(0<=a.f/\a.f<1000)/\a.to<l.length/\o a.to∈out:=fun p A x B=>by
  have e:=u.ar p x B<|F.rp p A;refine⟨?_,fun a E=>⟨?_,u.to B a E,F.W7 p A x B a E⟩⟩;have:=u.ds p<|F.lt p A;rw[e]at this;unfold m8 at this;rw[XN]at this;exact this;have hm:gA a∈(E5 C p).D8:=by rw[e];exact W2 E
  obtain⟨j,c,q1,q2,q3⟩:=tc.snd p _ (F.lt p A) (F.rp p A) hm;obtain⟨z,hz,rfl⟩:=Ly q1;obtain⟨b,U,e2⟩:=mem_map.1 q3;have:=hf z (zX hz) b U;have e3:b.f=a.f:=congrArg aL.D9 e2;omega
 obtain⟨I,q1,q2⟩:=N_ u hn.1 m2.km.kp w9 F.nd aH p2 (fun p A y G=>by obtain⟨x,y',B,qA,_,_,e3,_,_⟩:=iX p A;rw[G]at qA;cases qA;rw[e3];exact⟨by have:=u.rR B<|F.rp p A;omega,Y p A x B⟩) out [] N2 rfl ⟨rfl,fun _ _=>rfl,fun _ _ _ h=>by simp at h,fun _ _=>rfl⟩;have hN3:I.length=l.length+(out.filter<|dM g Nm).length:=by rw[q2.len,p2.len,w9]
 have yW:(out.filter<|dM g Nm).length<=out.length:=Gw _ _;have W3:∀(i:Nat)(x:PN),l[i]? = some x->∃y,I[i]? = some y/\KK x y/\(y.c8=x.c8\/y.c8=g)/\(y.c4=x.c4\/y.c4=g)/\(GC I.length y.cp):=fun i x B=>by
  obtain⟨y,G,H⟩:=m2.km.st i x B;have hi:=oT G;have RM:GC I.length x.cp:=GC.le ag (u.wf.at B).cp;rw[q2.W3 i hi];by_cases Pc:i∈out
  ·refine⟨_,p2.o0 i y G Pc,⟨H.kk.kind,H.kk.D8,H.kk.fw,H.kk.c3,H.kk.mt,H.kk.b9,H.kk.more,H.kk.L8⟩,.inr rfl,H.2,?_⟩;show jK g Nm out i<I.length;unfold jK;split
   ·next O=>have:=idxOf_lt_length_iff.2 (mem_filter.2 ⟨Pc,O⟩:i∈out.filter (dM g Nm));omega
   omega
  refine⟨y,p2.o2 i y G Pc,H.kk,.inl ?_,H.2,?_⟩;rw[H.1];rw[H.1];exact RM
 have new:∀k,k<(out.filter<|dM g Nm).length->∃p x d',(out.filter<|dM g Nm)[k]? = some p/\p∈out/\dM g Nm p=true/\l[p]? = some x/\I[l.length+k]? = some (gX (hX g x) d')/\P_ d' ((bV g x).map (NY g Nm out o)):=fun k H=>by obtain⟨p,A⟩:=fJ H;have BL:=mem_filter.1<|zX A;obtain⟨x,y,B,G,_,e1,e3,_,_⟩:=iX p BL.1;obtain⟨d',k1,W⟩:=q2.r8 k p y A G;rw[e1,w9]at k1;rw[e3]at W;exact⟨p,x,d',A,BL.1,BL.2,B,k1,W⟩
 have pil:∀p∈out,jK g Nm out p<I.length:=fun p A=>by
  unfold jK;split
  ·next O=>have:=idxOf_lt_length_iff.2 (mem_filter.2 ⟨A,O⟩:p∈out.filter (dM g Nm));omega
  have:=F.lt p A;omega
 have M:∀y∈I,(0<=y.kind/\y.kind<(ws.length:Int))/\(y.D8.Pairwise fun a b=>a.f<b.f)/\(∀a∈y.D8,0<=a.f/\a.f<1000)/\y.D8.length<=1000000/\lJ I.length y/\Old (g+1) y:=fun y G=>by
  obtain⟨i,hi⟩:=mc G;by_cases fN:i<l.length;obtain⟨x,B⟩:=fJ fN;obtain⟨y',Q,L,h3,h4,h5⟩:=W3 i x B;rw[hi]at Q;cases Q;have fD:=zX B;have w:=u.wf x fD;have m:=u.kH x fD;refine⟨by rw[L.kind];exact H x fD,by rw[L.D8];exact co.wJ x fD,by rw[L.D8];exact hf x fD,by rw[L.D8];exact co.sm x fD,⟨?_,?_,?_,h5⟩,?_⟩;rw[L.D8];exact fun a E=>by have:=w.D8 a E;omega
  rw[L.fw];exact GC.le ag w.fw;rw[L.more];exact fun a E=>by have:=w.more a E;omega
  have q1:=m.fw;have q2:=m.mt;have q3:=m.mo;have q4:=m.cp;have q5:=m.ch;exact⟨by rw[L.c3];omega,by rw[L.b9];omega,by rw[L.L8];omega,by obtain e |e:=h3<;>omega,by obtain e |e:=h4<;>omega⟩;have re:i<I.length:=oT hi;obtain⟨p,x,d',k1,W,k3,k4,k5,k6⟩:=new (i-l.length) ag;rw[show l.length+(i-l.length)=i by omega,hi]at k5;cases k5;obtain⟨x',y',xG,_,_,_,_,e4,_⟩:=iX p W;rw[k4]at xG;cases xG;have kr:=u.kr p (F.lt p W)<|F.rp p W;rw[e4]at kr;have hda:∀a∈d',∃b∈bV g x,a=NY g Nm out o b:=fun a E=>by obtain⟨b,U,e⟩:=mem_map.1<|k6.pm.mem_iff.1 E;exact⟨b,U,e.symm⟩
  refine⟨kr,k6.up,fun a E=>?_,?_,⟨fun a E=>?_,trivial,nofun,trivial⟩,⟨by show(0:Int)<g+1;omega,by show(0:Int)<g+1;omega,by show(0:Int)<g+1;omega,by show(0:Int)<g+1;omega,by show(0:Int)<g+1;omega⟩⟩;obtain⟨b,U,rfl⟩:=hda a E;exact((Y p W x k4).2 b U).1;show d'.length<=1000000;rw[k6.pm.length_eq,yA];have:=u.rR k4<|F.rp p W;omega;obtain⟨b,U,rfl⟩:=hda a E;exact pil _ ((Y p W x k4).2 b U).2.2
 have co3:CO I:=z9w (K:=0) ag (fun y G=>(M y G).2.2.2.1) (fun y G=>(M y G).1.1) (fun y G=>(M y G).2.1) (fun y G a E=>((M y G).2.2.1 a E).1) fun y G=>(M y G).2.2.2.2.1;have ex:Ex l.length l I:=⟨by omega,fun i x _ B=>by obtain⟨y,Q,L,_⟩:=W3 i x B;exact⟨y,Q,L.kind,L.D8⟩⟩;have oF:∀p∈out,∃x y,l[p]? = some x/\I[jK g Nm out p]? = some y/\y.kind=hX g x/\y.D8.Perm ((bV g x).map (NY g Nm out o)):=fun p A=>by
  obtain⟨x,y,B,G,H,e1,e3,e4,e5⟩:=iX p A;cases O:dM g Nm p with
  |true=>
   have hm:=mem_filter.2 (⟨A,O⟩:p∈out/\dM g Nm p=true);obtain⟨q,x',d',k1,W,k3,k4,k5,k6⟩:=new ((out.filter<|dM g Nm).idxOf p)<|idxOf_lt_length_iff.2 hm;have:q=p:=by have Q:=hF<|idxOf_lt_length_iff.2 hm;rw[zc]at Q;rw[Q]at k1;exact(Option.some.inj k1).symm
   subst this;rw[B]at k4;cases k4;refine⟨x,gX (hX g x) d',B,?_,rfl,k6.pm⟩;rw[jK,O,kh rfl,w9];exact k5
  |false=>
   obtain⟨z,Q,L,_⟩:=W3 p x B;have U:=m2.bs p A O x B;have fB:=m2.cl p A O x B;unfold Pj at U;simp only[Bool.or_eq_false_iff]at U;obtain⟨b1,b2,b3⟩:=U;have QY:hX g x=x.kind:=by simpa using b1
   have fA:gW g x=[]:=by
    have:¬ ((gW g x).length:Int)>0:=by simpa using b2
    exact X0 ag
   have oh:bV g x=x.D8:=by rw[bV,fA,il]
   have hmap:(bV g x).map (NY g Nm out o)=x.D8:=by
    rw[oh]
    conv=>rhs;rw[<-Jf x.D8]
    refine Wu fun a E=>?_;have h3:o a.to=a.to:=by have:=any_eq_false.1 b3 a E;simp only[Bool.not_eq_true,Bool.not_eq_false']at this;rw[beq_eq]at this;simpa using this
    have h4:=fB a E;simp only[NY,h3,jK,h4];rfl
   refine⟨x,z,B,by rw[jK,O];exact Q,by rw[L.kind,QY],?_⟩;rw[hmap,L.D8]
 have inj:∀p∈out,∀q∈out,jK g Nm out p=jK g Nm out q->p=q:=fun p A q hq e=>by
  have Q:=aH p A;have L:=aH q hq;unfold jK at e;cases O:dM g Nm p<;>cases hd:dM g Nm q<;>rw[O,hd]at e<;>simp only[It,XM,LX]at e;exact e;omega;omega;have e2:(out.filter<|dM g Nm).idxOf p=(out.filter<|dM g Nm).idxOf q:=by omega
  have sJ:=idxOf_lt_length_iff.2<|mem_filter.2 (⟨A,O⟩:p∈out/\dM g Nm p=true);have og:=idxOf_lt_length_iff.2<|mem_filter.2 (⟨hq,hd⟩:q∈out/\dM g Nm q=true);have g1:=zc sJ;have g2:=zc og;rw[<-g1,<-g2];congr 1
 have qnd:∀p∈out,nd (qG C o l.length) (p:Int)=CK o (E5 C p):=fun p A=>UK (F.lt p A)<|F.rp p A;have T:∀p∈out,∀x,l[p]? = some x->∀b,b∈(nd (qG C o l.length) (p:Int)).E2↔∃a∈bV g x,b=⟨a.f,(o a.to:Int)⟩:=fun p A x B b=>by rw[qnd p A];simp only[CK];rw[u.ar p x B<|F.rp p A,dT,gf];constructor;rintro⟨a,E,rfl⟩;exact⟨a,E,by simp[nY,gA,rI]⟩;rintro⟨a,E,rfl⟩;exact⟨a,E,by simp[nY,gA,rI]⟩
 have Z:∀p∈out,(nd (core I) (jK g Nm out p:Int)).R=(nd (qG C o l.length) (p:Int)).R/\∀b,b∈(nd (core I) (jK g Nm out p:Int)).E2↔∃a∈(nd (qG C o l.length) (p:Int)).E2,∃q:Nat,a.To=(q:Int)/\q∈out/\b=⟨a.D9,(jK g Nm out q:Int)⟩:=fun p A=>by
  obtain⟨x,y,B,G,QY,BL⟩:=oF p A;rw[H7 G];refine⟨?_,fun b=>?_⟩;rw[qnd p A];show y.kind=(E5 C p).kind;rw[QY,u.kd p x B<|F.rp p A];have hq:=T p A x B;constructor;intro U;obtain⟨a,E,rfl⟩:=mem_map.1 U;obtain⟨a0,J,rfl⟩:=mem_map.1<|BL.mem_iff.1 E;exact⟨⟨a0.f,(o a0.to:Int)⟩,(hq _).2 ⟨a0,J,rfl⟩,o a0.to,rfl,F.W7 p A x B a0 J,rfl⟩;rintro⟨a,E,q,e1,e2,rfl⟩;obtain⟨a0,J,rfl⟩:=(hq a).1 E;have e1:((o a0.to:Nat):Int)=(q:Int):=e1;have:q=o a0.to:=by omega
  subst this;exact mem_map.2 ⟨NY g Nm out o a0,BL.mem_iff.2<|W2 J,rfl⟩
 have hQ:m7 (qG C o l.length):=u.vB hL (fun c O a E=>((co.M6 c O).O9 a E).1) tc;have hQl:(qG C o l.length).D6.length=l.length:=by simp[qG]
 have hsim:oZ (qG C o l.length) (core I) (fun v=>(jK g Nm out v.toNat:Int)) (fun v=>∃p:Nat,v=(p:Int)/\p∈out):=by
  refine⟨?_,?_,?_,?_⟩;rintro v ⟨p,rfl,A⟩ a E;obtain⟨x,_,B,_⟩:=oF p A;obtain⟨a0,J,rfl⟩:=(T p A x B a).1 (tI.1 E);exact⟨o a0.to,rfl,F.W7 p A x B a0 J⟩;rintro v w ⟨p,rfl,A⟩ ⟨q,rfl,hq⟩ e;simp only[zZ]at e;rw[inj p A q hq ag];rintro v ⟨p,rfl,A⟩;simp only[zZ];exact(Z p A).1;rintro v ⟨p,rfl,A⟩;simp only[zZ];have i1:fU (core I) (jK g Nm out p:Int):=⟨by omega,by rw[jI];have:=pil p A;omega⟩;have i2:fU (qG C o l.length) (p:Int):=⟨by omega,by rw[hQl];have:=F.lt p A;omega⟩;have x?:gZ (R5 (core I) (jK g Nm out p:Int)):=U5 (co3.M6 _ (xZ i1).2).aR;have w?:gZ ((R5 (qG C o l.length) (p:Int)).map fun a=>(⟨a.D9,(jK g Nm out a.To.toNat:Int)⟩:aL)):=by have:gZ (R5 (qG C o l.length) (p:Int)):=U5 (hQ _ (xZ i2).2).aR;unfold gZ at*;rw[XN];exact this
  refine qv1 x? w? fun b=>?_;rw[tI,(Z p A).2 b,gf];constructor;rintro⟨a,E,q,e1,e2,rfl⟩;exact⟨a,tI.2 E,by rw[e1,zZ]⟩;rintro⟨a,E,rfl⟩;have E:=tI.1 E;obtain⟨x,_,B,_⟩:=oF p A;obtain⟨a0,J,rfl⟩:=(T p A x B a).1 E;exact⟨_,E,o a0.to,rfl,F.W7 p A x B a0 J,rfl⟩
 have hrQ:fU (qG C o l.length) (r:Int):=⟨by omega,by rw[hQl];omega⟩;have G2:=(hsim.canon hQ co3.M6 (r:=(r:Int)) hrQ ⟨r,rfl,F.hd⟩ ⟨by simp only[zZ];omega,by rw[jI];simp only[zZ];have:=pil r F.hd;omega⟩).2;simp only[zZ]at G2;obtain⟨g1,_⟩:=H6 hQ hrQ;have mH:∀p∈out,o p=p/\p<l.length/\(p:Int)∈bQ (qG C o l.length) (r:Int)/\Rc (qG C o l.length) (r:Int) (p:Int):=F.ind _ ⟨hrr,hr,by obtain⟨t,ht⟩:=g1.head;rw[ht];simp,Rc.refl _ _⟩ fun p x a ⟨Q,vL,L,h3⟩ B E=>by
  have hm:(⟨a.f,(o a.to:Int)⟩:aL)∈(nd (qG C o l.length) (p:Int)).E2:=by rw[UK vL Q];simp only[CK];rw[u.ar p x B Q,dT,gf];exact⟨a,E,by simp[nY,gA,rI]⟩
  exact⟨u.b6.idem _<|u.to B a E,u.b6.lt _<|u.to B a E,g1.W7 _ L _ hm,h3.snoc hm⟩
 have hord:out.length<=(bQ (qG C o l.length) (r:Int)).length:=Ol (R:=fun(v:Int) (p:Nat)=>v=(p:Int)) (fun v x y e1 e2=>ag) _ out F.nd fun p A=>⟨(p:Int),(mH p A).2.2.1,rfl⟩;have hrch:∀p∈out,Rc (qG C o l.length) (r:Int) (p:Int):=fun p A=>(mH p A).2.2.2;refine⟨jK g Nm out r,I,(out.filter<|dM g Nm).length,out,jK g Nm out,?_,⟨co3,ex,fun y G=>(M y G).2.2.2.2.1,hN3,fun y G=>(M y G).2.2.2.2.2,fun y G=>(M y G).1,fun y G=>(M y G).2.2.1,⟨rfl,F.hd⟩,fun p A=>⟨F.lt p A,pil p A⟩,Z,inj,fun p A h=>?_,fun i Q L=>?_,yW,hrch,fun p A a E=>?_,G2,hord⟩⟩;obtain⟨x,y,B,G,_⟩:=iX r F.hd;have FV:I[r]? = some { y with cp:=some<|jK g Nm out r,c8:=g }:=by rw[q2.W3 r<|aH r F.hd];exact p2.o0 r y G F.hd
 have e0:QH g n out N2 Nm.length=some I:=q1;have hpd:I0 g { y with cp:=some<|jK g Nm out r,c8:=g }=some (jK g Nm out r):=by simp[I0]
 rw[Kn,o1,aN,m1,aN,p1,aN];simp only;rw[<-w9,e0,aN,FV,aN,hpd,aN];unfold jK at h ⊢;rcases O:dM g Nm p with _|_;simp;rw[O,kh rfl]at h;omega;obtain⟨p,x,d',k1,W,k3,k4,k5,k6⟩:=new (i-l.length) ag;refine⟨p,W,?_⟩;have sJ:(out.filter<|dM g Nm).idxOf p=i-l.length:=by have h3:=(zG.1 k1);obtain⟨h4,h5⟩:=h3;exact z5s (F.nd.filter _) h4 h5
 rw[jK,k3,kh rfl,sJ,w9];omega;obtain⟨x,_,B,_⟩:=oF p A;obtain⟨a0,J,rfl⟩:=(T p A x B a).1 E;exact⟨o a0.to,F.W7 p A x B a0 J,rfl⟩
end
def Sm.core{N a:X PN}(h:Sm N a):Go.Proofs.core a=Go.Proofs.core N:=by
 have:a.map cN=N.map cN:=by apply me;intro i;rw[vz,vz];by_cases g:i<N.length;obtain⟨x,b⟩:=fJ g;obtain⟨j,c,d,e⟩:=h.st i x b;rw[b,c];simp only[zM,cN,d,e];have:=h.len;rw[Xi ag,Xi ag]
 simp only[Go.Proofs.core,this]
variable{N:X PN}{l:X PN}
def Sm.back(h:Sm N l){a:PN}(j:a∈l):∃x∈N,a.kind=x.kind/\a.D8=x.D8:=by obtain⟨i,d⟩:=mc j;obtain⟨x,b⟩:=fJ<|h.lt.1<|oT d;obtain⟨y,c,e,g⟩:=h.st i x b;rw[d]at c;cases c;exact⟨x,zX b,e,g⟩
def CO.DA(c:CO N)(h:Sm N l):CO l:=⟨by rw[h.core];exact c.M6,fun x d=>by
 obtain⟨y,a,e,b⟩:=h.back d;rw[b];exact c.up y a,by rw[h.len];exact c.len,fun x d=>by
 obtain⟨y,a,e,b⟩:=h.back d;rw[b];exact c.sm y a⟩
def pB(N:X PN):Nat:=(N.map fun x=>x.D8.length).sum
def ZO(N:X PN):M5 (N.map Ix)=pB N:=by simp only[M5,pB,dT];congr 1;exact Wu fun x _=>by simp[Ix]
def Sm.M5(h:Sm N l):pB l=pB N:=by
 have:l.map (fun x=>x.D8.length)=N.map fun x=>x.D8.length:=by apply me;intro i;rw[vz,vz];by_cases d:i<N.length;obtain⟨x,a⟩:=fJ d;obtain⟨g,b,e,c⟩:=h.st i x a;rw[a,b];simp only[zM,c];have:=h.len;rw[Xi ag,Xi ag]
 rw[pB,this];rfl
abbrev Jn:=X Int×Int
structure AV(H:dK)(ws:X Nat)(P:PP)(fs:X cb)(v08:X (X Int))(E:X Jn)(T:Nat):Prop where
 has:Has P fs
 hH:P.H=H
 wf:Wf P.N
 gen:1<=P.gen
 W3:∀x∈P.N,Old (P.gen+1) x
 kr:∀x∈P.N,0<=x.kind/\x.kind<(ws.length:Int)
 ft:∀x∈P.N,∀a∈x.D8,0<=a.f/\a.f<1000
 size:P.size=(P.N.length:Int)
 rt:∀r∈P.roots,r<P.N.length
 shr:∀a∈P.roots,∀b∈P.roots,∀x:Nat,Rc (core P.N) a x->Rc (core P.N) b x->∃p,Wk (core P.N) a p x/\Wk (core P.N) b p x
 r5:∀a∈P.roots,∀x:Nat,Rc (core P.N) a x->∃p∈v08,Wk (core P.N) a p x
 O9:∀a∈P.roots,∀x:Nat,Rc (core P.N) a x->∀y∈(nd (core P.N) x).E2,∃e∈E,Wk (core P.N) a e.1 x/\y.D9=e.2
 M5:pB P.N<=T
section
variable{H:dK}{ws:X Nat}{P:PP}{l:X cb}{s:X (X Int)}{E:X Jn}{T:Nat}
def AV.sm(p:AV H ws P l s E T){c:X PN}(h:Sm P.N c)(wf:Wf c)(hm:∀x∈c,Mid (P.gen+1) x):AV H ws { P with N:=c,gen:=P.gen+1 } l s E T:=by have q:=h.core;have z:=p.gen;refine⟨⟨p.has.co.DA h,p.has.len,fun k f t=>?_⟩,p.hH,wf,by show 1<=P.gen+1;omega,fun x g=>?_,fun x g=>?_,fun x g=>?_,by rw[h.len];exact p.size,fun r u=>by rw[h.len];exact p.rt r u,?_,?_,?_,by rw[h.M5];exact p.M5⟩;obtain⟨r,d,j,n⟩:=p.has.at_ k f t;exact⟨r,d,by rw[h.len];exact j,by show bX (core c) _=_;rw[q];exact n⟩;have m:=hm x g;have q1:=m.fw;have q2:=m.mt;have q3:=m.mo;have q4:=m.cp;have q5:=m.ch;exact⟨by show _<P.gen+1+1;omega,by show _<P.gen+1+1;omega,by show _<P.gen+1+1;omega,by show _<P.gen+1+1;omega,by show _<P.gen+1+1;omega⟩;obtain⟨y,d,j,n⟩:=h.back g;rw[j];exact p.kr y d;obtain⟨y,d,j,n⟩:=h.back g;rw[n];exact p.ft y d;show ∀a∈P.roots,∀b∈P.roots,∀x:Nat,Rc (core c) a x->Rc (core c) b x->∃p,Wk (core c) a p x/\Wk (core c) b p x;rw[q];exact p.shr;show ∀a∈P.roots,∀x:Nat,Rc (core c) a x->∃p∈s,Wk (core c) a p x;rw[q];exact p.r5;show ∀a∈P.roots,∀x:Nat,Rc (core c) a x->∀y∈(nd (core c) x).E2,∃e∈E,Wk (core c) a e.1 x/\y.D9=e.2;rw[q];exact p.O9
structure GA(ws:X Nat)(L:X aU)(ra rb:Nat)(o:Nat->Nat)(Q:cb):Prop where
 qg:QG ws L o Q
 M6:m7 Q
 W7:u7 L o
 nW:¬ Ju ws L o
 eq:o ra=o rb
 low:∀q,u7 L q->q ra=q rb->∀i j,i<L.length->j<L.length->o i=o j->q i=q j
def ye(ws:X Nat)(L:X aU)(a b:Nat):Prop:=∀q:Nat->Nat,u7 L q->q a=q b->Ju ws L q
def zai(R:oE H ws)(p:AV H ws P l s E T)(hT:2*(1+T)<=1000000)(R8:P.gen<=1000000){n:Nat}(hn:3000000<=n){a b m t:Nat}(G:P.roots[a]? = some m)(M:P.roots[b]? = some t):
  (∃h,MF n P (a:Int) (b:Int)=some (none,{ P with N:=h,gen:=P.gen+1 })/\AV H ws { P with N:=h,gen:=P.gen+1 } l s E T/\ye ws (core P.N).D6 m t)\/
  (∃h C o d D,MF n P (a:Int) (b:Int)=some (some<|o m,{ P with N:=h,gen:=P.gen+1 })/\AV H ws { P with N:=h,gen:=P.gen+1 } l s E T/\Sm P.N h/\US ws (P.gen+1) h C o d D/\D+M5 C<=1+T/\TC ws h.length (core h).D6 [] C o/\GA ws (core P.N).D6 m t o (qG C o h.length)):=by
 have HI:=p.rt m<|zX G;have Z:=p.rt t<|zX M;have qF:=(zG.1 G).1;have L3:=(zG.1 M).1;have co:=p.has.co;have hg:=p.gen;have A:i64.wrap (P.gen+1)=P.gen+1:=wrap_i64 ag ag;have hL:=Dr (ws:=ws) co;have V:=ZO P.N;have hTt:=p.M5;obtain⟨ok,h,g1,g2⟩:=Zv R (n:=n) ag (g:=P.gen+1) (L:=(core P.N).D6) n [(m,t)] P.N (P.N.map Ix) id (fun _=>0) 0 hL (Jy co p.wf p.W3 p.kr) (fun w A=>by simp at A;subst A;exact⟨HI,Z⟩) (tc0 _) (by simp;omega) (by simp;omega) (by simp;omega);have F:MF n P (a:Int) (b:Int)=a8 (MC P.H (P.gen+1) n n [(m,t)] P.N) fun r=>cond (!r.1) (some (none,{ P with N:=r.2,gen:=P.gen+1 })) (a8 (u9 r.2 (P.gen+1) n m) fun q=>some (some q,{ P with N:=r.2,gen:=P.gen+1 })):=by rw[MF,eJ ag,zD,eJ ag,zD,eJ ag,zD,eJ ag,zD,cZ,G,aN,cZ,M,aN,A]
 rw[<-p.hH]at g1;rw[g1,aN]at F;have Y:=p.sm g2.sm g2.wf g2.kH;have J:∀q:Nat->Nat,q m=q t->OD P.N.length ([(m,t)].map wI) id q:=fun q I=>⟨fun i j _ _ e=>by rw[show i=j from e],fun z W=>by simp[wI]at W;subst W;simpa using I⟩;cases ok with
 |false=>refine .inl ⟨h,F,Y,fun q I Q=>g2.no rfl q I (J q Q)⟩|true=>
  obtain⟨C,o,d,D,B,k2,k3,k4,k5,k6⟩:=g2.yes rfl;have hl:=g2.sm.len;have K:HW h.length ws (core h).D6:=Dr<|co.DA g2.sm;have u:TC ws h.length (core h).D6 [] C o:=by rw[g2.sm.core,hl];exact k3
  have iW:D+M5 C<=1+T:=by simp at k2;omega
  simp only[fX,zD]at F;rw[B.uQ (Kp.refl _) ag ag,aN]at F;refine .inr ⟨h,C,o,d,D,F,Y,g2.sm,B,iW,u,?_⟩;have O:=g2.sm.core;rw[O]at K u;exact⟨B.qg K u,B.vB K (fun c O a G=>((co.M6 c O).O9 a G).1) u,B.W7 K u,B.nW K (fun w A=>(R.ok w A).1) u,k5 (m,t) ca,fun q I Q i j S U hr=>(k6 q I<|J q Q).r i j (by rw[jI]at S;exact S) (by rw[jI]at U;exact U) hr⟩
end
end Go.Proofs
