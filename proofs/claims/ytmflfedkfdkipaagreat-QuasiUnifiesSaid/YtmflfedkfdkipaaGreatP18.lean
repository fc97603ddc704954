import Derived.Test.YtmflfedkfdkipaaGreatP17
set_option linter.all false
set_option maxRecDepth 20000
set_option maxHeartbeats 4000000
set_option synthInstance.maxSize 4000
set_option synthInstance.maxHeartbeats 200000
open List Go.IntKind
open Nat hiding beq_eq
namespace Go.Proofs
open Go Go.Rx Go.Vx Tryz
def G9{c d:Type}(f:c->V d):X c->V (X d)
 |[]=>some []|a::l=>a8 (f a) fun b=>a8 (G9 f l) fun bs=>some (b::bs)
def Vc{e k:Type}{f:e->V k}:∀{l:X e}{bs:X k},G9 f l=some bs->bs.length=l.length/\∀(i:Nat)(a:e),l[i]? = some a->∃b,bs[i]? = some b/\f a=some b
 |[],bs,h=>by obtain rfl:=sI h;exact⟨rfl,fun i a h=>by simp at h⟩
 |a::l,bs,h=>by
  obtain⟨b,r,h⟩:=aJ h;obtain⟨m,j,h⟩:=aJ h;obtain rfl:=sI h;obtain⟨n,o⟩:=Vc j;refine⟨by simp[n],fun i c g=>?_⟩;cases i with
  |zero=>simp at g;subst g;exact⟨b,rfl,r⟩|succ i=>simp at g;obtain⟨d,p,q⟩:=o i c g;exact⟨d,by simpa using p,q⟩
def sd(b len:Nat)(a:aI):V eN:=cond (decide (0<=a.To/\a.To<(len:Int))) (some ⟨a.E2,b+a.To.toNat⟩) none
variable{n0:Nat}{len:Nat}
def Ts{a:aI}{b:eN}(h:sd n0 len a=some b):0<=a.To/\a.To<(len:Int)/\b=⟨a.E2,n0+a.To.toNat⟩:=by unfold sd at h;rcases c:decide (0<=a.To/\a.To<(len:Int))with _|_;rw[c]at h;cases h;rw[c]at h;have:=K! c;exact⟨this.1,this.2,(sI h).symm⟩
def VY(n0 len:Nat)(x:aK):V PN:=aE (x.E4.length<=1000000) (a8 (G9 (sd n0 len) x.E4) fun l=>some<|iD x.R l)
def BO(P:PP)(f:az):V (Int×PP):=
 aE (0<f.D9.length/\f.D9.length<=1000000/\P.roots.length<=1000000) (a8 (G9 (VY P.N.length f.D9.length) f.D9) fun L=>some ((P.roots.length:Int),{ P with N:=P.N++L,size:=i64.wrap<|P.size+f.D9.length,roots:=P.roots++[P.N.length] }))
def NI(x:PN):PN:=iD x.kind []
def xQ(N L:X PN)(t:Nat):X PN:=N++(L.take t++(L.drop t).map NI)
def z8q(N L:X PN)(t:Nat):(xQ N L t).length=N.length+L.length:=by simp[xQ];omega
variable{N:X PN}{t:Nat}
def z8p{L:X PN}{x:PN}(h:L[t]? = some x):(xQ N L t)[N.length+t]? = some (NI x):=by have a:=(zG.1 h).1;unfold xQ;rw[mu af,show N.length+t-N.length=t by omega,mu (by simp;omega)];simp;rw[pg af,mi,eT];exact⟨x,h,rfl⟩
def z8r{L:X PN}{x:PN}(h:L[t]? = some x):(xQ N L t).set (N.length+t) x=xQ N L (t+1):=by
 have a:=(zG.1 h).1;have e:L.drop t=x::L.drop (t+1):=by rw[Zq a];rw[lq a]at h;cases h;rfl
 unfold xQ;rw[Lm _ _ af,show N.length+t-N.length=t by omega,Lm _ _ (by simp;omega),e];congr 1;simp only[Yz,pg<|ep a,mi,zQ,LO];rw[Ih,h];simp
def oG(nm:Nat->Nat)(o:V Nat):X U:=[po nm o]
def nC(n0 len t:Nat):X (V Nat):=(List.range len).map fun i=>if i<t then some (n0+i)else none
def V5{i:Nat}(h:i<len):(nC n0 len t)[i]? = some (if i<t then some (n0+i)else none):=by simp[nC,h]
def z8o(h:t<len):(nC n0 len t).set t (some<|n0+t)=nC n0 len (t+1):=by apply od;intro i;rw[ja];by_cases e:t=i;subst e;rw[lr rfl,lr (by simp[nC,h]),V5 h,lr<|zN _];rw[hF e];by_cases b:i<len;rw[V5 b,V5 b];by_cases a:i<t;rw[lr a,lr af];rw[hF a,hF af];rw[YQ (by simp[nC];omega),YQ (by simp[nC];omega)]
def z4l(n0 len:Nat):nC n0 len 0=replicate len none:=by apply od;intro i;by_cases a:i<len;rw[V5 a];simp[a];rw[YQ (by simp[nC];omega),YQ (by simp;omega)]
section
variable{kp d st:Nat}{nm:Nat->Nat}{P:PP}{h:X (Nat×B)}{nx:Nat}
def rY.more{a:Nat->Nat}{N:X PN}{s:Int}{c:Nat}{H:X (Nat×B)}{M:Nat}(m:rY kp d st nm P h nx a N s c H M)(g:qA ⟨H,M⟩)(b:B):rY kp d st nm P h nx a N s c ((M,b)::H) (M+1):=
 ⟨m.ph.more fun k c e=>by rw[kF (g k c e).1];exact e,m.l6,m.new,fun k f i j=>by rw[kF<|YR f m.le];exact m.fr k f i j,Zu m.le,m.len,m.cl⟩
def rY.add{a:Nat->Nat}{N:X PN}{s:Int}{c:Nat}{H:X (Nat×B)}{M:Nat}(m:rY kp d st nm P h nx a N s c H M)(i:qA ⟨H,M⟩)(n:c<=N.length)(k:Int):rY kp d st nm P h nx (wE a N.length M) (N++[iD k []]) s c ((M,.row (sY (wE a N.length M) (iD k []) .J) 103)::H) (M+1):=by
 refine⟨m.ph.add i n k (by simp[aR]) (fun k b e=>by rw[kF (i k b e).1];exact e),fun k g=>by rw[xZ k<|YR g m.len];exact m.l6 k g,fun k l e=>?_,fun k j o p=>by rw[kF<|YR j m.le];exact m.fr k j o p,Zu m.le,by simp;exact Zu m.len,m.cl⟩;rw[zU]at e;obtain f |f:=Zd k N.length;rw[xZ k f];exact m.new k l f;have:k=N.length:=by simp at e;omega
 subst this;rw[Bv];exact m.le
def rY.sE{a:Nat->Nat}{s:Int}{c:Nat}{H:X (Nat×B)}{M K:Nat}{q:X U}(m:rY kp d st nm P h nx a N s c H M)(w:nx<=K)(o:gt H K=some (.row q 92))(b:B):rY kp d st nm P h nx a N s c (ug H K b) M:=by
 have g:∀k f,gt H k=some f->(∀q,f≠.row q 92)->gt (ug H K b) k=some f:=fun k f n p=>by rw[bV,hF fun e=>?_];exact n;rw[<-e,o]at n;exact p q (Option.some.inj n).symm
 refine⟨⟨g _ _ m.ph.b5 aZ,g _ _ m.ph.roots aZ,fun i x l j=>g _ _ (m.ph.node i x l j) aZ,fun i x l j=>⟨g _ _ (m.ph.l5 i x l j).1 aZ,(m.ph.l5 i x l j).2⟩,m.ph.inj,m.ph.wf,m.ph.rt⟩,m.l6,m.new,fun k r u v=>?_,m.le,m.len,m.cl⟩;rw[bV,hF af];exact m.fr k r u v
def z1i{nm':Nat->Nat}{n:Nat}(c:∀k,k<n->nm' k=nm k)(e:n0+t<=n):(nC n0 len t).map (oG nm')=(nC n0 len t).map (oG nm):=by refine X2 fun o b=>?_;simp only[nC,fA]at b;obtain⟨i,_,rfl⟩:=b;by_cases a:i<t;rw[lr a];simp only[oG,po,pt,c (n0+i) af];rw[hF a];rfl
def Du(p:PH kp d st nm P h){f:az}{r:Int×PP}(O:BO P f=some r):
  b7 prog 18 [.ptr kp 0 0,.agg<|eY f] ⟨h,nx⟩ (fun u Y'=>u=.i6 r.1/\Y'=⟨cH kp d (st+1) (kI nm P.N.length nx) r.2 h,nx+(r.2.N.length-P.N.length)⟩):=by
 refine b7.wf fun v7 _=>?_;obtain⟨⟨I9,yF,S9⟩,O⟩:=bU O;obtain⟨L,hL,O⟩:=aJ O;obtain rfl:=sI O;obtain⟨nQ,b?⟩:=Vc hL
 haveI:ca nx (nx+1):=⟨rfl⟩
 haveI:ca (nx+1) (nx+2):=⟨rfl⟩
 refine eO 99 LS ?_;refine goN ?_;refine RS.w rfl (Lw (c:=oG nm) (none:V Nat) rfl rfl iQ.h jI.h rfl rfl rfl rfl ⟨by omega,by omega,by omega⟩) ?_;change RU _ _ _ _ _ (Sg.mk ((nx+1,.row ((replicate f.D9.length (none:V Nat)).map (oG nm)).flatten 92)::(nx,.row (eY f) 39)::h)<|nx+2) _
 haveI:Nq (nx+1) nx:=⟨by rw[beq_eq];simp⟩
 refine goN ?_;have hPN:P.N++(L.take 0).map NI=P.N:=by simp
 have c0:rY kp d st nm P h nx nm (P.N++(L.take 0).map NI) P.size P.N.length ((nx+1,.row ((nC P.N.length f.D9.length 0).map (oG nm)).flatten 92)::(nx,.row (eY f) 39)::h) (nx+2):=by rw[hPN];refine⟨p.pq.more fun k b v=>?_,fun _ _=>rfl,fun k a b=>af,fun k k1 _ _=>?_,by omega,zF _,zF _⟩;have:k<nx:=(v7 k b v).1;rw[aR,hF af,aR,hF af];exact v;rw[aR,hF af,aR,hF af]
 refine I6.eqv rfl (Y':=⟨(nx+1,.row ((nC P.N.length f.D9.length 0).map (oG nm)).flatten 92)::(nx,.row (eY f) 39)::h,nx+2⟩) (by rw[z4l]) ?_;refine gL (fun m Z Y=>∃(t:Nat)(nm1:Nat->Nat)(H:X (Nat×B))(M:Nat),m=f.D9.length-t/\t<=f.D9.length/\Z=fr 99 [(0,.ptr kp 0 0),(3,.ptr nx 0 0),(5,.sl (nx+1) 0 f.D9.length f.D9.length),(17,.iM bA f.D9),(18,.i6 f.D9.length),(19,.i6 t)]/\Y=⟨H,M⟩/\rY kp d st nm P h nx nm1 (P.N++(L.take t).map NI) P.size P.N.length H M/\gt H (nx+1)=some (.row ((nC P.N.length f.D9.length t).map (oG nm1)).flatten 92)/\gt H nx=some (.row (eY f) 39)/\nx+1<M)
  (fun Z Y=>∃(nm1:Nat->Nat)(H:X (Nat×B))(M:Nat),Z=fr 99 [(0,.ptr kp 0 0),(3,.ptr nx 0 0),(5,.sl (nx+1) 0 f.D9.length f.D9.length)]/\Y=⟨H,M⟩/\rY kp d st nm P h nx nm1 (xQ P.N L 0) P.size P.N.length H M/\gt H (nx+1)=some (.row ((nC P.N.length f.D9.length f.D9.length).map (oG nm1)).flatten 92)/\gt H nx=some (.row (eY f) 39)/\nx+1<M) f.D9.length
  ⟨0,nm,_,nx+2,rfl,qq _,rfl,rfl,c0,by rw[aR,lr rfl],by rw[aR,hF af,aR,lr rfl],zN _⟩ ?_ ?_ (by show nx<=nx+2;omega)
 ·rintro _ _ ⟨nm1,H,M,rfl,rfl,hm,F,X6,hM⟩
  haveI:eK H nx (.row [.iM bA f.D9] 39):=⟨X6⟩
  refine goN ?_;refine gL (fun m Z Y=>∃(t:Nat)(H:X (Nat×B))(M:Nat),m=f.D9.length-t/\t<=f.D9.length/\Z=fr 99 [(0,.ptr kp 0 0),(5,.sl (nx+1) 0 f.D9.length f.D9.length),(33,.iM bA f.D9),(34,.i6 f.D9.length),(35,.i6 t)]/\Y=⟨H,M⟩/\rY kp d st nm P h nx nm1 (xQ P.N L t) P.size (P.N.length+t) H M/\gt H (nx+1)=some (.row ((nC P.N.length f.D9.length f.D9.length).map (oG nm1)).flatten 92)/\nx+1<M) (fun Z Y=>∃(H:X (Nat×B))(M:Nat),Z=fr 99 [(0,.ptr kp 0 0),(5,.sl (nx+1) 0 f.D9.length f.D9.length)]/\Y=⟨H,M⟩/\rY kp d st nm P h nx nm1 (P.N++L) P.size (P.N.length+L.length) H M/\gt H (nx+1)=some (.row ((nC P.N.length f.D9.length f.D9.length).map (oG nm1)).flatten 92)/\nx+1<M) f.D9.length
   ⟨0,H,M,rfl,qq _,rfl,rfl,hm,F,hM⟩ ?_ ?_ hm.le
  rintro _ _ ⟨H,M,rfl,rfl,hm,F,hM⟩;refine I6.wf fun J _=>?_;have Gz:live (Sg.mk H M) (nx+1) 0=true:=by simp[live,F,B.st]
  have R:=hm.ph.ph (pe aZ)
  haveI:=R.gp
  haveI:ca M (M+1):=⟨rfl⟩
  refine goN ?_;refine RS.w rfl (HP rfl rfl rfl (z2y iQ.h Gz)) ?_;refine goN ?_
  let sz:Int:=i64.wrap (P.size+(f.D9.length:Nat))
  let P2:PP:={ P with N:=P.N++L,size:=sz }
  let o:X (Nat×B):=ug H kp (.row (tX d st P2) 83)
  have o3:PH kp d st nm1 P2 o:=R.nR sz P.gen (by simp only[o];rw[bV,lr rfl,R.b5];rfl) fun k b v hk=>by simp only[o];rw[bV,hF<|WV hk];exact v
  have vA:kp<M:=(J _ _ R.b5).1;have EV:d<M:=(J _ _ R.roots).1;have hlx:kp≠nx+1:=fun e=>by have:=R.b5;rw[e,F]at this;simp at this
  have hlr:d≠nx+1:=fun e=>by have:=R.roots;rw[e,F]at this;cases this
  have AP:gt o (nx+1)=some (.row ((nC P.N.length f.D9.length f.D9.length).map (oG nm1)).flatten 92):=by simp only[o];rw[bV,hF hlx];exact F
  have Gx:live (Sg.mk o M) (nx+1) 0=true:=by simp[live,AP,B.st]
  have E:gU (nC P.N.length f.D9.length f.D9.length) 0 f.D9.length 0=some (some P.N.length):=by rw[gU,lr ⟨by omega,by omega⟩];simp only[Int.toNat_zero,Ty];rw[V5 I9,lr I9];simp
  change I6 _ _ _ _ (Sg.mk o M) _
  haveI:=o3.gp
  haveI:Nq M kp:=⟨by rw[beq_eq];simp;omega⟩
  haveI:Nq M d:=⟨by rw[beq_eq];simp;omega⟩
  refine dE [(0,8),(0,9),(1,8),(2,8),(3,8),(4,8)] ?_;refine cC ?_;refine aQ rfl (cV rfl rfl (rP (Y:=⟨o,M⟩) iQ.h (aV jI.h) Gx E)) (aQ (u:=pt nm1 P.N.length) rfl (BV (Y:=⟨o,M⟩) (oG nm1) (po nm1) iP.h rfl (fun _=>rfl) rfl AP E) ?_);refine cC ?_;refine dM ?_;have wW:gt ((M,.row [pt nm1 P.N.length] 92)::o) d=some (.vec (P.roots.map<|eD nm1).flatten 92 1 st):=by rw[aR,hF af];exact o3.roots
  have fO:rowOf (Sg.mk ((M,.row [pt nm1 P.N.length] 92)::o)<|M+1) M=some [pt nm1 P.N.length]:=by simp[rowOf,aR]
  refine RD.act rfl (qV rfl rfl rfl rfl (ED (eD nm1) [P.N.length] iQ.h iQ.h jI.h rfl (fun _=>rfl) wW (FU (eD nm1) [P.N.length] (q:=[pt nm1 P.N.length]) fO rfl rfl rfl) ⟨by show(P.roots.length+1)*_<=_;omega,by show P.roots.length+1<=_;omega⟩)) rfl rfl ?_;have xw:eK (ug ((M,.row [pt nm1 P.N.length] 92)::o) d<|.vec (List.map (eD nm1)<|P.roots++[P.N.length]).flatten 92 1 (st+1)) kp (.row [.iM hZ P2.H.Types,.iM jC P2.H.E6,.vl d st 0 P2.roots.length,.i6 P2.size,.i6 P2.gen] 83):=⟨by rw[bV,hF o3.mY,aR,hF af];exact o3.b5⟩
  haveI:=xw
  refine cC ?_;refine qB ?_;refine bB ⟨by kernel_rfl,⟨L6,L6,L6,L6,L6,L6,trivial⟩,?_⟩
  let G:B:=.vec (List.map (eD nm1)<|P.roots++[P.N.length]).flatten 92 1 (st+1)
  let P3:PP:={ P with N:=P.N++L,size:=sz,roots:=P.roots++[P.N.length] }
  let T:X (Nat×B):=(M,.row [pt nm1 P.N.length] 92)::o
  let T2:X (Nat×B):=ug (ug T d G) kp (.row (tX d (st+1) P3) 83)
  have hT:∀k,k≠kp->k≠d->k<M->gt T2 k=gt H k:=fun k k1 k2 k3=>by simp only[T2,T,o];rw[bV,hF<|WV k1,bV,hF<|WV k2,aR,hF af,bV,hF<|WV k1]
  have p5:PH kp d (st+1) nm1 P3 T2:=by refine⟨?_,?_,fun i x hx=>?_,o3.inj,o3.wf,fun r hr=>?_⟩;simp only[T2];rw[bV,lr rfl,xw.h];rfl;simp only[T2];rw[bV,hF<|WV o3.mY,bV,lr rfl];simp only[T];rw[wW];rfl;have hi:=pS hx;rw[hT _ (R.jO hi) (R.rF hi)<|R.lt J hi];exact R.node i x hx;obtain hr |hr:=yD.1 hr;exact o3.rt r hr;simp at hr;subst hr;show P.N.length<(P.N++L).length;simp;omega
  change I6 _ _ _ _ (Sg.mk T2<|M+1) _
  haveI:=p5.gp
  haveI:=p5.gr
  refine goN ?_;have kW:i64.wrap (((P.roots++[P.N.length]).length:Int)-1)=P.roots.length:=by rw[zU,oX aZ (by simp;omega)];simp
  refine se rfl rfl rfl (il _ _) (canon (P1:=P3) (nm1:=nm1) (tm':=[.i6 P.roots.length]) p v7 p5 (by show P.N.length<=(P.N++L).length;simp) hm.l6 hm.new (fun k k1 k2 k3 k4=>?_) ?_<|by simp[aH,aW]) ⟨rfl,rfl⟩;have k1':k<nx:=k1;rw[hT k k2 k3 (by have:=hm.le;omega)];exact hm.fr k k1 k2 k4;simp only[fP,rU];rw[<-kW];rintro _ _ _ ⟨t,H,M,rfl,ht,rfl,rfl,hm,F,hM⟩;refine I6.wf fun J _=>?_
  haveI:ca M (M+1):=⟨rfl⟩
  refine goN ?_;refine eE rfl (fun h7=>?_) (fun h7=>?_)
  ·have I:t<f.D9.length:=by simpa using h7
   obtain⟨x,hx⟩:∃a,f.D9[t]? = some a:=⟨_,lq I⟩;obtain⟨y,hy,W⟩:=b? t x hx;obtain⟨mX,W⟩:=bU W;obtain⟨z,hl2',W⟩:=aJ W;obtain⟨xg,xh⟩:=Vc hl2';have m6:aB f.D9 (t:Int)=some x:=by rw[aB,lr ⟨by omega,by omega⟩];simpa using hx
   have kW:i64.wrap ((t:Int)+1)=((t+1:Nat):Int):=by rw[oX af af];rfl
   refine goN ?_;apply cK;refine goN ?_;refine c8 m6 ?_;refine goN ?_;obtain rfl:=sI W
   let q:=P.N.length+t
   have hq:(xQ P.N L t)[q]? = some (iD x.R []):=z8p hy;have Gr:q<(xQ P.N L t).length:=pS hq;obtain⟨OO,_⟩:=hm.ph.l5 q _ hq<|zF _;have OO:gt H (nm1 q)=some (.row (sY nm1 (iD x.R []) .J) 103):=OO;have hqM:nm1 q<M:=(J _ _ OO).1;have vA:kp<M:=(J _ _ hm.ph.b5).1;have Gq:nm1 q≠kp:=hm.ph.jO Gr;have hqx:nm1 q≠nx+1:=fun e=>by rw[e,F]at OO;simp at OO
   have zl:gt ((M,.row (bA x) 79)::H) (nm1 q)=some (.row (sY nm1 (iD x.R []) .J) 103):=by rw[aR,hF af];exact OO
   refine cD (xK (Y:=⟨(M,.row (bA x) 79)::H,M+1⟩) (nm1 q) 1 107 2 bF (Zu hm.le) zl rfl) (Zu<|Zu hm.le) ?_;refine gL (fun m Z Y=>∃(j:Nat)(s:Nat)(C:X (Nat×B))(g:Nat),m=x.E4.length-j/\j<=x.E4.length/\Z=fr 99 [(0,.ptr kp 0 0),(5,.sl (nx+1) 0 f.D9.length f.D9.length),(8,.i6 t),(33,.iM bA f.D9),(34,.i6 f.D9.length),(35,.i6 t),(41,.iM aU x.E4),(42,.i6 x.E4.length),(43,.i6 j)]/\Y=⟨C,g⟩/\M+1<g/\gt C (M+1)=some (.bv (bZ nm1) (z.take j) 107 2 s)/\gt C (nm1 q)=some (.row (sY nm1 (iD x.R [])<|.vl (M+1) s 0 (z.take j).length) 103)/\∀k,k<M->k≠nm1 q->gt C k=gt H k)
    (fun Z Y=>∃(s:Nat)(C:X (Nat×B))(g:Nat),Z=fr 99 [(0,.ptr kp 0 0),(5,.sl (nx+1) 0 f.D9.length f.D9.length),(33,.iM bA f.D9),(34,.i6 f.D9.length),(35,.i6 t)]/\Y=⟨C,g⟩/\M+1<g/\gt C (M+1)=some (.bv (bZ nm1) z 107 2 s)/\gt C (nm1 q)=some (.row (sY nm1 (iD x.R [])<|.vl (M+1) s 0 z.length) 103)/\∀k,k<M->k≠nm1 q->gt C k=gt H k) x.E4.length
    ⟨0,0,_,M+2,rfl,qq _,rfl,rfl,zN _,by rw[bV,hF af];simp[bE,aR],by rw[bV,lr rfl];simp only[bE];rw[aR,hF af,zl];rfl,fun k hk kY=>by rw[bV,hF<|WV kY];simp only[bE];rw[aR,hF af,aR,hF af]⟩ ?_ ?_ (Zu<|Zu hm.le)
   ·rintro _ _ ⟨s,C,g,rfl,rfl,jq,hv,C3,fW⟩;refine goN ?_;have EY:∀k,k<(xQ P.N L t).length->nm1 k<M:=fun k hk=>hm.ph.lt J hk;have S:∀k,k<M->k≠nm1 q->gt (dd (M+1) (.bv (bZ nm1) z 107 2 s) 2 C) k=gt H k:=fun k hk kY=>by rw[D0,hF af,fW k hk kY];rcases hq:gt H k with _|b';rfl;simp only[zM];rw[Mr _ _<|Mu (MD M) (J k b' hq).2]
    have lJ:∀a∈z,a.to<(xQ P.N L t).length:=fun b v=>by
     obtain⟨j,hj⟩:=Zc v;have j0:j<x.E4.length:=by rw[<-xg];exact(zG.1 hj).1
     obtain⟨b',h1,h2⟩:=xh j _<|lq j0;rw[hj]at h1;cases h1;obtain⟨h3,h4,h5⟩:=Ts h2;rw[h5,z8q,nQ];show P.N.length+_<_;omega
    have ID:rY kp d st nm P h nx nm1 (xQ P.N L<|t+1) P.size (P.N.length+(t+1)) (dd (M+1) (.bv (bZ nm1) z 107 2 s) 2 C) g:=by rw[<-z8r hy];refine⟨hm.ph.lH hq (show P.N.length+t<P.N.length+(t+1) by omega) (fun j hj=>by have:j≠P.N.length+t:=hj;omega) ⟨lJ,trivial,nofun,trivial⟩ ?_ fun k b v hk=>by rw[S k (J k b v).1 hk];exact v,hm.l6,fun k a b=>hm.new k a (by simpa using b),fun k a b e=>?_,by have:=hm.le;omega,by simpa using hm.len,by omega⟩;show gt _ (nm1 q)=_;rw[D0,hF af,C3];have e1:=HL (c:=bZ nm1) (sz:=2) (fun _=>rfl) z (M+1) 2 107 s;simp only[zM,ek,sY,iD,po,v6,y3,FS,JJ,O0];rw[e1];rfl;rw[S k (by have:=hm.le;omega) fun e2=>by have:=hm.new q (il _ _) Gr;omega];exact hm.fr k a b e
    refine⟨f.D9.length-(t+1),_,_,by omega,⟨t+1,_,g,rfl,I,rfl,rfl,ID,?_,by omega⟩,by have:=hm.le;show nx<=g;omega,Gh.trans (Gh.sub ?_)<|Gh.fz (Y:=⟨C,g⟩) (M+1) (.bv (bZ nm1) z 107 2 s) 2 hv nofun (vS _ _ _<|Cd ?_) rfl⟩;rw[S (nx+1) hM<|WV hqx];exact F
    ·rw[<-kW];(repeat refine⟨rfl,?_⟩);exact trivial
    simp only[ei,aW,cO,dG];exact⟨by omega,by omega,tF _ (fun q=>y5 _ q) _⟩
   rintro _ _ _ ⟨j,s,C,g,rfl,hj,rfl,rfl,jq,hv,C3,fW⟩
   haveI:ca g (g+1):=⟨rfl⟩
   haveI:ca (g+1) (g+2):=⟨rfl⟩
   refine goN ?_;refine eE rfl (fun h9=>?_) (fun h9=>?_)
   ·have j0:j<x.E4.length:=by simpa using h9
    obtain⟨a,ha⟩:∃a,x.E4[j]? = some a:=⟨_,lq j0⟩;obtain⟨b,v,SU⟩:=xh j a ha;obtain⟨AY,BJ,rfl⟩:=Ts SU;have DP:aB x.E4 (j:Int)=some a:=by rw[aB,lr ⟨by omega,by omega⟩];simpa using ha
    have DF:i64.wrap ((j:Int)+1)=((j+1:Nat):Int):=by rw[oX af af];rfl
    have Gd:z.take (j+1)=z.take j++[⟨a.E2,P.N.length+a.To.toNat⟩]:=by rw[Ih,v];rfl
    have zy:(z.take j).length=j:=by rw[Yz,pg af]
    have hxM:nx+1<M:=hM
    let D:X (Nat×B):=(g,.row (aU a) 105)::C
    have Hi:∀{A:X (Nat×B)},gt A (nx+1)=gt C (nx+1)->gt A (nx+1)=some (.row ((nC P.N.length f.D9.length f.D9.length).map (oG nm1)).flatten 92):=fun e=>by rw[e,fW _ hxM<|WV hqx];exact F
    have E:gU (nC P.N.length f.D9.length f.D9.length) 0 f.D9.length (t:Int)=some (some q):=by rw[gU,lr ⟨by omega,by omega⟩];simp only[zZ,Ty];rw[V5 I,lr I]
    have xr:gU (nC P.N.length f.D9.length f.D9.length) 0 f.D9.length a.To=some (some<|P.N.length+a.To.toNat):=by rw[gU,lr ⟨AY,BJ⟩];simp only[Ty];rw[V5 af,lr af]
    have SF:gt D (nx+1)=some (.row ((nC P.N.length f.D9.length f.D9.length).map (oG nm1)).flatten 92):=Hi (by simp only[D];rw[aR,hF af]);have Gy:live (Sg.mk D<|g+1) (nx+1) 0=true:=by simp[live,SF,B.st]
    haveI:Nq g (nm1 q):=⟨by rw[beq_eq];simp;omega⟩
    haveI:Nq (g+1) (nm1 q):=⟨by rw[beq_eq];simp;omega⟩
    haveI:Nq (g+1) g:=⟨by rw[beq_eq];simp⟩
    haveI:eK C (nm1 q) (.row [.i6 x.R,.vl (M+1) s 0 (z.take j).length,.b6,.i6 0,.i6 0,.i6 0,.O false [],.i6 0,.b6,.i6 0,.bool false,.i6 0] 103):=⟨C3⟩
    refine goN ?_;apply cK;refine goN ?_;refine c8 DP ?_;refine goN ?_;refine dE [(0,19),(0,20),(1,19),(1,20),(2,19),(2,20),(3,19),(3,20),(4,19),(5,19),(6,19),(7,19),(8,19),(9,19),(10,19)] ?_;refine cC ?_;refine aQ rfl (cV rfl rfl (rP (Y:=⟨D,g+1⟩) iQ.h (aV jI.h) Gy E)) (aQ (u:=pt nm1 q) rfl (BV (Y:=⟨D,g+1⟩) (oG nm1) (po nm1) iP.h rfl (fun _=>rfl) rfl SF E) ?_);refine cC ?_;refine aQ rfl (cV rfl rfl (rP (Y:=⟨D,g+1⟩) iQ.h (aV jI.h) Gy E)) (aQ (u:=pt nm1 q) rfl (BV (Y:=⟨D,g+1⟩) (oG nm1) (po nm1) iP.h rfl (fun _=>rfl) rfl SF E) ?_);refine cC ?_;refine aQ rfl (cV rfl rfl (rP (Y:=⟨D,g+1⟩) iQ.h (aV jI.h) Gy xr)) (aQ (u:=pt nm1<|P.N.length+a.To.toNat) rfl (BV (Y:=⟨D,g+1⟩) (oG nm1) (po nm1) iP.h rfl (fun _=>rfl) rfl SF xr) ?_);refine cC ?_;refine dM ?_
    let l:X (Nat×B):=(g+1,.row [.i6 a.E2,pt nm1<|P.N.length+a.To.toNat] 107)::D
    have wW:gt l (M+1)=some (.vec ((z.take j).map (bZ nm1)).flatten 107 2 s):=by simp only[l,D];rw[aR,hF af,aR,hF af];exact hv
    have fO:rowOf (Sg.mk l<|g+2) (g+1)=some [.i6 a.E2,pt nm1<|P.N.length+a.To.toNat]:=by simp[l,rowOf,aR]
    refine RD.act rfl (qV rfl rfl rfl rfl (ED (bZ nm1) [⟨a.E2,P.N.length+a.To.toNat⟩] FH.h FH.h EL.h rfl (fun _=>rfl) wW (FU (bZ nm1) [⟨a.E2,P.N.length+a.To.toNat⟩] (q:=[.i6 a.E2,pt nm1<|P.N.length+a.To.toNat]) fO rfl rfl rfl) ⟨by rw[zy];simp;omega,by rw[zy];simp;omega⟩)) rfl rfl ?_
    let G:B:=.vec (List.map (bZ nm1)<|z.take j++[⟨a.E2,P.N.length+a.To.toNat⟩]).flatten 107 2 (s+1)
    haveI:eK (ug l (M+1) G) (nm1 q) (.row [.i6 x.R,.vl (M+1) s 0 (z.take j).length,.b6,.i6 0,.i6 0,.i6 0,.O false [],.i6 0,.b6,.i6 0,.bool false,.i6 0] 103):=⟨by rw[bV,hF af];simp only[l,D];rw[aR,hF af,aR,hF af];exact C3⟩
    have Hj:gt l (nx+1)=some (.row ((nC P.N.length f.D9.length f.D9.length).map (oG nm1)).flatten 92):=Hi (by simp only[l,D];rw[aR,hF af,aR,hF af]);have AP:gt (ug l (M+1) G) (nx+1)=some (.row ((nC P.N.length f.D9.length f.D9.length).map (oG nm1)).flatten 92):=Hi (by rw[bV,hF af];simp only[l,D];rw[aR,hF af,aR,hF af]);have xd:live (Sg.mk l<|g+2) (nx+1) 0=true:=by simp[live,Hj,B.st]
    have Gx:live (Sg.mk (ug l (M+1) G)<|g+2) (nx+1) 0=true:=by simp[live,AP,B.st]
    refine cC ?_;refine qB ?_;refine bB ⟨by kernel_rfl,⟨L6,L6,L6,L6,cV rfl rfl (rP (Y:=⟨l,g+2⟩) iQ.h (aV jI.h) xd E),cV rfl rfl (rP (Y:=⟨ug l (M+1) G,g+2⟩) iQ.h (aV jI.h) Gx E),BV (Y:=⟨l,g+2⟩) (oG nm1) (po nm1) iP.h rfl (fun _=>rfl) rfl Hj E,BV (Y:=⟨ug l (M+1) G,g+2⟩) (oG nm1) (po nm1) iP.h rfl (fun _=>rfl) rfl AP E,L6,L6,cV rfl rfl (rP (Y:=⟨l,g+2⟩) iQ.h (aV jI.h) xd E),BV (Y:=⟨l,g+2⟩) (oG nm1) (po nm1) iP.h rfl (fun _=>rfl) rfl Hj E,L6,L6,L6,trivial⟩,?_⟩;refine goN ?_;refine⟨x.E4.length-(j+1),_,_,by omega,⟨j+1,s+1,_,g+2,rfl,j0,rfl,rfl,by omega,?_,?_,fun k hk kY=>?_⟩,by have:=hm.le;show nx<=g+2;omega,Gh.sub ?_⟩;rw[bV,hF af,bV,lr rfl];show Option.map _ (gt l<|M+1)=_;rw[wW,Gd];rfl;rw[bV,lr rfl,bV,hF af];show Option.map _ (gt l<|nm1 q)=_;simp only[l,D];rw[aR,hF af,aR,hF af,C3,Gd];rfl;rw[bV,hF<|WV kY,bV,hF af];show gt l k=_;simp only[l,D];rw[aR,hF af,aR,hF af];exact fW k hk kY
    ·rw[<-DF];(repeat refine⟨rfl,?_⟩);exact trivial
   ·refine goN ?_;have j0:j=x.E4.length:=by
     have:¬ (j:Int)<x.E4.length:=by simpa using h9
     omega
    subst j0;have e:z.take x.E4.length=z:=by rw[<-xg,js]
    rw[e]at hv C3;exact⟨_,_,⟨s,C,g,rfl,rfl,jq,hv,C3,fW⟩,by have:=hm.le;show nx<=g;omega,Gh.sub<|by((repeat refine⟨rfl,?_⟩);exact trivial)⟩
  ·refine goN ?_;have I:t=f.D9.length:=by
    have:¬ (t:Int)<f.D9.length:=by simpa using h7
    omega
   subst I;refine⟨_,_,⟨H,M,rfl,rfl,?_,F,hM⟩,hm.le,Gh.sub<|by((repeat refine⟨rfl,?_⟩);exact trivial)⟩;have e:xQ P.N L f.D9.length=P.N++L:=by rw[<-nQ];simp[xQ]
   rw[e,<-nQ]at hm;exact hm
 rintro _ _ _ ⟨t,nm1,H,M,rfl,ht,rfl,rfl,hm,F,X6,hM⟩;refine I6.wf fun J _=>?_
 haveI:ca M (M+1):=⟨rfl⟩
 haveI:ca (M+1) (M+2):=⟨rfl⟩
 refine goN ?_;refine eE rfl (fun h7=>?_) (fun h7=>?_)
 ·have I:t<f.D9.length:=by simpa using h7
  obtain⟨x,hx⟩:∃a,f.D9[t]? = some a:=⟨_,lq I⟩;obtain⟨y,hy,W⟩:=b? t x hx;have m6:aB f.D9 (t:Int)=some x:=by rw[aB,lr ⟨by omega,by omega⟩];simpa using hx
  have kW:i64.wrap ((t:Int)+1)=((t+1:Nat):Int):=by rw[oX af af];rfl
  haveI:Nq (M+1) (nx+1):=⟨by rw[beq_eq];simp;omega⟩
  haveI:Nq M (nx+1):=⟨by rw[beq_eq];simp;omega⟩
  refine goN ?_;apply cK;refine goN ?_;refine c8 m6 ?_;refine goN ?_
  let N1:X PN:=P.N++(L.take t).map NI
  have EY:N1.length=P.N.length+t:=by simp[N1];omega
  let Q:Nat->Nat:=wE nm1 N1.length (M+1)
  let R0:B:=.row [.i6 x.R,.J,.b6,.i6 0,.i6 0,.i6 0,.J,.i6 0,.b6,.i6 0,.bool false,.i6 0] 103
  let R2:B:=.row (sY Q (iD x.R []) .J) 103
  let o:X (Nat×B):=(M+1,R0)::(M,.row (bA x) 79)::H
  have hm1:=hm.more J<|.row (bA x) 79;have nM:qA ⟨(M,.row (bA x) 79)::H,M+1⟩:=fun k b v=>by have v:gt ((M,B.row (bA x) 79)::H) k=some b:=v;rw[aR]at v;by_cases e:M=k;rw[lr e]at v;cases v;exact⟨by show k<M+1;omega,y5 _ x⟩;rw[hF e]at v;obtain⟨h1,h2⟩:=J k b v;exact⟨Ze h1,Mu (MD _) h2⟩
  have tO:=hm1.add nM (by rw[EY];omega) x.R;have W_:(nC P.N.length f.D9.length t).map (oG nm1)=(nC P.N.length f.D9.length t).map (oG Q):=(z1i (nm':=Q) (nm:=nm1) (n:=N1.length) xZ af).symm;have AP:gt o (nx+1)=some (.row ((nC P.N.length f.D9.length t).map (oG Q)).flatten 92):=by simp only[o];rw[aR,hF af,aR,hF af,F,W_]
  have Gz:live (Sg.mk o<|M+2) (nx+1) 0=true:=by simp[live,AP,B.st]
  have E:gU (nC P.N.length f.D9.length t) 0 f.D9.length (t:Int)=some none:=by rw[gU,lr ⟨by omega,by omega⟩];simp only[zZ,Ty];rw[V5 I,hF<|Nat.lt_irrefl _]
  refine RS.w rfl (cV rfl rfl (rP (Y:=⟨o,M+2⟩) iQ.h (aV jI.h) Gz E)) ?_;have DU:([.ptr (M+1) 0 0]:X U)=oG Q (some<|P.N.length+t):=by simp only[oG,po,pt,Q,<-EY,Bv]
  refine RS.wn rfl (PX (Y:=⟨o,M+2⟩) (y:=some<|P.N.length+t) (oG Q) (aV jI.h) (fun _=>rfl) rfl rfl rfl rfl DU AP E rfl) ?_;refine goN ?_;have hug:∀b,ug o (M+1) b=(M+1,b)::(M,.row (bA x) 79)::H:=fun b=>by simp[o,ug,beq_eq]
  have hy2:NI y=iD x.R []:=by obtain⟨_,W⟩:=bU W;obtain⟨z,_,W⟩:=aJ W;obtain rfl:=sI W;rfl
  have hH3:rY kp d st nm P h nx Q (P.N++(L.take<|t+1).map NI) P.size P.N.length (ug ((M+1,R2)::(M,.row (bA x) 79)::H) (nx+1)<|.row ((nC P.N.length f.D9.length<|t+1).map (oG Q)).flatten 92) (M+2):=by
   have e:P.N++(L.take<|t+1).map NI=N1++[iD x.R []]:=by rw[Ih,hy];simp[N1,hy2]
   rw[e];refine tO.sE (MD _) (q:=((nC P.N.length f.D9.length t).map (oG Q)).flatten) ?_ _;rw[aR,hF af,aR,hF af,F,W_]
  refine⟨f.D9.length-(t+1),_,_,by omega,⟨t+1,Q,_,M+2,rfl,I,rfl,rfl,hH3,?_,?_,by omega⟩,hH3.le,Gh.trans (Gh.sub (l':=[(0,.ptr kp 0 0),(3,.ptr nx 0 0),(5,.sl (nx+1) 0 f.D9.length f.D9.length),(17,.iM bA f.D9),(18,.i6 f.D9.length),(19,.i6 ((t+1:Nat):Int))]) ?_) ?_⟩;rw[bV,lr rfl,aR,hF af,aR,hF af,F];rfl;rw[bV,hF af,aR,hF af,aR,hF af];exact X6
  ·rw[<-kW];(repeat refine⟨rfl,?_⟩);exact trivial
  have e3:(nC P.N.length f.D9.length t).set ((t:Int)).toNat (some<|P.N.length+t)=nC P.N.length f.D9.length (t+1):=z8o I;rw[e3];have zt:∀(b c:B),ug ((M+1,b)::(M,.row (bA x) 79)::H) (nx+1) c=(M+1,b)::(M,.row (bA x) 79)::ug H (nx+1) c:=fun b c=>by simp only[ug,beq_eq];rw[Zb af,Zb af];rfl
  have hug3:∀(T:X (Nat×B))(b:B),ug ((M+1,R0)::T) (M+1) b=(M+1,b)::T:=fun T b=>by simp[ug,beq_eq]
  have hgM:∀T:X (Nat×B),gt ((M+1,R0)::T) (M+1)=some R0:=fun T=>by simp[aR]
  refine(Gh.eqv rfl (congrArg (fun T=>(⟨T,M+2⟩:Sg))<|zt R0 _)).trans ((Gh.pW (Y:=⟨_,M+2⟩) (K:=M+1) (hgM _) (q':=sY Q (iD x.R []) .J) rfl ?_).trans (Gh.eqv rfl ?_));exact .cons (.refl _)<|.cons (.refl _)<|.cons (.refl _)<|.cons (.refl _)<|.cons (.refl _)<|.cons (.refl _)<|.cons (.nil false)<|qP.refl _;exact congrArg (fun T=>(⟨T,M+2⟩:Sg)) ((hug3 _ _).trans (zt R2 _).symm)
 ·refine goN ?_;have I:t=f.D9.length:=by
   have:¬ (t:Int)<f.D9.length:=by simpa using h7
   omega
  subst I;refine⟨_,_,⟨nm1,H,M,rfl,rfl,?_,F,X6,hM⟩,hm.le,Gh.sub<|by((repeat refine⟨rfl,?_⟩);exact trivial)⟩;have e:P.N++(L.take f.D9.length).map NI=xQ P.N L 0:=by rw[<-nQ,js];simp[xQ]
  rw[<-e];exact hm
end
end Go.Proofs
namespace Go.Proofs
open Go Go.Rx Go.Vx Tryz
def pOf(n:Nat)(t:Int):V az:=a8 (O5 n 0 [0,1]) fun a=>a8 (O5 n t []) fun b=>Mx n [a,b]
def pEx(n:Nat):V FK :=
 a8 (dp n) fun H=>a8 (pOf n 1) fun f0=>a8 (BO (wH H) f0) fun a=>aE (a.1=0) (a8 (pOf n 0) fun f1=>a8 (BO a.2 f1) fun b=>aE (b.1=1)<|a8 (pOf n 2) fun f2=>a8 (BO b.2 f2) fun c=>aE (c.1=2)<|a8 (vP n c.2 0 1) fun u=>aE (u.1.1=3/\u.1.2=true)<|a8 (CW n u.2 3) fun g=>aE (g.2=true)<|a8 (vP n u.2 0 2) fun v=>aE (v.1.1=0/\v.1.2=false)<|a8 (O7 n g.1 f0) fun e=>aE (e=true)<|a8 (yY n v.2 1 2) fun t1=>aE (t1.1=true)<|a8 (yY n t1.2 0 2) fun t2=>aE (t2.1=false)<|a8 (vP n t2.2 1 2) fun w=>aE (w.1.1=4/\w.1.2=true)<|a8 (CW n w.2 5) fun x=>aE (x.2=false/\w.2.size>=2/\w.2.size<=10)<|some true)
def Qf(m:Nat):pEx (m+200)=some true:=ag
def Ei{n:Nat}(h:200<=n):pEx n=some true:=by
 have:=Qf (n-200)
 rwa [Nat.sub_add_cancel h]at this
end Go.Proofs
namespace Go.Proofs
open Go Go.Rx Go.Vx Tryz
variable{P:PP}{f:az}
def SV{r:Int×PP}(h:BO P f=some r)(w:Wf P.N)(H:∀k∈P.roots,k<P.N.length):Wf r.2.N/\(∀k∈r.2.roots,k<r.2.N.length)/\P.N.length<=r.2.N.length:=by
 obtain⟨⟨E,_,_⟩,h⟩:=bU h;obtain⟨L,B,h⟩:=aJ h;obtain rfl:=sI h;obtain⟨q,b?⟩:=Vc B;have s:(P.N++L).length=P.N.length+f.D9.length:=by simp[q]
 refine⟨fun x e=>?_,fun k c=>?_,by show _<=(P.N++L).length;omega⟩;show lQ (P.N++L).length x;rw[s];obtain e |e:=yD.1 e;exact(w x e).le (il _ _);obtain⟨i,o⟩:=Zc e;have D:i<f.D9.length:=by rw[<-q];exact pS o
 obtain⟨y,m,d⟩:=b? i _<|lq D;rw[o]at m;cases m;obtain⟨_,d⟩:=bU d;obtain⟨l,u,d⟩:=aJ d;obtain rfl:=sI d;obtain⟨v,z⟩:=Vc u;refine⟨fun a C=>?_,trivial,nofun,trivial⟩;obtain⟨j,g⟩:=Zc C;have g:l[j]? = some a:=g;have p:j<l.length:=(zG.1 g).1;rw[v]at p;obtain⟨b,n,A⟩:=z j _<|lq p;rw[g]at n;cases n;obtain⟨F,G,t⟩:=Ts A;rw[t];show P.N.length+_<_;omega;show k<(P.N++L).length;obtain c |c:=yD.1 c;have:=H k c;omega;simp at c;subst c;omega
variable{a:Int}{b:Int}
def z4c{n:Nat}{r:(Int×FK)×PP}(h:vP n P a b=some r)(w:Wf P.N)(z:∀k∈P.roots,k<P.N.length):Wf r.2.N/\(∀k∈r.2.roots,k<r.2.N.length)/\P.N.length<=r.2.N.length:=by
 obtain⟨i,s,h⟩:=aJ h;obtain⟨e,j,v,l,x,y⟩:=Ur s w;cases g:i.1 with
 |none=>rw[g]at h;obtain rfl:=sI h;exact⟨j,fun k d=>by rw[l]at d;rw[e.len];exact z k d,by rw[e.len];exact zF _⟩
 |some q=>rw[g]at h;obtain⟨c,t,h⟩:=aJ h;obtain⟨_,h⟩:=bU h;obtain rfl:=sI h;obtain⟨m,o,p⟩:=qyb t j;have u:i.2.N.length<=c.2.1.length:=m.len;refine⟨o,fun k d=>?_,by show P.N.length<=c.2.1.length;rw[<-e.len];exact u⟩;show k<c.2.1.length;obtain d |d:=yD.1 d;rw[l]at d;have:=z k d;rw[<-e.len]at this;omega;simp at d;subst d;exact p
variable{r:FK×PP}
def z8l{n:Nat}(h:yY n P a b=some r)(w:Wf P.N)(p:∀k∈P.roots,k<P.N.length):Wf r.2.N/\(∀k∈r.2.roots,k<r.2.N.length)/\r.2.N.length=P.N.length:=by obtain⟨j,e,h⟩:=aJ h;obtain rfl:=sI h;obtain⟨d,g,l,i,m,o⟩:=Ur e w;exact⟨g,fun k c=>by rw[i]at c;rw[d.len];exact p k c,d.len⟩
def NP(b:B):Prop:=(∀l,b≠.row l 83)/\(∀l,b≠.row l 103)/\∀l s t,b≠.vec l 92 s t
structure PL(n0:Nat)(h0:X (Nat×B))(kp:Nat)(P:PP)(h:X (Nat×B))(nx:Nat):Prop where
 ex:∃kr st nm,PH kp kr st nm P h/\n0<=kr/\(∀i,i<P.N.length->n0<=nm i)/\kr<nx/\kp<nx/\∀i,i<P.N.length->nm i<nx
 kp:n0<=kp
 lo:∀k,k<n0->gt h k=gt h0 k
 le:n0<=nx
structure PS(n0:Nat)(h0:X (Nat×B))(kp:Nat)(P:PP)(h:X (Nat×B))(nx:Nat)(h':X (Nat×B))(nx':Nat):Prop where
 pl:PL n0 h0 kp P h' nx'
 le:nx<=nx'
 np:∀k b,k<nx->gt h k=some b->NP b->gt h' k=some b
section
variable{n0 kp:Nat}{h0:X (Nat×B)}{P:PP}{h:X (Nat×B)}{nx:Nat}
def PL.more(p:PL n0 h0 kp P h nx)(b:B):PL n0 h0 kp P ((nx,b)::h) (nx+1):=by obtain⟨q,st,nm,c,j,l,m,n,d⟩:=p.ex;exact⟨⟨q,st,nm,⟨by rw[kF n];exact c.b5,by rw[kF m];exact c.roots,fun i x g=>by rw[kF<|d i (zG.1 g).1];exact c.node i x g,c.inj,c.wf,c.rt⟩,j,l,by omega,by omega,fun i o=>by have:=d i o;omega⟩,p.kp,fun k e=>by rw[kF<|YR e p.le];exact p.lo k e,Zu p.le⟩
def PL.up(p:PL n0 h0 kp P h nx){nx':Nat}(k:nx<=nx'):PL n0 h0 kp P h nx':=by obtain⟨l,st,nm,c,d,e,m,n,g⟩:=p.ex;exact⟨⟨l,st,nm,c,d,e,by omega,by omega,fun i j=>by have:=g i j;omega⟩,p.kp,p.lo,Zt p.le k⟩
def PL.sE(p:PL n0 h0 kp P h nx){j:X (Nat×B)}{K:Nat}(y:n0<=K){b:B}(t:gt h K=some b)(d:NP b)(m:∀k,k≠K->gt j k=gt h k):PL n0 h0 kp P j nx:=by
 obtain⟨w,st,nm,g,o,q,s⟩:=p.ex;have key:∀k c,gt h k=some c->¬ NP c->gt j k=some c:=fun k c l n=>by rw[m k fun e=>?_];exact l;rw[e,t]at l;cases l;exact n d
 refine⟨⟨w,st,nm,⟨key _ _ g.b5 fun d=>d.1 _ rfl,key _ _ g.roots fun d=>d.2.2 _ _ _ rfl,fun i x v=>key _ _ (g.node i x v) fun d=>d.2.1 _ rfl,g.inj,g.wf,g.rt⟩,o,q,s⟩,p.kp,fun k u=>by rw[m k af];exact p.lo k u,p.le⟩
def PL.wf(p:PL n0 h0 kp P h nx):Wf P.N:=by obtain⟨_,_,_,c,_⟩:=p.ex;exact c.wf
def PL.rt(p:PL n0 h0 kp P h nx):∀k∈P.roots,k<P.N.length:=by obtain⟨_,_,_,c,_⟩:=p.ex;exact c.rt
def z1m{k st:Nat}{nm:Nat->Nat}{n:Nat}{P1:PP}(p:PH kp k st nm P h)(t:kp<nx)(s:k<nx)(m:∀i,i<P.N.length->nm i<nx)(q:∀x∈P1.N,lQ P1.N.length x)(kD:∀r∈P1.roots,r<P1.N.length):PH kp k n (kI nm P.N.length nx) P1 (cH kp k n (kI nm P.N.length nx) P1 h):=by
 have g:∀i,(i<P.N.length/\kI nm P.N.length nx i=nm i)\/(P.N.length<=i/\kI nm P.N.length nx i=nx+(i-P.N.length)):=fun i=>by obtain c |c:=Zd i P.N.length;exact .inl ⟨c,BT i c⟩;exact .inr ⟨c,by rw[kI,hF af]⟩
 refine I? (WV p.mY) (fun i _=>?_) (fun i _=>?_) (fun i j _ _ e=>?_) q kD;obtain⟨c,d⟩|⟨c,d⟩:=g i;rw[d];exact p.jO c;omega;obtain⟨c,d⟩|⟨c,d⟩:=g i;rw[d];exact p.rF c;omega;obtain⟨c,d⟩|⟨c,d⟩:=g i<;>obtain⟨l,o⟩|⟨l,o⟩:=g j;rw[d,o]at e;exact p.inj i j c l e;have:=m i c;omega;have:=m j l;omega;omega
def VX{g st:Nat}{nm:Nat->Nat}(p:PH kp g st nm P h)(q1:kp<nx)(q2:g<nx)(q3:∀i,i<P.N.length->nm i<nx)(lo:∀k,k<n0->gt h k=gt h0 k)(le:n0<=nx)(x:n0<=kp)(s:n0<=g)(o:∀i,i<P.N.length->n0<=nm i){l:Nat}{P1:PP}(t:Wf P1.N)(kD:∀r∈P1.roots,r<P1.N.length)(N:Nat)(y:nx+(P1.N.length-P.N.length)<=N):PS n0 h0 kp P1 h nx (cH kp g l (kI nm P.N.length nx) P1 h) N:=by
 have q:∀k,k<nx->k≠kp->k≠g->(∀i,i<P.N.length->nm i≠k)->gt (cH kp g l (kI nm P.N.length nx) P1 h) k=gt h k:=fun k z u v w=>sn u v fun i j e=>by obtain c |c:=Zd i P.N.length;rw[BT i c]at e;exact w i c e;rw[kI,hF af]at e;omega
 refine⟨⟨⟨g,l,_,z1m p q1 q2 q3 t kD,s,fun i j=>?_,by omega,by omega,fun i j=>?_⟩,x,fun k m=>?_,by omega⟩,by omega,fun k b m d n=>?_⟩;obtain c |c:=Zd i P.N.length;rw[BT i c];exact o i c;rw[kI,hF af];omega;obtain c |c:=Zd i P.N.length;rw[BT i c];have:=q3 i c;omega;rw[kI,hF af];omega;rw[q k af af af fun i j e=>by have:=o i j;omega];exact lo k m;rw[q k m (fun e=>?_) (fun e=>?_) fun i j e=>?_];exact d;rw[e,p.b5]at d;cases d;exact n.1 _ rfl;rw[e,p.roots]at d;cases d;exact n.2.2 _ _ _ rfl;rw[<-e,p.node i _<|lq j]at d;cases d;exact n.2.1 _ rfl
variable{k:Int}{c:PP}
def z4q(p:PL n0 h0 kp P h nx)(O:BO P f=some (k,c)):∃e d,b7 prog 18 [.ptr kp 0 0,.agg<|eY f] ⟨h,nx⟩ (fun u i=>u=.i6 k/\i=⟨e,d⟩)/\PS n0 h0 kp c h nx e d:=by obtain⟨t,st,nm,g,j,l,m,n,o⟩:=p.ex;obtain⟨q,s,v⟩:=SV O p.wf p.rt;exact⟨_,_,Du g O,VX g n m o p.lo p.le p.kp j l q s _<|zF _⟩
def zcz(p:PL n0 h0 kp P h nx)(O:BO P f=some (k,c)):b7 prog 18 [.ptr kp 0 0,.agg<|eY f] ⟨h,nx⟩ (fun u g=>∃e d,u=.i6 k/\g=⟨e,d⟩/\PS n0 h0 kp c h nx e d):=by obtain⟨e,d,g1,g2⟩:=z4q p O;exact g1.mono fun u g ⟨i,j⟩=>⟨e,d,i,j,g2⟩
def R?(p:PL n0 h0 kp P h nx){r:Int×PP}(O:BO P f=some r):b7 prog 18 [.ptr kp 0 0,.agg<|eY f] ⟨h,nx⟩ (fun u e=>∃d nx',u=.i6 r.1/\e=⟨d,nx'⟩/\PS n0 h0 kp r.2 h nx d nx'):=zcz p O
def er(p:PL n0 h0 kp P h nx)(n:Nat){r:(Int×FK)×PP}(O:vP n P a b=some r):b7 prog 21 [.ptr kp 0 0,.i6 a,.i6 b] ⟨h,nx⟩ (fun u e=>∃g d,u=.a7 [.i6 r.1.1,.bool r.1.2]/\e=⟨g,d⟩/\PS n0 h0 kp r.2 h nx g d):=by obtain⟨y,st,nm,i,m,o,q,s,t⟩:=p.ex;obtain⟨v,w,z⟩:=z4c O p.wf p.rt;exact(z9d i n O).mono fun u e ⟨x,j,l⟩=>⟨_,_,j,l,VX i s q t p.lo p.le p.kp m o v w _<|zF _⟩
def td(p:PL n0 h0 kp P h nx)(n:Nat)(O:yY n P a b=some r):∃q,b7 prog 22 [.ptr kp 0 0,.i6 a,.i6 b] ⟨h,nx⟩ (fun u t=>u=.bool r.1/\t=⟨q,nx⟩)/\PS n0 h0 kp r.2 h nx q nx:=by obtain⟨m,st,nm,j,v,s,w,x,y⟩:=p.ex;obtain⟨E,F,G⟩:=z8l O p.wf p.rt;have o:∀k,k≠kp->k≠m->(∀i,i<P.N.length->nm i≠k)->gt (cH kp m st nm r.2 h) k=gt h k:=fun k A C D=>sn A C fun i g=>D i af;refine⟨_,zdk j n O,⟨⟨m,st,nm,qsk j G E F,v,fun i g=>s i af,w,x,fun i g=>y i af⟩,p.kp,fun k z=>?_,p.le⟩,zF _,fun k b _ d l=>?_⟩;rw[o k (by have:=p.kp;omega) af fun i g e=>by have:=s i g;omega];exact p.lo k z;rw[o k (fun e=>?_) (fun e=>?_) fun i g e=>?_];exact d;rw[e,j.b5]at d;cases d;exact l.1 _ rfl;rw[e,j.roots]at d;cases d;exact l.2.2 _ _ _ rfl;rw[<-e,j.node i _<|lq g]at d;cases d;exact l.2.1 _ rfl
def zdl(p:PL n0 h0 kp P h nx)(n:Nat)(O:yY n P a b=some r):b7 prog 22 [.ptr kp 0 0,.i6 a,.i6 b] ⟨h,nx⟩ (fun u e=>∃d,u=.bool r.1/\e=⟨d,nx⟩/\PS n0 h0 kp r.2 h nx d nx):=by obtain⟨d,g1,g2⟩:=td p n O;exact g1.mono fun u e ⟨g,i⟩=>⟨d,g,i,g2⟩
def qw4(p:PL n0 h0 kp P h nx)(n:Nat){r:az×FK}(O:CW n P k=some r):b7 prog 19 [.ptr kp 0 0,.i6 k] ⟨h,nx⟩ (fun u d=>u=.a7 [.agg<|eY r.1,.bool r.2]/\d=⟨h,nx⟩):=by obtain⟨g,st,nm,e,_⟩:=p.ex;exact qw3 e n O
variable{ok:FK}
def WT(p:PL n0 h0 kp P h nx)(n:Nat)(O:vP n P a b=some ((k,ok),c)):b7 prog 21 [.ptr kp 0 0,.i6 a,.i6 b] ⟨h,nx⟩ (fun u g=>∃e d,u=.a7 [.i6 k,.bool ok]/\g=⟨e,d⟩/\PS n0 h0 kp c h nx e d):=er p n O
def Qa(p:PL n0 h0 kp P h nx)(n:Nat)(O:yY n P a b=some (ok,c)):b7 prog 22 [.ptr kp 0 0,.i6 a,.i6 b] ⟨h,nx⟩ (fun u e=>∃d,u=.bool ok/\e=⟨d,nx⟩/\PS n0 h0 kp c h nx d nx):=zdl p n O
def Qe(p:PL n0 h0 kp P h nx)(n:Nat)(O:CW n P k=some (f,ok)):b7 prog 19 [.ptr kp 0 0,.i6 k] ⟨h,nx⟩ (fun u d=>u=.a7 [.agg<|eY f,.bool ok]/\d=⟨h,nx⟩):=qw4 p n O
def qwd(p:PL n0 h0 kp P h nx):b7 prog 16 [.ptr kp 0 0] ⟨h,nx⟩ (fun u d=>u=.i6 P.size/\d=⟨h,nx⟩):=by obtain⟨g,st,nm,e,_⟩:=p.ex;exact zdc e
def z3j(H:cR)(j:n0<=nx)(g:∀k,k<n0->gt h k=gt h0 k):PL n0 h0 (nx+1) (wH H) (IN H nx h) (nx+3):=
 ⟨⟨nx+2,0,id,zck H nx h id,by omega,fun i d=>by simp[wH]at d,by omega,by omega,fun i d=>by simp[wH]at d⟩,by omega,fun k e=>by rw[IN,aR,hF af,aR,hF af,aR,hF af];exact g k e,by omega⟩
end
structure ExR(n:Nat)(H:cR)(a0 b0 a1 b1 a2 b2:aK)(f0 f1 f2:az)(r0 r1 r2:Int×PP)(u v w:(Int×FK)×PP)(g x:az×FK)(t1 t2:FK×PP):Prop where
 hH:dp n=some H
 xN:O5 n 0 [0,1]=some a0
 yH:O5 n 1 []=some b0
 yK:Mx n [a0,b0]=some f0
 yL:BO (wH H) f0=some r0
 A1:r0.1=0
 AY:O5 n 0 [0,1]=some a1
 u4:O5 n 0 []=some b1
 A2:Mx n [a1,b1]=some f1
 BD:BO r0.2 f1=some r1
 A7:r1.1=1
 BJ:O5 n 0 [0,1]=some a2
 u7:O5 n 2 []=some b2
 A9:Mx n [a2,b2]=some f2
 B4:BO r1.2 f2=some r2
 vU:r2.1=2
 hu:vP n r2.2 0 1=some u
 w5:u.1.1=3/\u.1.2=true
 hg:CW n u.2 3=some g
 C5:g.2=true
 hv:vP n u.2 0 2=some v
 x3:v.1.1=0/\v.1.2=false
 he:O7 n g.1 f0=some true
 C7:yY n v.2 1 2=some t1
 x5:t1.1=true
 D6:yY n t1.2 0 2=some t2
 x7:t2.1=false
 hw:vP n t2.2 1 2=some w
 x9:w.1.1=4/\w.1.2=true
 hx:CW n w.2 5=some x
 r5:x.2=false/\w.2.size>=2/\w.2.size<=10
def exR{n:Nat}(O:200<=n):∃H a0 l j m k o f0 f1 f2 F G I u v w g x t1 t2,ExR n H a0 l j m k o f0 f1 f2 F G I u v w g x t1 t2:=by have c:=Ei O;obtain⟨H,M,c⟩:=aJ c;obtain⟨f0,d,c⟩:=aJ c;obtain⟨F,A,c⟩:=aJ c;obtain⟨v0,c⟩:=bU c;obtain⟨f1,h,c⟩:=aJ c;obtain⟨G,B,c⟩:=aJ c;obtain⟨v1,c⟩:=bU c;obtain⟨f2,i,c⟩:=aJ c;obtain⟨I,C,c⟩:=aJ c;obtain⟨U,c⟩:=bU c;obtain⟨u,Q,c⟩:=aJ c;obtain⟨X,c⟩:=bU c;obtain⟨g,N,c⟩:=aJ c;obtain⟨W,c⟩:=bU c;obtain⟨v,R,c⟩:=aJ c;obtain⟨Y,c⟩:=bU c;obtain⟨e,L,c⟩:=aJ c;obtain⟨V,c⟩:=bU c;obtain⟨t1,D,c⟩:=aJ c;obtain⟨J,c⟩:=bU c;obtain⟨t2,E,c⟩:=aJ c;obtain⟨K,c⟩:=bU c;obtain⟨w,S,c⟩:=aJ c;obtain⟨vw,c⟩:=bU c;obtain⟨x,T,c⟩:=aJ c;obtain⟨Z,c⟩:=bU c;obtain⟨a0,p,d⟩:=aJ d;obtain⟨l,t,d⟩:=aJ d;obtain⟨j,q,h⟩:=aJ h;obtain⟨m,y,h⟩:=aJ h;obtain⟨k,s,i⟩:=aJ i;obtain⟨o,z,i⟩:=aJ i;exact⟨H,a0,l,j,m,k,o,f0,f1,f2,F,G,I,u,v,w,g,x,t1,t2,M,p,t,d,A,v0,q,y,h,B,v1,s,z,i,C,U,Q,X,N,W,R,Y,by rw[V]at L;exact L,D,J,E,K,S,vw,T,Z⟩
def br{m:Nat}:∀{a b:X U},aH m a->aH m b->aH m (a++b):=fun{a b} ha hb=>by
 rw[y4];intro u c;obtain c |c:=yD.1 c;exact(y4 _ _).1 ha u c;exact(y4 _ _).1 hb u c
def PL.live{d kp:Nat}{c:X (Nat×B)}{P:PP}{h:X (Nat×B)}{nx:Nat}(p:PL d c kp P h nx):Go.Vx.live ⟨h,nx⟩ kp 0=true:=by obtain⟨e,st,nm,q,_⟩:=p.ex;simp[Go.Vx.live,q.b5];rfl
def li{n:Nat}(D:200<=n)(e:X (Nat×B))(d:Nat):b7 prog 11 [] ⟨e,d⟩ (fun u A=>u=.bool true/\A=⟨e,d⟩):=by
 refine b7.wf fun M _=>?_;obtain⟨H,a0,c,j,l,k,m,f0,f1,f2,Y,Z,r2,u,v,w,g,x,t1,t2,E⟩:=exR D;refine bg0 131 T8 ?_;refine goN ?_;refine aM rfl (pC (qqj n H E.hH) _) yq (j8 rfl (hJ rfl Jc rfl).2 (zao H e d) rfl rfl ?_);rintro _ _ ⟨rfl,rfl⟩;have p0:PL d e (d+1) (wH H) (IN H d e) (d+3):=z3j H (zF _) fun _ _=>rfl;refine goN ?_;refine RS.w rfl (Ek rfl rfl rfl (Zw un31.h p0.live rfl)) ?_;refine goN ?_;refine j8 rfl (hJ rfl T7 rfl).2 (qwd p0) rfl rfl ?_;rintro _ _ ⟨rfl,rfl⟩;refine goN ?_;refine DY rfl (fY.rK (cs:=[.i6 0,.i6 1]) (rs:=List.map (cI .i64) [0,1]) bQ rfl bI.h eP.h rfl rfl rfl rfl rfl rfl rfl rfl rfl rfl rfl (by simp[aH,aW])) ?_;rintro _ _ ⟨rfl,rfl⟩;refine goN ?_;refine aM rfl (pC (VH n 0 [0,1] a0 E.xN) _) xF ?_;refine goN ?_;refine aM rfl (IK (args':=[.i6 1,.O false []]) (.cons (.refl _)<|.cons (.nil false) .nil) (pC<|VH n 1 [] c E.yH) _) xF ?_;refine goN ?_;refine DY rfl (fY.rK (cs:=bA a0++bA c) (rs:=List.map bA [a0,c]) bQ rfl iR.h nL.h rfl rfl rfl rfl rfl rfl rfl rfl rfl rfl rfl (br (y5 0 _)<|y5 0 _)) ?_;rintro _ _ ⟨rfl,rfl⟩;refine goN ?_;refine aM rfl (pC (aw n [a0,c] f0 E.yK) _) LR ?_;refine goN ?_;refine j8 rfl (hJ rfl LS rfl).2 (R? (p0.up (nx':=d+5) af) E.yL) rfl rfl ?_;rintro _ _ ⟨N,F,rfl,rfl,p1⟩;rw[E.A1];refine goN ?_;refine DY rfl (fY.rK (cs:=[.i6 0,.i6 1]) (rs:=List.map (cI .i64) [0,1]) bQ rfl bI.h eP.h rfl rfl rfl rfl rfl rfl rfl rfl rfl rfl rfl (by simp[aH,aW])) ?_;rintro _ _ ⟨rfl,rfl⟩;refine goN ?_;refine aM rfl (pC (VH n 0 [0,1] j E.AY) _) xF ?_;refine goN ?_;refine aM rfl (IK (args':=[.i6 0,.O false []]) (.cons (.refl _)<|.cons (.nil false) .nil) (pC<|VH n 0 [] l E.u4) _) xF ?_;refine goN ?_;refine DY rfl (fY.rK (cs:=bA j++bA l) (rs:=List.map bA [j,l]) bQ rfl iR.h nL.h rfl rfl rfl rfl rfl rfl rfl rfl rfl rfl rfl (br (y5 0 _)<|y5 0 _)) ?_;rintro _ _ ⟨rfl,rfl⟩;refine goN ?_;refine aM rfl (pC (aw n [j,l] f1 E.A2) _) LR ?_;refine goN ?_;refine j8 rfl (hJ rfl LS rfl).2 (R? (p1.pl.up (nx':=F+2) af) E.BD) rfl rfl ?_;rintro _ _ ⟨O,G,rfl,rfl,I⟩;rw[E.A7];refine goN ?_;refine DY rfl (fY.rK (cs:=[.i6 0,.i6 1]) (rs:=List.map (cI .i64) [0,1]) bQ rfl bI.h eP.h rfl rfl rfl rfl rfl rfl rfl rfl rfl rfl rfl (by simp[aH,aW])) ?_;rintro _ _ ⟨rfl,rfl⟩;refine goN ?_;refine aM rfl (pC (VH n 0 [0,1] k E.BJ) _) xF ?_;refine goN ?_;refine aM rfl (IK (args':=[.i6 2,.O false []]) (.cons (.refl _)<|.cons (.nil false) .nil) (pC<|VH n 2 [] m E.u7) _) xF ?_;refine goN ?_;refine DY rfl (fY.rK (cs:=bA k++bA m) (rs:=List.map bA [k,m]) bQ rfl iR.h nL.h rfl rfl rfl rfl rfl rfl rfl rfl rfl rfl rfl (br (y5 0 _)<|y5 0 _)) ?_;rintro _ _ ⟨rfl,rfl⟩;refine goN ?_;refine aM rfl (pC (aw n [k,m] f2 E.A9) _) LR ?_;refine goN ?_;refine j8 rfl (hJ rfl LS rfl).2 (R? (I.pl.up (nx':=G+2) af) E.B4) rfl rfl ?_;rintro _ _ ⟨Q,V,rfl,rfl,J⟩;rw[E.vU];refine goN ?_;refine eE rfl (fun q=>absurd q bF) (fun _=>?_);refine goN ?_;refine j8 rfl (hJ rfl DX rfl).2 (er J.pl n E.hu) rfl rfl ?_;rintro _ _ ⟨R,o,rfl,rfl,y⟩;rw[E.w5.1,E.w5.2]
 haveI:ca o (o+1):=⟨rfl⟩
 refine goN ?_;refine j8 rfl (hJ rfl GP rfl).2 (qw4 y.pl n E.hg) rfl rfl ?_;rintro _ _ ⟨rfl,rfl⟩;rw[E.C5];refine goN ?_;refine j8 rfl (hJ rfl DX rfl).2 (er (y.pl.more _) n E.hv) rfl rfl ?_;rintro _ _ ⟨C,W,rfl,rfl,z⟩;rw[E.x3.1,E.x3.2]
 haveI:eK C o (.row [.iM bA g.1.D9] 39):=⟨z.np _ _ (zN _) (by rw[aR,lr rfl];rfl) ⟨nofun,nofun,nofun⟩⟩
 refine goN ?_;obtain⟨S,p,K⟩:=td z.pl n E.C7;obtain⟨T,s,L⟩:=td K.pl n E.D6;rw[E.x5]at p;rw[E.x7]at s
 haveI:jQ 0 (bA a0++bA c):=⟨br (y5 0 _)<|y5 0 _⟩
 refine dE [] ?_;refine cC ?_;refine ux (u:=.O false<|List.map (cI .i64) [0,1]) (by exact Go.Vx.wA) (uY.bs (cs:=[.i6 0,.i6 1]) bI.h eP.h rfl rfl rfl rfl rfl rfl rfl rfl rfl) rfl rfl ?_;refine cC ?_;refine dN rfl (pC<|VH n 0 [0,1] a0 E.xN) xF ?_;refine cC ?_;refine dN rfl (IK (args':=[.i6 1,.O false []]) (.cons (.refl _)<|.cons (.nil false) .nil)<|pC<|VH n 1 [] c E.yH) xF ?_;refine cC ?_;refine ux (u:=.O false<|List.map bA [a0,c]) (by exact Go.Vx.wA) (uY.bs (cs:=bA a0++bA c) iR.h nL.h rfl rfl rfl rfl rfl rfl rfl rfl rfl) rfl rfl ?_;refine cC ?_;refine dN rfl (pC<|aw n [a0,c] f0 E.yK) LR ?_;refine cC ?_;refine dN rfl (pC<|Xg n g.1 f0 true E.he) GO ?_;refine cC ?_;refine FD (by exact Go.Vx.wA) (hJ rfl DW rfl).2 p rfl rfl ?_;refine cC ?_;refine FD (by exact Go.Vx.wA) (hJ rfl DW rfl).2 s rfl rfl ?_;refine cC ?_;refine bB ⟨by kernel_rfl,trivial,?_⟩;refine goN ?_;refine eE rfl (fun q=>absurd q bF) (fun _=>?_);refine goN ?_;refine j8 rfl (hJ rfl DX rfl).2 (er L.pl n E.hw) rfl rfl ?_;rintro _ _ ⟨U,t,rfl,rfl,i⟩;rw[E.x9.1,E.x9.2]
 haveI:ca t (t+1):=⟨rfl⟩
 refine goN ?_;refine j8 rfl (hJ rfl GP rfl).2 (qw4 i.pl n E.hx) rfl rfl ?_;rintro _ _ ⟨rfl,rfl⟩;rw[E.r5.1];refine goN ?_;refine j8 rfl (hJ rfl T7 rfl).2 (qwd<|i.pl.more _) rfl rfl ?_;rintro _ _ ⟨rfl,rfl⟩;refine goN ?_;rw[Zh E.r5.2.1];refine goN ?_;refine j8 rfl (hJ rfl T7 rfl).2 (qwd<|i.pl.more _) rfl rfl ?_;rintro _ _ ⟨rfl,rfl⟩;refine goN ?_;rw[Zh E.r5.2.2];refine goN ?_;exact D? M rfl rfl rfl (i.pl.more _).lo (i.pl.more<|.row (eY x.1) 39).le (by simp[aW]) ⟨rfl,rfl⟩
end Go.Proofs
namespace Go.Proofs
open Go Go.Rx Go.Vx Go.Shelf Go.Sort
def qi4:∀a b:X Yv,mR a b=true↔a=b
 |[],[]=>by simp[mR]
 |[],_::_=>by simp[mR]
 |_::_,[]=>by simp[mR]
 |x::a,y::b=>by have h:(x.toNat=y.toNat)↔x=y:=UInt8.toNat_inj;simp only[mR,beq_eq];by_cases e:x=y;subst e;simp[qi4 a b];simp[e,mt h.1 e]
def zbm(a b:Nat):blt a b=true↔a<b:=by unfold blt;rw[yv];exact Iff.rfl
def tY(a b:Nat):blt a b=decide (a<b):=by rw[vg,zbm];simp
def qhq:∀a:X Yv,lP a a=false
 |[]=>rfl|x::a=>by simp[lP,tY,qhq a]
def qj1:∀a b c:X Yv,lP a b=true->lP b c=true->lP a c=true
 |_,[],_,h,_=>by simp[lP]at h
 |_,_::_,[],_,h=>by simp[lP]at h
 |[],_::_,_::_,_,_=>by simp[lP]
 |x::a,y::b,z::c,g,d=>by
  simp only[lP,tY,beq_eq]at*;by_cases h:x.toNat<y.toNat;by_cases f:y.toNat<z.toNat;have:x.toNat<z.toNat:=by omega
  simp[this];simp only[f,yB,zD]at d;by_cases e:y.toNat=z.toNat;have:x.toNat<z.toNat:=by omega
  simp[this];simp[e]at d;simp only[h,yB,zD]at g;by_cases e:x.toNat=y.toNat;simp only[e,yC,zC]at g;by_cases f:y.toNat<z.toNat;simp[e,f];simp only[f,yB,zD]at d;by_cases i:y.toNat=z.toNat;simp only[i,yC,zC]at d;have:=qj1 a b c g d;simp[e,i,this];simp[i]at d;simp[e]at g
def qj0:∀a b:X Yv,lP a b=false->lP b a=false->a=b
 |[],[],_,_=>rfl|[],_::_,h,_=>by simp[lP]at h
 |_::_,[],_,h=>by simp[lP]at h
 |x::a,y::b,c,d=>by
  simp only[lP,tY,beq_eq]at*;by_cases h:x.toNat<y.toNat;simp[h]at c;by_cases f:y.toNat<x.toNat;simp[f]at d;have e:x.toNat=y.toNat:=by omega
  simp only[e,Nat.lt_irrefl,yB,zD,yC,zC]at c d;rw[qj0 a b c d,UInt8.toNat_inj.1 e]
variable{g:Type}
def aN{b:Type}(a:g)(k:g->V b):a8 (some a) k=k a:=rfl
def wr{z:Int}(a : -9223372036854775808<=z)(b:z<=9223372036854775807):i64.wrap z=z:=oX af af
variable{i:Nat}
def kE{len:Nat}(h:i<len)(a:len<=9223372036854775807):i64.wrap ((i:Int)+1)=((i+1:Nat):Int):=by rw[wr af af];simp
def PK{z:Int}{k:Nat}(h:z=k)(a:k<=9223372036854775807):i64.wrap z=(k:Int):=by subst h;exact wr af af
variable{l:X g}
def fJ(h:i<l.length):∃x,l[i]? = some x/\x∈l:=⟨l[i],by simp[h],by simp⟩
variable{x:g}
def jB(h:l[i]? = some x):l.take (i+1)=l.take i++[x]:=by rw[Ih,h];rfl
def bC(h:l[i]? = some x):l.drop i=x::l.drop (i+1):=by have a:i<l.length:=(zG.1 h).1;rw[Zq a];congr 1;rw[lq a]at h;exact Option.some.inj h
def iU{n:Nat}(h:i<n):decide ((i:Int)<(n:Int))=true:=by simp;omega
def j9{n:Nat}(h:¬ i<n):decide ((i:Int)<(n:Int))=false:=by simp;omega
def bW(h:¬ i<l.length):l.drop i=[]:=Gk af
structure eb{g:Type}(c:g->g->Int):Prop where
 val:∀x y,c x y= -1\/c x y=0\/c x y=1
 S8:∀x y,c y x= - c x y
 trans:∀x y z,c x y<=0->c y z<=0->c x z<=0
variable{c:g->g->Int}
def eb.self(h:eb c)(x:g):c x x=0:=by have:=h.S8 x x;omega
variable{y:g}
def eb.congr(h:eb c)(f:c x y=0)(z:g):c x z=c y z:=by have d:=h.val x z;have e:=h.val y z;have a:=h.S8 x y;have b:=h.S8 x z;have a3:=h.S8 y z;have t1:=h.trans x y z;have t2:=h.trans y x z;have t3:=h.trans z x y;have t4:=h.trans z y x;omega
def eb.mC(h:eb c)(a:c x y=0)(z:g):c z x=c z y:=by have d:=h.congr a z;have b:=h.S8 x z;have a3:=h.S8 y z;omega
def eb.mI(h:eb c){z:g}(d:c x y<0)(b:c y z<=0):c x z<0:=by have t1:=h.trans x y z af b;obtain a |a:=Int.lt_or_eq_of_le t1;exact a;have:=h.congr a y;have a3:=h.S8 y z;omega
def H9{g:Type}(c d:g->g->Int)(x y:g):Int:=if c x y≠0 then c x y else d x y
def eb.lex{d:g->g->Int}(hc:eb c)(hd:eb d):eb (H9 c d) where
 val x y:=by unfold H9;split;exact hc.val x y;exact hd.val x y
 S8 x y:=by
  unfold H9;have a1:=hc.S8 x y;have a2:=hd.S8 x y;by_cases h:c x y=0;have:c y x=0:=by omega
  simp[h,this,a2];have:¬ c y x=0:=by omega
  simp[h,this,a1]
 trans x y z h1 h2:=by
  unfold H9 at*;by_cases h:c x y=0;have e:=hc.congr h z;simp only[h,ea,pj,MF]at h1;rw[e];by_cases h':c y z=0;simp only[h',ea,pj,MF]at h2 ⊢;exact hd.trans x y z h1 h2;simp only[h',ea,jg,It]at h2 ⊢;exact h2;simp only[h,ea,jg,It]at h1;have vZ:c x y<0:=by omega
  by_cases h':c y z=0;have e:=hc.mC h' x;rw[<-e];simp only[h,ea,jg,It];exact h1;simp only[h',ea,jg,It]at h2;have:=hc.mI vZ h2;have cB:¬ c x z=0:=by omega
  simp only[cB,ea,jg,It];omega
def qnf{d:g->g->Int}:H9 c d x y=0↔c x y=0/\d x y=0:=by unfold H9;by_cases h:c x y=0<;>simp[h]
def eb.pull{a:Type}(h:eb c)(f:a->g):eb (fun x y=>c (f x)<|f y):=⟨fun x y=>h.val _ _,fun x y=>h.S8 _ _,fun x y z=>h.trans _ _ _⟩
def qF(a b:Int):Int:=if a<b then -1 else if b<a then 1 else 0
def Vp{a b:Int}:qF a b=0↔a=b:=by unfold qF;split;omega;split<;>omega
def Mt:eb qF where
  val x y := by unfold qF; split; · simp
                split<;>simp
  S8 x y:=by unfold qF;split<;>split<;>(try split)<;>omega
  trans x y z:=by unfold qF;intro h1 h2;split at h1<;>split at h2<;>(try split at h1)<;>(try split at h2)<;>(try split)<;>(try split)<;>omega
def z83(c:g->g->Int)(x y:g):ltOf c x y=true↔c x y<0:=by simp[ltOf]
def eb.swo(h:eb c):SWO (ltOf c) where
 irrefl x:=by have:=h.self x;simp[ltOf,this]
 trans x y z h1 h2:=by rw[z83]at*;exact h.mI h1 af
 ntrans x y z h1 h2:=by
  have e:∀a b,ltOf c a b=false↔c b a<=0:=fun a b=>by have:=h.S8 a b;simp[ltOf];omega
  rw[e]at*;exact h.trans z y x h2 h1
section
variable{g:Type}{c:g->g->Int}
def Au(a:eb c)(l:X g):(gC (ltOf c) l).Pairwise (fun x y=>c x y<=0):=by have:=z5r a.swo l;refine Pairwise.imp ?_ this;intro x y h;have:=a.S8 x y;simp[ltOf]at h;omega
end
end Go.Proofs
namespace Go.Proofs
open Go Go.Rx Go.Vx Go.Shelf Go.Sort
def oT{a:Type}(c:a->a->Int):X a->X a->Int
 |[],[]=>0|[],_::_=>-1
 |_::_,[]=>1|x::b,y::d=>if c x y≠0 then c x y else oT c b d
def eb.list{v12:Type}{c:v12->v12->Int}(h:eb c):eb (oT c) where
 val:=by
  intro x;induction x with
  |nil=>intro y;cases y<;>simp[oT]|cons a x ih=>intro y;obtain _|⟨b,y⟩:=y;simp[oT];simp only[oT];split;exact h.val a b;exact ih y
 S8:=by
  intro x;induction x with
  |nil=>intro y;cases y<;>simp[oT]|cons a x ih=>
   intro y;obtain _|⟨b,y⟩:=y;simp[oT];simp only[oT];have a1:=h.S8 a b;have a2:=ih y;by_cases e:c a b=0;have:c b a=0:=by omega
   simp[e,this,a2];have:¬ c b a=0:=by omega
   simp[e,this,a1]
 trans:=by
  intro x;induction x with
  |nil=>intro y z h1 h2;cases z<;>simp[oT]|cons a x ih=>
   intro y z h1 h2;obtain _|⟨b,y⟩:=y;simp[oT]at h1;obtain _|⟨d,z⟩:=z;simp[oT]at h2;simp only[oT]at*;by_cases e:c a b=0;have e2:=h.congr e d;simp only[e,ea,pj,MF]at h1;rw[e2];by_cases e3:c b d=0;simp only[e3,ea,pj,MF]at h2 ⊢;exact ih y z h1 h2;simp only[e3,ea,jg,It]at h2 ⊢;exact h2;simp only[e,ea,jg,It]at h1;have vZ:c a b<0:=by omega
   by_cases e3:c b d=0;have e4:=h.mC e3 a;rw[<-e4];simp only[e,ea,jg,It];exact h1;simp only[e3,ea,jg,It]at h2;have:=h.mI vZ h2;have cB:¬ c a d=0:=by omega
   simp only[cB,ea,jg,It];omega
def R'{b:Type}{c:b->b->Int}:∀{d f:X b},(∀x∈d,∀y,c x y=0->x=y)->oT c d f=0->d=f
 |[],[],_,_=>rfl|[],_::_,_,h=>by simp[oT]at h
 |_::_,[],_,h=>by simp[oT]at h
 |x::d,y::f,g,h=>by simp only[oT]at h;by_cases e:c x y=0;simp only[e,ea,pj,MF]at h;rw[g x aZ y e,R' (fun a i=>g a<|by simp[i]) h];simp[e]at h
def TA:aI->aI->Int:=H9 (fun x y=>qF x.E2 y.E2) (fun x y=>qF x.To y.To)
def Jv:eb TA:=(Mt.pull _).lex (Mt.pull _)
def z7d{x y:aI}(h:TA x y=0):x=y:=by simp only[TA,qnf,Vp]at h;cases x;cases y;simp only at h;obtain⟨rfl,rfl⟩:=h;rfl
def YT:aK->aK->Int:=H9 (H9 (fun x y=>qF x.R y.R) fun x y=>qF x.E4.length y.E4.length) (fun x y=>oT TA x.E4 y.E4)
def Js:eb YT:=((Mt.pull _).lex (Mt.pull (fun x:aK=>(x.E4.length:Int)))).lex (Jv.list.pull _)
def z7e{x y:aK}(h:YT x y=0):x=y:=by simp only[YT,qnf,Vp]at h;have:=R' (fun a _ b h=>z7d h) h.2;cases x;cases y;simp only at h this;obtain⟨⟨rfl,_⟩,_⟩:=h;subst this;rfl
def Ju:az->az->Int:=H9 (fun x y=>qF x.D9.length y.D9.length) (fun x y=>oT YT x.D9 y.D9)
def Jt:eb Ju:=(Mt.pull (fun x:az=>(x.D9.length:Int))).lex (Js.list.pull _)
def G'{x y:az}:Ju x y=0↔x=y:=⟨fun h=>by
 simp only[Ju,qnf,Vp]at h;have:=R' (fun a _ b h=>z7e h) h.2;cases x;cases y;simp only at this;subst this;rfl,fun h=>by subst h;exact Jt.self x⟩
structure cT(f:az)(k:Nat):Prop where
 nodes:f.D9.length<=k
 E3:∀x∈f.D9,x.E4.length<=k
def N5(l:X aI):X Int:=l.flatMap fun a=>[a.E2,a.To]
def UJ(x:aK):X Int:=[x.R,(x.E4.length:Int)]++N5 x.E4
def IM(f:az):X Int:=(f.D9.length:Int)::f.D9.flatMap UJ
def qpw:∀l:X aI,(N5 l).length=2*l.length
 |[]=>rfl|a::l=>by have:=qpw l;simp only[N5,IW,zU,zO,zS]at*;omega
def z3p{x:aK}{i:Int}{rc:Int->X Int->V (X Int)}(f:x.E4.length<=1000000):∀(m k:Nat)(b:X Int),x.E4.length-k<m->k<=x.E4.length->b.length+2*(x.E4.length-k)<=1000000000->
  Ph i rc x m k b=rc (i64.wrap<|i+1) (b++N5 (x.E4.drop k))
 |0,k,b,hm,_,_=>by omega
 |m+1,k,b,hm,h,g=>by
  unfold Ph;by_cases c:k<x.E4.length;obtain⟨a,d,_⟩:=fJ c;have e:(b.length+2)*8<=140737488355328/\b.length+2<=140737488355328:=by omega
  simp only[iU c,zC,c9,d,aN,aE,e,jm,It,kE c<|show x.E4.length<=9223372036854775807 by omega];rw[z3p f m (k+1) _ af af (by simp only[zU,zO,zS];omega),bC d];simp[N5];simp only[j9 c,zD,a_,bW c,N5,flatMap_nil,Px]
def z3o{f:az}{n:Nat}(c:cT f 1000)(e:1001<=n):∀(m i:Nat)(a:X Int),f.D9.length-i<m->i<=f.D9.length->a.length+2002*(f.D9.length-i)<=900000000->
  RN f n m i a=some (a++(f.D9.drop i).flatMap UJ)
 |0,i,a,hm,_,_=>by omega
 |m+1,i,a,hm,l,k=>by
  unfold RN;have o:=c.nodes;by_cases b:i<f.D9.length;obtain⟨x,g,h⟩:=fJ b;have j:=c.E3 x h;have e:(a.length+2)*8<=140737488355328/\a.length+2<=140737488355328:=by omega
  have d:=z3p (i:=(i:Int)) (rc:=RN f n m) (x:=x) af n 0 (a++[x.R,(x.E4.length:Int)]) af af (by simp only[zU,zO,zS];omega);rw[zV,Za]at d;simp only[iU b,zC,c9,g,aN,aE,e,jm,It,d,kE b<|show f.D9.length<=9223372036854775807 by omega];rw[z3o c af m (i+1) _ af af (by simp only[zU,zO,zS,qpw];omega),bC g];simp[UJ];simp only[j9 b,zD,b_,bW b,flatMap_nil,Px]
variable{f:az}{n:Nat}
def z3q(a:cT f 1000)(b:1001<=n):Om n f=some (IM f):=by have c:=a.nodes;have:=z3o a b n 0 [(f.D9.length:Int)] af af (by simp only[zO,zS];omega);rw[zV,Za]at this;simp only[Om,this,IM,qc0]
def CN:X Int->X Int->Int
 |x::a,y::b=>if qF x y≠0 then qF x y else CN a b|_,_=>0
def qyq{l m:X Int}(h:l.length<=1000000000):∀(n i:Nat),l.length-i<n->i<=l.length->Pi l m n i=some (CN (l.drop i)<|m.drop i)
 |0,i,j,_=>by omega
 |n+1,i,j,k=>by unfold Pi;by_cases a:i<l.length;obtain⟨x,d,_⟩:=fJ a;by_cases b:i<m.length;obtain⟨y,g,_⟩:=fJ b;simp only[iU a,iU b,zC,aN,c9,d,g,kE a (show l.length<=9223372036854775807 by omega),bC d,bC g,CN,qF];by_cases c:x<y;simp[c];by_cases e:y<x;simp[c,e];simp only[c,e,yB,zD,MF,ea,pj,gt_iff_lt];exact qyq h n (i+1) af af;simp only[iU a,j9 b,zC,zD,aN,Yn,bC d,bW b,CN];simp only[j9 a,zD,aN,Yn,bW a,CN]
def z8a{k:Nat}(b:cT f k):(IM f).length<=1+f.D9.length*(2+2*k):=by
 have:∀l:X aK,(∀x∈l,x.E4.length<=k)->(l.flatMap UJ).length<=l.length*(2+2*k):=by
  intro l;induction l with
  |nil=>intro _;simp|cons x l d=>
   intro h;have e:=d fun y c=>h y<|lu _ c;have g:=h x aZ;have a:(l.length+1)*(2+2*k)=l.length*(2+2*k)+(2+2*k):=by rw[dX,Nat.one_mul]
   simp only[IW,zU,UJ,zO,zS,qpw];rw[a];omega
 have:=this f.D9 b.E3;simp only[IM,zO];omega
def z51{g:az}(a:cT f 1000)(c:cT g 1000)(h:3000000<=n):Xh n f g=some (CN (IM f)<|IM g):=by have d:=z8a a;have b:=a.nodes;have e:f.D9.length*(2+2*1000)<=1000*(2+2*1000):=tp _ b;have:=qyq (l:=IM f) (m:=IM g) af n 0 af af;rw[zV,Za,Za]at this;simp only[Xh,z3q a (show 1001<=n by omega),z3q c (show 1001<=n by omega),aN,this]
def qtb{c d:X Int}:∀{a b:X aI},a.length=b.length->CN (N5 a++c) (N5 b++d)=if oT TA a b≠0 then oT TA a b else CN c d
 |[],[],_=>by simp[N5,oT]
 |[],_::_,h=>by simp at h
 |_::_,[],h=>by simp at h
 |x::a,y::b,h=>by simp only[zO,qcN]at h;have g:=qtb (c:=c) (d:=d) h;simp only[N5,IW,Zg,X0,CN,oT]at g ⊢;rw[g];unfold TA H9;by_cases e:qF x.E2 y.E2=0;by_cases i:qF x.To y.To=0<;>simp[e,i];simp[e]
def qpb{c d:X Int}:∀{a b:X aK},a.length=b.length->CN (a.flatMap UJ++c) (b.flatMap UJ++d)=if oT YT a b≠0 then oT YT a b else CN c d
 |[],[],_=>by simp[oT]
 |[],_::_,h=>by simp at h
 |_::_,[],h=>by simp at h
 |x::a,y::b,h=>by
  simp only[zO,qcN]at h;have l:=qpb (c:=c) (d:=d) h;simp only[IW,UJ,zT,Zg,X0,CN,oT];have j:YT x y=(if(if qF x.R y.R≠0 then qF x.R y.R else qF (x.E4.length:Int) y.E4.length)≠0 then(if qF x.R y.R≠0 then qF x.R y.R else qF (x.E4.length:Int) y.E4.length)else oT TA x.E4 y.E4):=rfl;simp only[j];by_cases e:qF x.R y.R=0;by_cases g:qF (x.E4.length:Int) y.E4.length=0;have k:x.E4.length=y.E4.length:=by have:=Vp.1 g;omega
  simp only[e,g,ea,pj,MF];rw[qtb k,l];by_cases i:oT TA x.E4 y.E4=0<;>simp[i];simp[e,g];simp[e]
def zbn(f g:az):CN (IM f) (IM g)=Ju f g:=by
 simp only[IM,CN,Ju];unfold H9;by_cases e:qF (f.D9.length:Int) g.D9.length=0;have b:f.D9.length=g.D9.length:=by have:=Vp.1 e;omega
 have:=qpb (c:=[]) (d:=[]) b;simp only[Px,CN]at this;simp only[e,ea,pj,MF,this];by_cases a:oT YT f.D9 g.D9=0<;>simp[a];simp[e]
def tn{g:az}(a:cT f 1000)(b:cT g 1000)(c:3000000<=n):O7 n f g=some (Ju f g==0):=by simp only[O7,z51 a b c,aN,zbn]
def qxo{f:az}(k:f.D9.length<=12):∀(m i:Nat),f.D9.length-i<m->i<=f.D9.length->∃b,Ox f m i=some b/\(b=true->∀x∈f.D9.drop i,x.E4.length<=12)
 |0,i,hm,_=>by omega
 |m+1,i,hm,l=>by unfold Ox;by_cases a:i<f.D9.length;obtain⟨x,c,_⟩:=fJ a;simp only[iU a,zC,c9,c,aN,kE a<|show f.D9.length<=9223372036854775807 by omega];by_cases h:(x.E4.length:Int)>12;simp only[h,yC,zC];exact⟨false,rfl,fun h=>by cases h⟩;simp only[h,yB,zD];obtain⟨b,e,g⟩:=qxo k m (i+1) af af;refine⟨b,e,fun j=>?_⟩;rw[bC c];intro y d;obtain rfl |d:=zI.1 d;omega;exact g j y d;simp only[j9 a,zD,io,bW a];exact⟨true,rfl,fun _ x c=>by cases c⟩
def z82(f:az)(e:20<=n):∃b,Wl n f=some b/\(b=true->cT f 12):=by unfold Wl;by_cases h:(f.D9.length:Int)>12;simp only[h,yC,zC];exact⟨false,rfl,fun h=>by cases h⟩;simp only[h,yB,zD];obtain⟨b,a,c⟩:=qxo (f:=f) af n 0 af af;rw[zV]at a;rw[Za]at c;exact⟨b,a,fun d=>⟨by omega,c d⟩⟩
def cT.up{k a:Nat}(h:cT f k)(c:k<=a):cT f a:=⟨by have:=h.nodes;omega,fun x b=>by have:=h.E3 x b;omega⟩
def cF(a b:aI):Int:=qF a.E2 b.E2
def mf:eb cF:=Mt.pull aI.E2
def xO(l:X aI):X aI:=gC (ltOf cF) l
def QQ(l:X aI):(xO l).Perm l:=QE _ l
def kC(l:X aI):Prop:=l.Pairwise (fun a b=>a.E2≠b.E2)
variable{l:X aI}
def kC.perm{m:X aI}(h:l.Perm m)(c:kC l):kC m:=(h.pairwise_iff<|fun{a b} h=>WV h).1 c
def kC.eq:∀{l:X aI},kC l->∀x∈l,∀y∈l,x.E2=y.E2->x=y
 |[],_,x,c,_,_,_=>by cases c
 |a::l,h,x,c,y,i,e=>by obtain⟨g,j⟩:=pairwise_cons.1 h;obtain d |sK:=zI.1 c;obtain b |nX:=zI.1 i;rw[d,b];subst d;exact absurd e<|g y nX;obtain b |nX:=zI.1 i;subst b;exact absurd e.symm<|g x sK;exact kC.eq j x sK y nX e
def gO(l:X aI):Prop:=l.Pairwise (fun a b=>a.E2<b.E2)
def mh{a b:aI}:cF a b<=0↔a.E2<=b.E2:=by unfold cF qF;by_cases c:a.E2<b.E2;simp[c];omega;by_cases d:b.E2<a.E2;simp[c,d];simp[c,d];omega
def QA(h:kC l):gO (xO l):=by have c:=Au mf l;have d:kC (xO l):=h.perm (QQ l).symm;refine(Pairwise.and c d).imp fun{a b} h=>?_;have:=mh.1 h.1;have:=h.2;omega
def qz6:∀{a b:X aI},gO a->gO b->a.Perm b->a=b
 |[],b,_,_,h=>(nil_perm.1 h).symm|x::a,[],_,_,h=>by have:=h.length_eq;simp at this
 |x::a,y::b,k,m,h=>by
  obtain⟨e,g⟩:=pairwise_cons.1 k;obtain⟨i,j⟩:=pairwise_cons.1 m;have o:x=y:=by rcases zI.1 (h.mem_iff.1<|mem_cons_self)with c |c;exact c;rcases zI.1 (h.mem_iff.2<|mem_cons_self)with d |d;exact d.symm;have p:=e y d;have q:=i x c;omega
  subst o;rw[qz6 g j<|h.cons_inv]
def z5q{m:X aI}(a:kC l)(h:m.Perm l)(hm:gO m):xO l=m:=qz6 (QA a) hm ((QQ l).trans h.symm)
def gO.X3(h:gO l):kC l:=h.imp fun{a b} h=>af
structure NOk(x:aK)(N:Nat):Prop where
 ty:0<=x.R
 X3:kC x.E4
 L2:∀a∈x.E4,0<=a.E2/\0<=a.To/\a.To<N
def jP(f:az):Prop:=∀x∈f.D9,NOk x f.D9.length
def nd(f:az)(v:Int):aK:=(f.D9[v.toNat]?).getD (aK.mk 0 [])
def gD(f:az)(v:Int):Prop:=0<=v/\v<f.D9.length
variable{f:az}{v:Int}
def vN(h:gD f v):aB f.D9 v=some (nd f v)/\nd f v∈f.D9:=by
 have b:v.toNat<f.D9.length:=by have:=h.1;have:=h.2;omega
 have a:0<=v/\v<(f.D9.length:Int):=h;simp[aB,a,nd,b]
def P4(f:az)(v:Int):X aI:=xO (nd f v).E4
def uZ{a:aI}:a∈P4 f v↔a∈(nd f v).E4:=(QQ _).mem_iff
def jT(g:X Int->Int->X Int)(o:X Int)(a:aI):X Int:=if a.To∈o then o else g o a.To
def L5(f:az):Nat->X Int->Int->X Int
 |0,o,_=>o|k+1,o,v=>(P4 f v).foldl (jT<|L5 f k) (o++[v])
structure Seen(f:az)(o:X Int):Prop where
 nd:o.Nodup
 U0:∀v∈o,gD f v
def Ww:∀(N:Nat){o:X Int},o.Nodup->(∀v∈o,0<=v/\v<N)->o.length<=N
 |0,o,_,h=>by obtain _|⟨v,o⟩:=o;simp;have:=h v aZ;omega
 |N+1,o,c,h=>by
  have d:=Ww N (o:=o.filter fun v=>v != (N:Int)) (c.filter _) fun v a=>by rw[T!]at a;have:=h v a.1;have b:=a.2;simp at b;omega
  have b:o.length<=(o.filter fun v=>v != (N:Int)).length+1:=by
   clear d h;induction o with
   |nil=>simp|cons x o j=>
    obtain⟨g,i⟩:=nodup_cons.1 c;have:=j i;by_cases e:x=N;subst e;have:o.filter (fun v=>v != (N:Int))=o:=filter_eq_self.2 fun v a=>by simp only[JY,ea];intro e;subst e;exact g a
    simp[this];have k:(x != (N:Int))=true:=by simpa using e
    rw[filter_cons_of_pos<|by simpa using e];simp only[zO];omega
  omega
def Seen.len{o:X Int}(h:Seen f o):o.length<=f.D9.length:=Ww _ h.nd h.U0
def Seen.snoc{o:X Int}(h:Seen f o)(j:gD f v)(i:v ∉ o):Seen f (o++[v]):=⟨by
 rw[fF];refine⟨h.nd,by simp,?_⟩;intro a g b d;simp at d;subst d;intro e;subst e;exact i g,fun u c=>by
 obtain c |c:=yD.1 c;exact h.U0 u c;simp at c;subst c;exact j⟩
def Mc{f:az}(D:jP f):∀(k:Nat)(o:X Int)(v:Int),Seen f o->gD f v->v ∉ o->f.D9.length-o.length<=k->
  Seen f (L5 f k o v)/\(∃t,L5 f k o v=o++v::t)/\(∀u∈L5 f k o v,u ∉ o->∀a∈(nd f u).E4,a.To∈L5 f k o v)/\(∀c,f.D9.length-o.length<=c->L5 f c o v=L5 f k o v)
 |0,o,v,B,w,A,J=>by have h:=(B.snoc w A).len;simp only[zU,zO,zS]at h;omega
 |k+1,o,v,B,w,A,J=>by
  have I:=B.snoc w A;have L:=I.len;simp only[zU,zO,zS]at L;have key:∀(l:X aI),(∀a∈l,gD f a.To)->∀(p:X Int),Seen f p->(∃t,p=o++v::t)->(∀u∈p,u ∉ o->u≠v->∀a∈(nd f u).E4,a.To∈p)->
    Seen f (l.foldl (jT<|L5 f k) p)/\(∃t,l.foldl (jT<|L5 f k) p=p++t)/\(∀u∈l.foldl (jT<|L5 f k) p,u ∉ o->u≠v->∀a∈(nd f u).E4,a.To∈l.foldl (jT<|L5 f k) p)/\(∀a∈l,a.To∈l.foldl (jT<|L5 f k) p)/\
     (∀c,f.D9.length-(o.length+1)<=c->l.foldl (jT<|L5 f c) p=l.foldl (jT<|L5 f k) p):=by
   intro l;induction l with
   |nil=>intro _ p s j x;exact⟨s,⟨[],by simp⟩,x,⟨fun a i=>(oC i).elim,fun _ _=>rfl⟩⟩|cons a l F=>
    intro E p s j x;have y:=E a aZ;have G:=fun b d=>E b<|lu a d;simp only[py];by_cases hm:a.To∈p;have e:∀c,jT (L5 f c) p a=p:=fun c=>by simp[jT,hm]
    simp only[e];obtain⟨g1,⟨t,g2⟩,m,q,r⟩:=F G p s j x;refine⟨g1,⟨t,g2⟩,m,fun b d=>?_,r⟩;obtain rfl |d:=zI.1 d;rw[g2];exact mw _ hm;exact q b d;have e:∀c,jT (L5 f c) p a=L5 f c p a.To:=fun c=>by simp[jT,hm]
    obtain⟨t0,j⟩:=j;have M:o.length+1<=p.length:=by rw[j];simp
    obtain⟨d1,⟨t1,d2⟩,d3,d4⟩:=Mc D k p a.To s y hm af;have K:∀u∈p,u∈L5 f k p a.To:=fun u g=>by rw[d2];exact mw _ g
    obtain⟨g1,⟨t,g2⟩,m,q,r⟩:=F G (L5 f k p a.To) d1 ⟨t0++a.To::t1,by rw[d2,j];simp⟩ (fun u g h z b d=>by by_cases C:u∈p;exact K _<|x u C h z b d;exact d3 u g C b d);rw[e k];refine⟨g1,⟨a.To::t1++t,by rw[g2,d2];simp⟩,m,fun b d=>?_,fun c H=>?_⟩;obtain rfl |d:=zI.1 d;rw[g2,d2];simp;exact q b d;rw[e c,d4 c af];exact r c H
  have y:∀a∈P4 f v,gD f a.To:=fun a i=>by have h:=(D _ (vN w).2).L2 a (uZ.1 i);exact⟨h.2.1,h.2.2⟩
  obtain⟨g1,⟨t,g2⟩,m,q,r⟩:=key (P4 f v) y (o++[v]) I ⟨[],rfl⟩ (fun u g h z=>by obtain g |g:=yD.1 g;exact absurd g h;simp at g;exact absurd g z);refine⟨g1,⟨t,by show(P4 f v).foldl _ _=_;rw[g2];simp⟩,fun u g h a i=>?_,fun c H=>?_⟩;by_cases e:u=v;subst e;exact q a<|uZ.2 i;exact m u g h e a i;cases c with
  |zero=>omega|succ c=>exact r c af
def bT(f:az)(r:Int):X Int:=L5 f f.D9.length [] r
def Seen.nil(f:az):Seen f []:=⟨Bc,fun v a=>by cases a⟩
structure YZ(f:az)(r:Int)(o:X Int):Prop where
 seen:Seen f o
 head:∃t,o=r::t
 S1:∀u∈o,∀a∈(nd f u).E4,a.To∈o
def JK(g:jP f){r:Int}(j:gD f r):YZ f r (bT f r)/\∀k,f.D9.length<=k->L5 f k [] r=bT f r:=by obtain⟨b,⟨t,c⟩,d,e⟩:=Mc g f.D9.length [] r (Seen.nil f) j aZ aZ;exact⟨⟨b,⟨t,by have a:=c;rw[X0]at a;exact a⟩,fun u i=>d u i aZ⟩,fun k h=>e k<|by simpa using h⟩
def o7(o:X Int)(a:aI):aI:=⟨a.E2,(o.idxOf a.To:Int)⟩
def jX(f:az)(o:X Int)(v:Int):aK:=⟨(nd f v).R,(P4 f v).map (o7 o)⟩
def cU(f:az)(r:Int):az:=⟨(bT f r).map (jX f<|bT f r)⟩
def zb9{c:Type}(a b:X c)(x y:c):(a++x::b).set a.length y=a++y::b:=aZ
def FN(N:Nat)(seen:X Int):X aI->Int
 |[]=>0|a::l=>if a.E2<0\/a.To<0\/a.To>=(N:Int)then 2 else if a.E2∈seen then 4 else FN N (a.E2::seen) l
def GQ(N:Nat)(x:aK):Int:=if x.R<0 then 2 else FN N [] x.E4
def qss{N:Nat}:∀{l:X aI}{seen:X Int},FN N seen l=0↔(∀a∈l,0<=a.E2/\0<=a.To/\a.To<N)/\kC l/\∀a∈l,a.E2 ∉ seen
 |[],seen=>by simp[FN,kC]
 |a::l,seen=>by
  simp only[FN];by_cases i:a.E2<0\/a.To<0\/a.To>=(N:Int);simp only[i,It];refine⟨fun h=>absurd h bF,fun h=>?_⟩;have:=h.1 a aZ;omega;by_cases g:a.E2∈seen;simp only[i,g,It,MF];exact⟨fun h=>absurd h bF,fun h=>absurd g<|h.2.2 a aZ⟩;simp only[i,g,MF];rw[qss (l:=l)];unfold kC;rw[xe];constructor;rintro⟨g1,g2,d⟩;refine⟨fun b c=>?_,⟨fun b c=>?_,g2⟩,fun b c=>?_⟩;obtain rfl |c:=zI.1 c;omega;exact g1 b c;have:=d b c;simp only[zI,not_or]at this;exact fun e=>this.1 e.symm
  obtain rfl |c:=zI.1 c;exact g;have:=d b c;simp only[zI,not_or]at this;exact this.2;rintro⟨g1,⟨g2,d⟩,j⟩;refine⟨fun b c=>g1 b (by simp[c]),d,fun b c=>?_⟩;simp only[zI,not_or];exact⟨fun e=>g2 b c e.symm,j b<|by simp[c]⟩
def qsv{N:Nat}{x:aK}:GQ N x=0↔NOk x N:=by unfold GQ;by_cases h:x.R<0;simp only[h,It];exact⟨fun h=>absurd h bF,fun a=>by have:=a.ty;omega⟩;simp only[h,MF];rw[qss];exact⟨fun⟨b,c,_⟩=>⟨by omega,c,b⟩,fun h=>⟨h.L2,h.X3,fun _ _=>aZ⟩⟩
def TL(N:Nat):X aK->Int
 |[]=>0|x::l=>if GQ N x≠0 then GQ N x else TL N l
def qsu{N:Nat}:∀{l:X aK},TL N l=0↔∀x∈l,NOk x N
 |[]=>by simp[TL]
 |x::l=>by simp only[TL];by_cases h:GQ N x=0;simp only[h,ea,pj,MF,qsu (l:=l),zI,forall_eq_or_imp,qsv.1 h,dG];simp only[h,ea,jg,It,zI,forall_eq_or_imp,ML,not_and];exact fun a=>absurd (qsv.2 a) h
def IP(f:az):Int:=if f.D9.length=0 then 1 else if f.D9.length>4096 then 7 else TL f.D9.length f.D9
variable{f:az}
def qst:IP f=0↔f.D9.length≠0/\f.D9.length<=4096/\jP f:=by unfold IP;by_cases a:f.D9.length=0;simp[a];by_cases b:f.D9.length>4096;simp[a,b];intro _;omega;simp only[a,b,MF,qsu];exact⟨fun h=>⟨by simpa using a,by omega,h⟩,fun h=>h.2.2⟩
structure tZ(f g:az)(Z:Int->Int)(S:Int->Prop):Prop where
 S1:∀v,S v->∀a∈P4 f v,S a.To
 inj:∀u v,S u->S v->Z u=Z v->u=v
 ty:∀v,S v->(nd g (Z v)).R=(nd f v).R
 L2:∀v,S v->P4 g (Z v)=(P4 f v).map fun a=>⟨a.E2,Z a.To⟩
def tZ.L5{f g:az}{Z:Int->Int}{S:Int->Prop}(h:tZ f g Z S):∀(k:Nat)(o:X Int)(v:Int),S v->(∀u∈o,S u)->L5 g k (o.map Z) (Z v)=(Go.Proofs.L5 f k o v).map Z/\∀u∈Go.Proofs.L5 f k o v,S u
 |0,o,v,i,s=>⟨rfl,s⟩|k+1,o,v,i,s=>by
  have key:∀(l:X aI)(p:X Int),(∀a∈l,S a.To)->(∀u∈p,S u)->
    (l.map fun a=>(⟨a.E2,Z a.To⟩:aI)).foldl (jT<|Go.Proofs.L5 g k) (p.map Z)=(l.foldl (jT<|Go.Proofs.L5 f k) p).map Z/\∀u∈l.foldl (jT<|Go.Proofs.L5 f k) p,S u:=by
   intro l;induction l with
   |nil=>intro p _ d;exact⟨rfl,d⟩|cons a l x=>
    intro p r d;have w:=r a aZ;simp only[zQ,py];have hm:Z a.To∈p.map Z↔a.To∈p:=by rw[fA];exact⟨fun⟨u,c,e⟩=>by rw[<-h.inj u a.To (d u c) w e];exact c,fun c=>⟨_,c,rfl⟩⟩
    by_cases i8:a.To∈p;have j:jT (Go.Proofs.L5 g k) (p.map Z) (⟨a.E2,Z a.To⟩:aI)=p.map Z:=by simp only[jT,hm.2 i8,It]
    have m:jT (Go.Proofs.L5 f k) p a=p:=by simp only[jT,i8,It]
    rw[j,m];exact x p (fun b q=>r b<|lu _ q) d;have j:jT (Go.Proofs.L5 g k) (p.map Z) (⟨a.E2,Z a.To⟩:aI)=Go.Proofs.L5 g k (p.map Z) (Z a.To):=by simp only[jT,mt hm.1 i8,MF]
    have m:jT (Go.Proofs.L5 f k) p a=Go.Proofs.L5 f k p a.To:=by simp only[jT,i8,MF]
    obtain⟨g1,g2⟩:=tZ.L5 h k p a.To w d;rw[j,m,g1];exact x _ (fun b q=>r b<|lu _ q) g2
  have t:∀u∈o++[v],S u:=fun u c=>by obtain c |c:=yD.1 c;exact s u c;simp at c;subst c;exact i
  have:=key (P4 f v) (o++[v]) (h.S1 v i) t;refine⟨?_,this.2⟩;show(P4 g<|Z v).foldl _ (o.map Z++[Z v])=_;have e:=this.1;simp only[y_,zQ,ez]at e;rw[h.L2 v i];exact e
def qt5{Z:Int->Int}:∀{o:X Int}{x:Int},(∀u∈o,Z u=Z x->u=x)->(o.map Z).idxOf (Z x)=o.idxOf x
 |[],x,_=>rfl|u::o,x,h=>by
  simp only[zQ,Kx];have i:=qt5 (o:=o) (x:=x) fun w g=>h w<|lu _ g;by_cases e:u=x;subst e;simp;have a:¬ Z u=Z x:=fun d=>e<|h u aZ d;have b:(u==x)=false:=by simpa using e
  have c:(Z u==Z x)=false:=by simpa using a
  simp only[b,c,zD,i]
variable{r:Int}
def tZ.canon{g:az}{Z:Int->Int}{S:Int->Prop}(h:tZ f g Z S)(m:jP f)(o:jP g)(y:gD f r)(j:S r)(i:gD g (Z r)):bT g (Z r)=(bT f r).map Z/\cU g (Z r)=cU f r:=by obtain⟨w,s⟩:=JK m y;obtain⟨x,t⟩:=JK o i;have c:=h.L5 (f.D9.length+g.D9.length) [] r j aZ;rw[ez,s _ af,t _ af]at c;refine⟨c.1,?_⟩;unfold cU;rw[c.1,eF];congr 1;refine X2 fun v q=>?_;have b:=c.2 v q;simp only[Function.comp,jX,h.ty v b,h.L2 v b,eF];congr 1;refine X2 fun a k=>?_;have d:=h.S1 v b a k;simp only[Function.comp,o7];rw[qt5 fun u p e=>h.inj u a.To (c.2 u p) d e]
def cd{l:X aI}(h:gO l):xO l=l:=z5q h.X3 (Y! _) h
def Cm{o:X Int}{v:Int}(h:v∈o):o[o.idxOf v]? = some v:=by have a:=qcz h;rw[lq a,Gb]
structure ur(f:az)(r:Int)(c:az):Prop where
 len:c.D9.length=(bT f r).length
 le:c.D9.length<=f.D9.length
 pos:0<c.D9.length
 ok:jP c
 at_:∀v∈bT f r,nd c ((bT f r).idxOf v:Int)=jX f (bT f r) v
 up:∀x∈c.D9,gO x.E4
 D7:tZ f c (fun v=>((bT f r).idxOf v:Int)) (fun v=>v∈bT f r)
def ZF{o:X Int}{l:X aI}(h:gO l):gO (l.map<|o7 o):=by unfold gO at*;rw[fo];exact h
def Cc(j:jP f)(A:gD f r):ur f r (cU f r):=by
 obtain⟨g,_⟩:=JK j A;have k:∀v∈bT f r,nd (cU f r) ((bT f r).idxOf v:Int)=jX f (bT f r) v:=fun v c=>by simp only[nd,cU,zZ,me,Cm c,zM,jf]
 have i8:∀v∈bT f r,gD f v:=g.seen.U0;have i:∀v∈bT f r,gO (jX f (bT f r) v).E4:=fun v c=>ZF<|QA (j _ (vN<|i8 v c).2).X3;refine⟨by simp[cU],by simp only[cU,yA];exact g.seen.len,?_,?_,k,?_,?_⟩;obtain⟨t,y⟩:=g.head;simp[cU,y];intro x d;simp only[cU,fA]at d;obtain⟨v,c,rfl⟩:=d;have p:=j _ (vN<|i8 v c).2;refine⟨p.ty,(i v c).X3,fun a h=>?_⟩;simp only[jX,fA]at h;obtain⟨b,w,rfl⟩:=h;have m:=uZ.1 w;refine⟨(p.L2 b m).1,by simp only[o7];omega,?_⟩;have:=qcz<|g.S1 v c b m;simp only[o7,cU,yA];omega;intro x d;simp only[cU,fA]at d;obtain⟨v,c,rfl⟩:=d;exact i v c;refine⟨fun v c a h=>g.S1 v c a<|uZ.1 h,fun u v z c e=>?_,fun v c=>?_,fun v c=>?_⟩;have o:=Cm z;have s:=Cm c;have q:(bT f r).idxOf u=(bT f r).idxOf v:=Int.ofNat.inj e;rw[q,s]at o;exact(Option.some.inj o).symm;simp only[k v c,jX];simp only[P4,k v c];rw[cd<|i v c];rfl
def qzm(b:jP f)(h:gD f r):cU (cU f r) 0=cU f r/\bT (cU f r) 0=(bT f r).map fun v=>((bT f r).idxOf v:Int):=by
 have a:=Cc b h;obtain⟨g,_⟩:=JK b h;obtain⟨t,e⟩:=g.head;have c:r∈bT f r:=by rw[e];simp
 have d:((bT f r).idxOf r:Int)=0:=by rw[e];simp
 have:=a.D7.canon b a.ok h c ⟨by omega,by have:=a.pos;simp only[d];omega⟩;simp only[d]at this;exact⟨this.2,this.1⟩
def cT.canon{k:Nat}(b:cT f k)(a:jP f)(h:gD f r):cT (cU f r) k:=by have d:=Cc a h;obtain⟨g,_⟩:=JK a h;refine⟨Zt d.le b.nodes,fun x c=>?_⟩;simp only[cU,fA]at c;obtain⟨v,e,rfl⟩:=c;simp only[jX,yA,P4];rw[(QQ _).length_eq];exact b.E3 _ (vN<|g.seen.U0 v e).2
end Go.Proofs
namespace Go.Proofs
open Go Go.Rx Go.Vx
def gA(a:eN):aI:=⟨a.f,(a.to:Int)⟩
def cN(x:PN):aK:=⟨x.kind,x.E3.map gA⟩
def core(N:X PN):az:=⟨N.map cN⟩
def iN(l:X Nat):X Int:=l.map fun(i:Nat)=>(i:Int)
def Ma{l:X Nat}{u:Nat}:(u:Int)∈iN l↔u∈l:=by
 simp only[iN,fA];constructor;rintro⟨a,b,e⟩;have:a=u:=by omega
 subst this;exact b;exact fun h=>⟨u,h,rfl⟩
def M!(a b:X Nat):iN (a++b)=iN a++iN b:=by simp[iN]
def NK(l:X Nat):(iN l).length=l.length:=by simp[iN]
def z2r{u:Nat}:∀{l:X Nat},(iN l).idxOf (u:Int)=l.idxOf u
 |[]=>rfl|a::l=>by
  rw[show iN (a::l)=(a:Int)::iN l from rfl,Kx,Kx,z2r];have:((a:Int)==(u:Int))=(a==u):=by rw[vg];simp;omega
  rw[this]
structure CO(N:X PN):Prop where
 K5:jP (core N)
 up:∀x∈N,gO (x.E3.map gA)
 len:N.length<=1000000
 sm:∀x∈N,x.E3.length<=1000000
def jH(N:X PN):(core N).D9.length=N.length:=by simp[core]
variable{N:X PN}
def HT{i:Nat}{x:PN}(a:N[i]? = some x):nd (core N) (i:Int)=cN x:=by simp only[nd,core,zZ,me,a,zM,jf]
def CO.P4{N:X PN}(c:CO N){i:Nat}{x:PN}(a:N[i]? = some x):Go.Proofs.P4 (core N) (i:Int)=x.E3.map gA:=by rw[Go.Proofs.P4,HT a];exact cd (c.up x<|zX a)
def CO.to{N:X PN}(c:CO N){i:Nat}{x:PN}(d:N[i]? = some x):∀a∈x.E3,a.to<N.length:=fun a b=>by
 have:=((c.K5 (cN x)<|X1<|zX d).L2 (gA a) (X1 b)).2.2;rw[jH]at this;simp only[gA]at this;omega
def T?(q:Nat):∀(l:X Nat)(s:Nat),VZ q l s=if q∈l then some (s+l.idxOf q)else none
 |[],s=>rfl|k::l,s=>by
  rw[VZ];by_cases e:k=q;subst e;simp[beq_eq];have a:Nat.beq k q=false:=by simp[beq_eq,e]
  have b:(k==q)=false:=by simp[e]
  rw[a,zD,T? q l,Kx,b,zD];simp only[zI,WV e,HZ];split;congr 1;omega;rfl
structure YY(N:X PN)(s:X Nat×X aK):Prop where
 nd:s.1.Nodup
 U0:∀v∈s.1,v<N.length
 len:s.2.length=s.1.length
def qxg{l:X Nat}(h:l.Nodup):(iN l).Nodup:=by unfold iN Nodup at*;rw[fo];exact h.imp fun{a b} q e=>q af
def YY.seen{s:X Nat×X aK}(h:YY N s):Seen (core N) (iN s.1):=⟨qxg h.nd,fun v b=>by
 obtain⟨u,a,rfl⟩:=mem_map.1 b;have:=h.U0 u a;exact⟨by omega,by rw[jH];omega⟩⟩
def YY.le{s:X Nat×X aK}(h:YY N s):s.1.length<=N.length:=by have:=h.seen.len;rw[NK,jH]at this;exact this
def z5k(a b:X aK)(k:Int)(l:X aI):NM (a++[⟨k,[]⟩]++b) a.length l=a++⟨k,l⟩::b:=by simp[NM]
def D5{f:az}{o t:X Int}{u:Int}(c:∀a∈(nd f u).E4,a.To∈o):jX f (o++t) u=jX f o u:=by simp only[jX,aK.mk.injEq,dG];refine X2 fun a b=>?_;simp only[o7,og,c a<|uZ.1 b,It]
def qyg{N:X PN}(c:CO N):∀(k:Nat)(s:X Nat×X aK)(v:Nat),YY N s->v<N.length->N.length-s.1.length<k->v ∉ s.1->
  ∃t,L5 (core N) k (iN s.1) (v:Int)=iN (s.1++v::t)/\E8 N k v s=some (s.1.length,s.1++v::t,s.2++(v::t).map fun(u:Nat)=>jX (core N) (iN (s.1++v::t)) (u:Int))
 |0,s,v,r,B,M,_=>by omega
 |k+1,s,v,r,B,M,hm=>by
  obtain⟨x,o⟩:∃x,N[v]? = some x:=⟨N[v],lq B⟩;have G:YY N (s.1++[v],s.2++[⟨x.kind,[]⟩]):=⟨by
   show(s.1++[v]).Nodup;rw[fF];refine⟨r.nd,by simp,fun a z b g=>?_⟩;simp at g;subst g;intro e;subst e;exact hm z,fun u i=>by
   obtain i |i:=yD.1 i;exact r.U0 u i;simp at i;subst i;exact B,by simp[r.len]⟩
  have O:=G.le;simp only[zU,zO,zS]at O;have Q:=c.len;have P:=c.sm x<|zX o;have key:∀(l:X eN),(∀a∈l,a.to<N.length)->∀(d:X Nat×X aK)(j:X aI),YY N d->s.1.length+1<=d.1.length->j.length+l.length<=1000000->
    ∃t,(l.map gA).foldl (jT<|L5 (core N) k) (iN d.1)=iN (d.1++t)/\(∀a∈l,a.to∈d.1++t)/\(∀u∈t,∀a∈(nd (core N) (u:Int)).E4,a.To∈iN (d.1++t))/\
     Bh (E8 N k) l d j=some (j++l.map (fun a=>o7 (iN<|d.1++t)<|gA a),d.1++t,d.2++t.map fun(u:Nat)=>jX (core N) (iN<|d.1++t) (u:Int)):=by
   intro l;induction l with
   |nil=>intro _ d j n E _;exact⟨[],by simp,by simp,by simp,by simp[Bh]⟩|cons a l F=>
    intro A d j n E K;have z:=A a aZ;simp only[zO]at K;rw[Bh,aE,lr af];have S:=n.le;by_cases i8:a.to∈d.1;have w:E8 N k a.to d=some (d.1.idxOf a.to,d):=by obtain⟨R,rfl⟩:=ox (show 1<=k by omega);rw[E8,T?,lr i8,Ty]
    rw[w,aN];obtain⟨t,q1,q2,q3,q4⟩:=F (fun b g=>A b<|lu _ g) d (j++[⟨a.f,(d.1.idxOf a.to:Int)⟩]) n E (by simp;omega);refine⟨t,?_,?_,q3,?_⟩;rw[zQ,py];have:jT (L5 (core N) k) (iN d.1) (gA a)=iN d.1:=by rw[jT];exact lr (Ma.2 i8)
    rw[this,q1];intro b g;obtain rfl |g:=zI.1 g;exact mw _ i8;exact q2 b g;rw[q4];have:o7 (iN<|d.1++t) (gA a)=⟨a.f,(d.1.idxOf a.to:Int)⟩:=by simp only[o7,gA,z2r,og,i8,It]
    rw[zQ,this];simp;obtain⟨t1,w,y⟩:=qyg c k d a.to n z af i8;have L:gD (core N) (a.to:Int):=⟨by omega,by rw[jH];omega⟩;obtain⟨d1,_,d3,_⟩:=Mc c.K5 k (iN d.1) (a.to:Int) n.seen L (fun h=>i8<|Ma.1 h) (by rw[jH,NK];omega);rw[w]at d1 d3;rw[y,aN];have m:(d.1++a.to::t1).Nodup:=by have:=d1.nd;unfold iN Nodup at this;rw[fo]at this;exact this.imp fun{p q} h e=>h af
    have C:∀u∈a.to::t1,∀b∈(nd (core N) (u:Int)).E4,b.To∈iN (d.1++a.to::t1):=fun u i b g=>by refine d3 u (Ma.2<|mr _ i) (fun h=>?_) b g;rw[fF]at m;exact m.2.2 u (Ma.1 h) u i rfl
    have v1:YY N (d.1++a.to::t1,d.2++(a.to::t1).map fun(u:Nat)=>jX (core N) (iN (d.1++a.to::t1)) (u:Int)):=⟨m,fun u i=>by have:=(d1.U0 u<|Ma.2 i).2;rw[jH]at this;omega,by simp[n.len]⟩;obtain⟨t,q1,q2,q3,q4⟩:=F (fun b g=>A b<|lu _ g) _ (j++[⟨a.f,(d.1.length:Int)⟩]) v1 (by simp only[zU,zO];omega) (by simp;omega);simp only at q1 q2 q3 q4;have g?:d.1++(a.to::t1++t)=d.1++a.to::t1++t:=by simp
    refine⟨a.to::t1++t,?_,?_,?_,?_⟩;rw[zQ,py];have:jT (L5 (core N) k) (iN d.1) (gA a)=iN (d.1++a.to::t1):=by rw[jT];exact(hF fun h=>i8<|Ma.1 h).trans w
    rw[this,q1,g?];intro b g;rw[g?];obtain rfl |g:=zI.1 g;simp;exact q2 b g;intro u i b g;rw[g?];obtain i |i:=yD.1 i;rw[M!];exact mw _<|C u i b g;exact q3 u i b g;rw[q4,g?];have I:o7 (iN (d.1++a.to::t1++t)) (gA a)=⟨a.f,(d.1.length:Int)⟩:=by simp only[o7,gA,z2r,og,yD,i8,zI,true_or,or_true,It,MF,idxOf_cons_self];simp
    have J:((a.to::t1).map fun(u:Nat)=>jX (core N) (iN (d.1++a.to::t1++t)) (u:Int))=(a.to::t1).map fun(u:Nat)=>jX (core N) (iN (d.1++a.to::t1)) (u:Int):=X2 fun u i=>by rw[M! _ t];exact D5 (C u i)
    rw[y_,J,zQ (f:=fun a=>o7 _<|gA a),I];simp only[zT,qc0,Zg,X0]
  obtain⟨t,q1,q2,q3,q4⟩:=key _ (c.to o) (s.1++[v],s.2++[⟨x.kind,[]⟩]) [] G aZ (by simp;omega);simp only at q1 q2 q3 q4;have D:s.1++v::t=s.1++[v]++t:=by simp
  refine⟨t,?_,?_⟩;rw[L5,c.P4 o,D,<-q1,M!];rfl;have H:=r.len;rw[E8,T?,hF hm];simp only[o,aN];rw[aE,lr ⟨by omega,by omega⟩,q4,aN];simp only;rw[z5k,D,H,X0];have y:jX (core N) (iN<|s.1++[v]++t) (v:Int)=⟨x.kind,x.E3.map fun a=>o7 (iN<|s.1++[v]++t)<|gA a⟩:=by rw[jX,HT o,c.P4 o,eF];rfl
  rw[zQ,y]
def z8k{P:PP}(c:CO P.N){n:Nat}(j:P.N.length<n){k:Int}{r:Nat}(h:0<=k)(m:P.roots[k.toNat]? = some r)(f:r<P.N.length):CW n P k=some (cU (core P.N) (r:Int),true):=by
 have i:k.toNat<P.roots.length:=(zG.1 m).1;obtain⟨t,a,b⟩:=qyg c n ([],[]) r ⟨Bc,nofun,rfl⟩ f (by simp;omega) aZ;obtain⟨l,g⟩:=JK c.K5 (r:=(r:Int)) ⟨by omega,by rw[jH];omega⟩;simp only[X0]at a b;have d:L5 (core P.N) n [] (r:Int)=iN (r::t):=a;rw[g n (by rw[jH];omega)]at d;have e:aB P.roots k=some r:=by rw[show k=((k.toNat:Nat):Int) by omega,c9,m]
 rw[CW,Zb af,zD,Zb af,zD,e,aN,b,aN];simp only[cU,d,iN,eF];rfl
def z4a{P:PP}{n:Nat}{k:Int}(h:¬ (0<=k/\k<(P.roots.length:Int))):CW n P k=some (⟨[]⟩,false):=by rw[CW];by_cases a:k<0;rw[Zh a,zC];rw[Zb a,zD,Zh af,zC]
end Go.Proofs
namespace Go.Proofs
open Go Go.Rx Go.Vx Go.Shelf Go.Sort
def qp5{N:Nat}:∀{l:X aI}{s s':X Int},(∀x,x∈s↔x∈s')->FN N s l=FN N s' l
 |[],s,s',_=>rfl|a::l,s,s',h=>by simp only[FN];rw[qp5 (l:=l) (s:=a.E2::s) (s':=a.E2::s') fun x=>by simp only[zI,h x]];by_cases b:a.E2∈s;simp only[b,(h _).1 b,It];simp only[b,mt (h _).2 b,MF]
def z1b{l:X aI}(n:l.length<=1000000){i:Nat}{x:aI}(c:l[i]? = some x)(j:i<l.length){rc:Int->V Int}:∀(m k:Nat),i-k<m->k<=i->
  Oo l i rc m k=if x.E2∈((l.take i).drop k).map aI.E2 then some 4 else rc (i64.wrap<|(i:Int)+1)
 |0,k,hm,_=>by omega
 |m+1,k,hm,q=>by
  unfold Oo;by_cases a:k<i;obtain⟨y,d,_⟩:=fJ (l:=l) (i:=k) af;have p:(l.take i)[k]? = some y:=by rw[qcP a];exact d
  have b:decide ((k:Int)<(i:Int))=true:=iU a;have o:i64.wrap ((k:Int)+1)=((k+1:Nat):Int):=PK af af;simp only[b,zC,c9,d,c,aN,bC p,zQ,zI,o];by_cases e:y.E2=x.E2;simp[e];have f:(y.E2==x.E2)=false:=by simpa using e
  have g:¬ x.E2=y.E2:=fun h=>e h.symm;simp only[f,zD,g,HZ];exact z1b n c j m (k+1) af af;have b:decide ((k:Int)<(i:Int))=false:=j9 a;have:(l.take i).drop k=[]:=Gk (by simp;omega);simp only[b,zD,fe,this,ez,oC,MF]
def z1a{l:X aI}{N n:Nat}(j:l.length<=1000000)(k:l.length<n):∀(m i:Nat),l.length-i<m->i<=l.length->QY l N n m i=some (FN N ((l.take i).map aI.E2)<|l.drop i)
 |0,i,hm,_=>by omega
 |m+1,i,hm,o=>by
  unfold QY;by_cases b:i<l.length;obtain⟨a,d,_⟩:=fJ b;have f:=z1b j d b (rc:=QY l N n m) n 0 af af;rw[zV,Za]at f;simp only[iU b,zC,c9,d,aN,bC d,FN];by_cases c:a.E2<0;simp[c,aN];by_cases e:a.To<0;simp[c,e,aN];by_cases g:a.To>=(N:Int);simp[c,e,g,aN];simp only[c,e,g,yB,zD,aN,or_self,MF,f,kE b<|show l.length<=9223372036854775807 by omega];rw[z1a j k m (i+1) af af,jB d];by_cases h:a.E2∈(l.take i).map aI.E2;simp only[h,It];simp only[h,MF];congr 1;exact qp5 fun x=>by simp[or_comm]
  simp only[j9 b,zD,ff,bW b,FN]
def z2f{f:az}{k:Nat}(c:cT f k)(o:k<=1000000){n:Nat}(p:k<n):∀(m i:Nat),f.D9.length-i<m->i<=f.D9.length->On f n m i=some (TL f.D9.length<|f.D9.drop i)
 |0,i,hm,_=>by omega
 |m+1,i,hm,r=>by
  have q:=c.nodes;unfold On;by_cases a:i<f.D9.length;obtain⟨x,g,h⟩:=fJ a;have s:=c.E3 x h;have e:=z1a (l:=x.E4) (N:=f.D9.length) (n:=n) af af n 0 af af;rw[zV,Za,lz,ez]at e;simp only[iU a,zC,c9,g,aN,bC g,TL,GQ,ao,e,kE a<|show f.D9.length<=9223372036854775807 by omega];by_cases d:x.R<0;simp[d];simp only[d,yB,zD,MF];by_cases b:FN f.D9.length [] x.E4=0;simp only[b,ki,zD,ea,pj,MF];exact z2f c o p m (i+1) af af;have j:(FN f.D9.length [] x.E4 != 0)=true:=by simpa using b
  simp only[j,zC,b,ea,jg,It];simp only[j9 a,zD,fb,bW a,TL]
variable{f:az}{k:Nat}{n:Nat}
def zc5(c:cT f k)(e:k<=1000000)(g:k<n):Vu n f=some (IP f):=by
 have i:=c.nodes;unfold Vu IP;by_cases a:f.D9.length=0;simp[a];have d:((f.D9.length:Int)==0)=false:=by simp;intro h;simp[h]at a
 simp only[d,zD,a,MF];by_cases b:f.D9.length>4096;have:(f.D9.length:Int)>4096:=by omega
 simp[b,this];have:¬ (f.D9.length:Int)>4096:=by omega
 simp only[b,this,yB,zD,MF];have h:=z2f c e g n 0 af af;rw[zV,Za]at h;exact h
def zai{l:X aI}{i:Nat}{x:aI}(o:l[i]? = some x){out:X aI}(r:out.length<=1000000)(g:gO out){rc:Int->X aI->V (X aI)}:∀(m p:Nat),p<m->p<=out.length->(∀a∈out.drop p,x.E2<a.E2)->
  ∃q,q<=out.length/\Pe l i out rc m p=Pf l i out rc (q:Int)/\(∀a∈out.drop q,x.E2<a.E2)/\(∀a∈out.take q,a.E2<=x.E2)
 |0,p,hm,_,_=>by omega
 |m+1,p,hm,v,c=>by
  unfold Pe;cases p with
  |zero=>
   have:¬ ((0:Nat):Int)>0:=by omega
   simp only[this,yB,zD,aN];exact⟨0,by omega,rfl,c,by simp⟩
  |succ p=>
   have t:((p+1:Nat):Int)>0:=by omega
   have w:i64.wrap (((p+1:Nat):Int)-1)=(p:Int):=PK af af;obtain⟨y,d,_⟩:=fJ (l:=out) (i:=p) af;simp only[t,yC,zC,w,c9,d,o,aN];by_cases e:y.E2>x.E2;simp only[e,yC,zC];refine zai o r g m p af af fun a b=>?_;rw[bC d]at b;obtain rfl |b:=zI.1 b
   omega;exact c a b;simp only[e,yB,zD];refine⟨p+1,v,rfl,c,fun a b=>?_⟩;obtain⟨j,u,rfl⟩:=mem_iff_getElem.1 b;simp only[Yz]at u;rw[getElem_take];obtain⟨z,h⟩:=zG.1 d;by_cases s:j=p;subst s;rw[h];omega;have:=pairwise_iff_getElem.1 g j p af z af;rw[h]at this;omega
def Fm{l:X aI}{i:Nat}{x:aI}(d:l[i]? = some x){out:X aI}(o:out.length<=1000000){rc:Int->X aI->V (X aI)}{q:Nat}(p:q<=out.length):
  Pf l i out rc (q:Int)=rc (i64.wrap<|(i:Int)+1) (out.take q++x::out.drop q):=by
 have b:(out.drop 0).take ((q:Int)).toNat=out.take q:=by rw[Za,zZ]
 have c:(out.drop<|0+((q:Int)).toNat).take (out.length-((q:Int)).toNat)=out.drop q:=by rw[zZ,Ty,zW aZ]
 have r:(out.take q).length=q:=by simp;omega
 have a:(0:Int)<=(q:Int)/\(q:Int)<=((out.length:Nat):Int):=by omega
 have e:0+((q:Int)).toNat<=out.length:=by rw[zZ];omega
 have g:(out.take q).length*16<=140737488355328/\(out.take q).length<=140737488355328:=by omega
 have h:((out.take q).length+1)*16<=140737488355328/\(out.take q).length+1<=140737488355328:=by omega
 have j:(0+((q:Int)).toNat)+(out.length-((q:Int)).toNat)<=out.length:=by rw[zZ];omega
 have m:((out.take q++[x]).length+(out.drop q).length)*16<=140737488355328/\(out.take q++[x]).length+(out.drop q).length<=140737488355328:=by simp;omega
 unfold Pf;simp only[aE,b,c,c9,d,aN];rw[lr a,lr e,lr g,lr h,lr a,lr j,lr m];simp
def zah{l:X aI}(v:l.length<=1000000)(p:kC l){n:Nat}(w:l.length<n):∀(m i:Nat),l.length-i<m->i<=l.length->RL l n m i (xO<|l.take i)=some (xO l)
 |0,i,hm,_=>by omega
 |m+1,i,hm,B=>by
  have c:kC (l.take i):=p.sublist<|R! i l;have y:(xO<|l.take i).length=i:=by rw[(QQ _).length_eq];simp;omega
  unfold RL;by_cases d:i<l.length;obtain⟨x,h,_⟩:=fJ d;obtain⟨q,q1,q2,q3,q4⟩:=zai h (out:=xO<|l.take i) af (QA c) (rc:=RL l n m) n (xO<|l.take i).length af (zF _) aZ;simp only[iU d,zC,q2,Fm h (show(xO<|l.take i).length<=1000000 by omega) q1,kE d<|show l.length<=9223372036854775807 by omega];have j:kC (l.take<|i+1):=p.sublist<|R! _ l;have s:((xO<|l.take i).take q++x::(xO<|l.take i).drop q).Perm (l.take<|i+1):=by rw[jB h];refine perm_middle.trans ?_;rw[l7];exact((QQ<|l.take i).cons x).trans (qc1 (l₁:=[x]) (l₂:=l.take i))
  have u:∀a∈xO (l.take i),a.E2≠x.E2:=fun a g e=>by rw[jB h]at j;have:=(pairwise_append.1 j).2.2 a ((QQ _).mem_iff.1 g) x aZ;exact this e
  have t:gO ((xO<|l.take i).take q++x::(xO<|l.take i).drop q):=by have r:=QA c;unfold gO at*;rw[oy];refine⟨r.sublist<|R! _ _,pairwise_cons.2 ⟨q3,r.sublist<|drop_sublist _ _⟩,fun a g b o=>?_⟩;have z:=q4 a g;have A:=u a<|Ey g;obtain rfl |o:=zI.1 o;omega;have:=q3 b o;omega
  rw[<-z5q j s t];exact zah v p w m (i+1) af af;simp only[j9 d,zD,ot];rw[zW af]
def qlk{l:X aI}(b:l.length<=1000000)(a:kC l)(c:l.length<n):Wy n l=some (xO l):=by have h:=zah b a c n 0 af af;rw[zV,lz]at h;exact h
structure N8(f:az)(w:X Int)(o:X Int):Prop where
 len:w.length=f.D9.length
 get:∀x,gD f x->aB w x=some (if x∈o then(o.idxOf x:Int)else -1)
def N8.snoc{w o:X Int}(h:N8 f w o){v:Int}(c:gD f v)(i:v ∉ o):N8 f (w.set (0+v.toNat) (o.length:Int)) (o++[v]):=by
 refine⟨by simp[h.len],fun x b=>?_⟩;have j:v.toNat<w.length:=by rw[h.len];have:=c.1;have:=c.2;omega
 have g:0<=x/\x<((w.set (0+v.toNat) (o.length:Int)).length:Int):=by rw[fG,h.len];exact b
 have d:=h.get x b;have l:0<=x/\x<(w.length:Int):=by rw[h.len];exact b
 rw[aB,lr l]at d;rw[aB,lr g,Ty];by_cases e:x=v;subst e;simp[og,i,j];rw[mz (by have:=b.1;have:=c.1;omega),d];by_cases a:x∈o;simp[a,og];simp[a,e]
def qud{f:az}{k:Nat}(q:jP f)(l:cT f k)(G:k<=1000000):∀(n:Nat)(o:X Int)(v:Int)(w:X Int),Seen f o->gD f v->v ∉ o->N8 f w o->f.D9.length-o.length+k+2<=n->
  ∃d,RT n v f.D9 w o=some (d,L5 f n o v)/\N8 f d (L5 f n o v)
 |0,o,v,w,B,g,r,b,F=>by omega
 |n+1,o,v,w,B,g,r,b,F=>by
  have D:=B.snoc g r;have L:=D.len;simp only[zU,zO,zS]at L;obtain⟨H,y⟩:=vN g;have u:=q _ y;have P:=l.E3 _ y;have M:=l.nodes;have N:(P4 f v).length=(nd f v).E4.length:=(QQ _).length_eq;have key:∀(m i:Nat)(p:X Int)(w:X Int),(P4 f v).length-i<m->i<=(P4 f v).length->Seen f p->o.length+1<=p.length->N8 f w p->
    ∃d,VU f.D9 (P4 f v) (RT n) m i w p=some (d,((P4 f v).drop i).foldl (jT<|L5 f n) p)/\N8 f d (((P4 f v).drop i).foldl (jT<|L5 f n) p):=by
   intro m;induction m with
   |zero=>intro i p w hm;omega|succ m C=>
    intro i p w hm O s K b;unfold VU;by_cases e:i<(P4 f v).length;obtain⟨a,A,J⟩:=fJ e;have z:=u.L2 a<|uZ.1 J;have c:gD f a.To:=⟨z.2.1,z.2.2⟩;have x:i64.wrap ((i:Int)+1)=((i+1:Nat):Int):=kE e af;simp only[iU e,zC,c9,A,aN,b.get _ c,bC A,py];by_cases h:a.To∈p;have j:¬ ((p.idxOf a.To:Nat):Int)<0:=by omega
    simp only[h,It,j,yB,zD,Pp,x,jT];exact C (i+1) p w af af s K b;have j:(-1:Int)<0:=by decide
    simp only[h,MF,j,yC,zC,Pp,x,jT];obtain⟨I,g1,g2⟩:=qud q l G n p a.To w s c h b af;obtain⟨d1,⟨t,d2⟩,_,_⟩:=Mc q n p a.To s c h af;simp only[g1,aN];exact C (i+1) _ I af af d1 (by rw[d2];simp;omega) g2;rw[bW e];simp only[j9 e,zD,q_,foldl_nil];exact⟨w,rfl,b⟩
  have E:(o.length+1)*8<=140737488355328/\o.length+1<=140737488355328:=by omega
  obtain⟨d,g1,g2⟩:=key n 0 (o++[v]) _ af af D aZ<|b.snoc g r;rw[zV,Za]at g1;rw[Za]at g2;refine⟨d,?_,g2⟩;show m_ n (RT n) v f.D9 w o=_;simp only[m_,b.get _ g,aE,E,jm,It,H,aN,qlk (show(nd f v).E4.length<=1000000 by omega) u.X3<|show(nd f v).E4.length<n by omega];exact g1
def z2k{f:az}{o w:X Int}{z:Int}{l27:X aK}{rc:Int->X aK->V az}{x:aK}{l:X aI}(s:l.length<=1000000)(d:N8 f w o)(i8:∀a∈l,a.To∈o)(g:∀v∈o,gD f v):∀(m i:Nat),l.length-i<m->i<=l.length->
  Cv (w,o) z l27 rc x m i ((l.take i).map (o7 o)++l.drop i)=Xe z l27 rc x (l.map<|o7 o)
 |0,i,hm,_=>by omega
 |m+1,i,hm,u=>by
  unfold Cv;have h:((l.take i).map (o7 o)++l.drop i).length=l.length:=by simp;omega
  rw[h];by_cases b:i<l.length;obtain⟨a,c,t⟩:=fJ b;have j:(((l.take i).map (o7 o)++l.drop i))[i]? = some a:=by rw[mu (by simp;omega)];simp[show min i l.length=i by omega,c]
  have p:(((l.take i).map (o7 o)++l.drop i)).set (0+(i:Int).toNat) (o7 o a)=(l.take<|i+1).map (o7 o)++l.drop (i+1):=by
   rw[bC c,jB c];have r:((l.take i).map (o7 o)).length=i:=by simp;omega
   have:=zb9 ((l.take i).map (o7 o)) (l.drop<|i+1) a<|o7 o a;rw[r]at this;rw[Ty,zZ,this,y_,zQ,ez,zT];rfl
  have e:=i8 a t;have q:(⟨a.E2,(o.idxOf a.To:Int)⟩:aI)=o7 o a:=rfl;simp only[iU b,zC,c9,j,aN,d.get _<|g _ e,e,It,q,p,kE b<|show l.length<=9223372036854775807 by omega];exact z2k s d i8 g m (i+1) af af;simp only[j9 b,zD];rw[zW af,Gk af,Px]
def z2j{f:az}{k:Nat}(p:jP f)(d:cT f k)(A:k<=1000000){n:Nat}(B:k+2<=n){r:Int}{o w:X Int}(b:YZ f r o)(s:N8 f w o):∀(m i:Nat),o.length-i<m->i<=o.length->
  QZ f n (w,o) m i ((o.take i).map (jX f o))=some ⟨o.map<|jX f o⟩
 |0,i,hm,_=>by omega
 |m+1,i,hm,G=>by
  have E:=b.seen.len;have D:=d.nodes;unfold QZ;by_cases c:i<o.length;obtain⟨v,q,g⟩:=fJ c;obtain⟨C,h⟩:=vN<|b.seen.U0 v g;have u:=p _ h;have H:=d.E3 _ h;have F:(P4 f v).length=(nd f v).E4.length:=(QQ _).length_eq;have j:=z2k (z:=(i:Int)) (l27:=(o.take i).map (jX f o)) (rc:=QZ f n (w,o) m) (x:=nd f v) (l:=P4 f v) af s (fun a y=>b.S1 v g a<|uZ.1 y) b.seen.U0 n 0 af af;rw[zV,lz,ez,X0,Za]at j;have t:(((o.take i).map (jX f o)).length+1)*32<=140737488355328/\((o.take i).map (jX f o)).length+1<=140737488355328:=by simp;omega
  have e:=qlk (show(nd f v).E4.length<=1000000 by omega) u.X3 (show(nd f v).E4.length<n by omega);simp only[iU c,zC,c9,q,C,aN,e];show Cv (w,o) i _ _ (nd f v) n 0 (P4 f v)=_;rw[j];simp only[Xe,aE];rw[lr t,kE c<|show o.length<=9223372036854775807 by omega];have:=z2j p d A B b s m (i+1) af af;rw[jB q]at this;simpa[jX,P4]using this;simp only[j9 c,zD,fg];rw[zW af]
def z2i{f:az}(c:f.D9.length<=1000000){r:Int}{n:Nat}:∀(m i:Nat),f.D9.length-i<m->i<=f.D9.length->Oq f r n m i (replicate i<|-1)=Xf f r n (replicate f.D9.length<|-1)
 |0,i,hm,_=>by omega
 |m+1,i,hm,d=>by
  unfold Oq;by_cases a:i<f.D9.length;have b:((replicate i (-1:Int)).length+1)*8<=140737488355328/\(replicate i (-1:Int)).length+1<=140737488355328:=by simp;omega
  have e:replicate i (-1:Int)++[-1]=replicate (i+1) (-1):=by rw[replicate_succ']
  simp only[iU a,zC,aE];rw[lr b,kE a (show f.D9.length<=9223372036854775807 by omega),e];exact z2i c m (i+1) af af;simp only[j9 a,zD];rw[show i=f.D9.length by omega]
def z2l(b:jP f)(a:cT f k)(g:k<=1000000){r:Int}(q:gD f r)(p:2*k+4<=n):Nr n f r=some (cU f r):=by
 obtain⟨h,i⟩:=JK b q;have m:=a.nodes;have j:N8 f (replicate f.D9.length<|-1) []:=⟨by simp,fun x c=>by
  have l:0<=x/\x<((replicate f.D9.length (-1:Int)).length:Int):=by rw[qc2];exact c
  rw[aB,lr l];have:x.toNat<f.D9.length:=by have:=c.1;have:=c.2;omega
  simp[this]⟩
 obtain⟨w,g1,g2⟩:=qud b a g n [] r _ (Seen.nil f) q aZ j (by simp;omega);rw[i n af]at g1 g2;have o:=h.seen.len;have d:=z2j b a g (show k+2<=n by omega) h g2 n 0 af af;rw[zV,lz,ez]at d;have e:=z2i (f:=f) af (r:=r) (n:=n) n 0 af af;rw[zV,LM]at e;simp only[Nr,e,Xf,g1,aN,d,cU]
def qw6(b:cT f k)(c:k<=1000000)(g:2*k+4<=n):Wm n f=some (if IP f=0 then(cU f 0,0)else(⟨[]⟩,IP f)):=by
 simp only[Wm,zc5 b c (show k<n by omega),aN];by_cases a:IP f=0;obtain⟨h,i,d⟩:=qst.1 a;simp[a,z2l d b c (r:=0) ⟨by omega,by omega⟩ g,aN];have e:(IP f != 0)=true:=by simpa using a
 simp[a,e]
end Go.Proofs
namespace Go.Proofs
structure aD where
 forward:Int
 kind:Int
 E3:X aI
end Go.Proofs
namespace Go.Proofs
open Go Go.Rx Go.Vx
def yV(l:X aI)(f:Int):FK:=l.any (fun x=>x.E2==f)
variable{f:Int}
def QL{l:X aI}:yV l f=true↔∃x∈l,x.E2=f:=by simp[yV]
def kO(a b:X aI):X aI:=b.filter fun y=>!yV a y.E2
def L9(a b:X aI):X (Int×Int):=b.filterMap fun y=>(a.find? fun x=>x.E2==y.E2).map fun x=>(x.To,y.To)
structure MS(a b out:X aI):Prop where
 up:gO out
 pm:out.Perm (a++kO a b)
variable{a:X aI}{x:aI}
def z2d(e:kC a)(b:x∈a)(g:x.E2=f):a.find? (fun x=>x.E2==f)=some x:=by
 have key:∀o,a.find? (fun x=>x.E2==f)=o->o=some x:=by intro o h;obtain _|y:=o;have:=find?_eq_none.1 h x b;simp[g]at this;have c:=GY h;have d:=Fx h;simp at c;rw[e.eq y d x b af]
 exact key _ rfl
def qt0(h:∀x∈a,x.E2≠f):a.find? (fun x=>x.E2==f)=none:=by rw[find?_eq_none];intro x b;simpa using h x b
def z3h(a b:X aI)(y:aI):kO a (b++[y])=kO a b++(if yV a y.E2 then[]else[y]):=by unfold kO;rw[nw];cases h:yV a y.E2<;>simp[h]
variable{b:X aI}{y:aI}
def qvx(c:kC a)(e:x∈a)(d:x.E2=y.E2):L9 a (b++[y])=L9 a b++[(x.To,y.To)]:=by simp[L9,qc3,z2d c e d]
def qtq(h:∀x∈a,x.E2≠y.E2):L9 a (b++[y])=L9 a b:=by simp[L9,qc3,qt0 h]
def Mk(a:X aI):∀b:X aI,(kO a b).length+(L9 a b).length=b.length
 |[]=>rfl|y::b=>by
  have i:=Mk a b;unfold kO L9 at*;cases h:a.find? (fun x=>x.E2==y.E2)with
  |none=>
   have c:yV a y.E2=false:=by rw[find?_eq_none]at h;rw[D!];intro e;obtain⟨x,g,d⟩:=QL.1 e;have:=h x g;simp[d]at this
   simp only[iZ,c,eG,It,qca,h,Bm,zO];omega
  |some x=>have c:yV a y.E2=true:=QL.2 ⟨x,Fx h,by have:=GY h;simpa using this⟩;simp only[iZ,c,Zr,gj,MF,qca,h,zM,zO];omega
def qvw{p:Int×Int}(h:p∈L9 a b):∃x∈a,∃y∈b,x.E2=y.E2/\p=(x.To,y.To):=by obtain⟨y,g,e⟩:=mem_filterMap.1 h;rcases c:a.find? (fun x=>x.E2==y.E2)with _|x;rw[c]at e;cases e;rw[c]at e;have d:=GY c;exact⟨x,Fx c,y,g,by simpa using d,(Option.some.inj e).symm⟩
variable{o:X aI}
def MS.len(h:MS a b o):o.length+(L9 a b).length=a.length+b.length:=by have c:=h.pm.length_eq;have d:=Mk a b;rw[zU]at c;omega
def MS.mem(h:MS a b o)(d:x∈o):x∈a\/x∈b:=by rcases yD.1 (h.pm.mem_iff.1 d)with c |c;exact Or.inl c;exact Or.inr (mem_filter.1 c).1
def wJ:X aI->X aI->X aI
  |[],b=> b|a,[]=> a
  |x::a,y::b=> if x.E2<y.E2 then x::wJ a (y::b)else if y.E2<x.E2 then y::wJ (x::a) b else x::wJ a b
 termination_by a b=> a.length+b.length
def z89(b:X aI):kO [] b=b:=by simp[kO,yV]
def z3g(h:∀y∈b,x.E2≠y.E2):kO (x::a) b=kO a b:=by unfold kO;apply filter_congr;intro y c;have:=h y c;simp[yV,this]
def z4j(b:X aI):L9 [] b=[]:=by simp[L9]
def Mw(a b:X aI)(y:aI):L9 a (y::b)=((a.find? fun x=>x.E2==y.E2).map fun x=>(x.To,y.To)).toList++L9 a b:=by unfold L9;cases h:a.find? (fun x=>x.E2==y.E2)<;>simp[qca,h]
def qyk(h:∀y∈b,x.E2≠y.E2):L9 (x::a) b=L9 a b:=by
 induction b with
 |nil=>rfl|cons y b g=>
  have e:(x.E2==y.E2)=false:=by simpa using h y aZ
  have c:=g fun z d=>h z<|lu _ d;have q:(x::a).find? (fun z=>z.E2==y.E2)=a.find? (fun z=>z.E2==y.E2):=by simp only[Hn,e]
  rw[Mw,Mw,q,c]
def MS.step(h:MS a b o)(d:∀y∈o,x.E2<y.E2)(c:∀y∈b,x.E2≠y.E2):MS (x::a) b (x::o):=
 ⟨pairwise_cons.2 ⟨d,h.up⟩,by rw[z3g c];exact h.pm.cons x⟩
def Nn:∀(a b:X aI),gO a->gO b->MS a b (wJ a b)
 |[],b,_,k=>by rw[wJ];exact⟨k,by rw[z89];exact .refl _⟩
 |x::a,[],j,_=>by rw[wJ];exact⟨j,by simp[kO]⟩;intro h;cases h
 |x::a,y::b,j,k=>by
  obtain⟨n,q⟩:=pairwise_cons.1 j;obtain⟨i,r⟩:=pairwise_cons.1 k;rw[wJ];by_cases l:x.E2<y.E2;rw[lr l];have d:=Nn a (y::b) q k;have g:∀z∈y::b,x.E2<z.E2:=fun z c=>by obtain rfl |c:=zI.1 c;exact l;have:=i z c;omega
  refine d.step (fun z c=>?_) (fun z c=>by have:=g z c;omega);obtain c |c:=d.mem c;exact n z c;exact g z c;rw[hF l];by_cases m:y.E2<x.E2;rw[lr m];have d:=Nn (x::a) b j r;have p:∀z∈x::a,y.E2<z.E2:=fun z c=>by obtain rfl |c:=zI.1 c;exact m;have:=n z c;omega
  refine⟨pairwise_cons.2 ⟨fun z c=>?_,d.up⟩,?_⟩;obtain c |c:=d.mem c;exact p z c;exact i z c;have e:kO (x::a) (y::b)=y::kO (x::a) b:=by
   have:yV (x::a) y.E2=false:=by rw[D!];intro h;obtain⟨z,c,e⟩:=QL.1 h;have:=p z c;omega
   unfold kO;simp[iZ,this]
  rw[e];exact(d.pm.cons y).trans perm_middle.symm;rw[hF m];have e:x.E2=y.E2:=by omega
  have d:=Nn a b q r;have s:=d.step (x:=x) (fun z c=>by obtain c |c:=d.mem c;exact n z c;have:=i z c;omega) (fun z c=>by have:=i z c;omega);refine⟨s.up,s.pm.trans ?_⟩;have:kO (x::a) (y::b)=kO (x::a) b:=by have:yV (x::a) y.E2=true:=QL.2 ⟨x,by simp,e⟩;unfold kO;simp[iZ,this]
  rw[this]
 termination_by a b=>a.length+b.length
def Dx(d:gO (y::b))(h:x.E2<y.E2):L9 (x::a) (y::b)=L9 a (y::b):=qyk fun z c=>by
 obtain rfl |c:=zI.1 c;omega;have:=(pairwise_cons.1 d).1 z c;omega
def Dz(d:gO (x::a))(h:y.E2<x.E2):L9 (x::a) (y::b)=L9 (x::a) b:=by
 have:(x::a).find? (fun z=>z.E2==y.E2)=none:=qt0 fun z c=>by obtain rfl |c:=zI.1 c;omega;have:=(pairwise_cons.1 d).1 z c;omega
 rw[Mw,this];rfl
def Ea(c:gO (y::b))(h:x.E2=y.E2):L9 (x::a) (y::b)=(x.To,y.To)::L9 a b:=by
 have:(x::a).find? (fun z=>z.E2==y.E2)=some x:=by simp[Hn,h]
 rw[Mw,this];show(x.To,y.To)::L9 (x::a) b=_;rw[qyk fun z d=>by have:=(pairwise_cons.1 c).1 z d;omega]
def qtp(a:X aI):L9 a []=[]:=rfl
structure UO(N D:Nat)(aA d:Nat->Nat):Prop where
 lt:∀i,i<N->aA i<N
 idem:∀i,i<N->aA (aA i)=aA i
 zero:∀i,i<N->d (aA i)=0
 bd:∀i,i<N->d i<=D
def fQ(c:Nat->Nat)(m n i:Nat):Nat:=if c i=n then m else c i
def CT(c d:Nat->Nat)(n i:Nat):Nat:=if c i=n then d i+1 else d i
def NT(N:Nat)(c d:Nat->Nat)(i j:Nat):Prop:=j<N/\c j=c i/\d j<d i
structure bz(cells:X aD)(N:Nat)(aA d:Nat->Nat):Prop where
 root:∀(i:Nat)(c:aD),cells[i]? = some c->aA i=i->c.forward= -1
 fwd:∀(i:Nat)(c:aD),cells[i]? = some c->aA i≠i->∃j:Nat,c.forward=(j:Int)/\NT N aA d i j
structure HM(P:X Int)(N:Nat)(aA d:Nat->Nat):Prop where
 root:∀(i:Nat)(c:Int),P[i]? = some c->aA i=i->c=(i:Int)
 fwd:∀(i:Nat)(c:Int),P[i]? = some c->aA i≠i->∃j:Nat,c=(j:Int)/\NT N aA d i j
variable{N:Nat}{D:Nat}{f:Nat->Nat}{d:Nat->Nat}{m:Nat}{n:Nat}
def UO.U1(h:UO N D f d)(hm:m<N)(em:f m=m)(en:f n=n)(sL:m≠n):UO N (D+1) (fQ f m n) (CT f d n) where
 lt i hi:=by unfold fQ;split;exact hm;exact h.lt i hi
 idem i hi:=by have h1:=h.idem i hi;unfold fQ;by_cases e:f i=n;simp[e,em,sL];simp[e,h1]
 zero i hi:=by have h1:=h.idem i hi;have h2:=h.zero i hi;have h3:=h.zero m hm;unfold fQ CT;rw[em]at h3;by_cases e:f i=n;simp[e,em,sL,h3];simp[e,h1,h2]
 bd i hi:=by have:=h.bd i hi;unfold CT;split<;>omega
variable{i:Nat}
def NT.U1{D:Nat}{j:Nat}(h:NT N f d i j):NT N (fQ f m n) (CT f d n) i j:=by obtain⟨e,c,g⟩:=h;refine⟨e,by simp[fQ,c],?_⟩;unfold CT;rw[c];split<;>omega
def qql(h:UO N D f d)(hm:m<N)(k:n<N)(em:f m=m)(c:f n=n)(j:m≠n):NT N (fQ f m n) (CT f d n) n m:=by have e:=h.zero m hm;have g:=h.zero n k;rw[em]at e;rw[c]at g;refine⟨hm,by simp[fQ,em,c,j],?_⟩;simp[CT,em,c,j,e,g]
def BX{c:Type}{l:X c}{k:Nat}{x y:c}(h:(l.set k x)[i]? = some y):(i=k/\y=x)\/(i≠k/\l[i]? = some y):=by rw[ja]at h;by_cases e:k=i;rw[lr e]at h;split at h;exact Or.inl ⟨e.symm,(Option.some.inj h).symm⟩;cases h;rw[hF e]at h;exact Or.inr ⟨fun q=>e q.symm,h⟩
def Cl(em:f m=m)(c:m≠n)(h:fQ f m n i=i):i≠n/\f i=i:=by unfold fQ at h;by_cases e:f i=n;rw[lr e]at h;subst h;exact⟨c,em⟩;rw[hF e]at h;exact⟨fun q=>e (by rw[h,q]),h⟩
def L!(em:f m=m)(h:fQ f m n i≠i)(c:i≠n):f i≠i:=by intro q;apply h;unfold fQ;rw[q,hF c]
def bz.U1{cells:X aD}{N D:Nat}{f d:Nat->Nat}(h:bz cells N f d)(hr:UO N D f d){m n:Nat}(hm:m<N)(hn:n<N)(em:f m=m)(en:f n=n)(sL:m≠n)(t:Int)(o:X aI)(z:Int)(q:X aI):
  bz ((cells.set m ⟨-1,t,o⟩).set n ⟨(m:Int),z,q⟩) N (fQ f m n) (CT f d n) where
 root i c hc hi:=by obtain⟨h1,h2⟩:=Cl em sL hi;obtain⟨e,_⟩|⟨_,hc⟩:=BX hc;exact absurd e h1;obtain⟨e,e2⟩|⟨_,hc⟩:=BX hc;subst e2;rfl;exact h.root i c hc h2
 fwd i c hc hi:=by obtain⟨e,e2⟩|⟨h1,hc⟩:=BX hc;subst e2;subst e;exact⟨m,rfl,qql hr hm hn em en sL⟩;have h2:=L! em hi h1;obtain⟨e,e2⟩|⟨_,hc⟩:=BX hc;subst e;exact absurd em h2;obtain⟨j,h3,h4⟩:=h.fwd i c hc h2;exact⟨j,h3,h4.U1 (D:=D)⟩
def HM.U1{P:X Int}{N D:Nat}{f d:Nat->Nat}(h:HM P N f d)(hr:UO N D f d){m n:Nat}(hm:m<N)(hn:n<N)(em:f m=m)(en:f n=n)(sL:m≠n):
  HM (P.set n (m:Int)) N (fQ f m n) (CT f d n) where
 root i c hc hi:=by obtain⟨h1,h2⟩:=Cl em sL hi;obtain⟨e,_⟩|⟨_,hc⟩:=BX hc;exact absurd e h1;exact h.root i c hc h2
 fwd i c hc hi:=by obtain⟨e,e2⟩|⟨h1,hc⟩:=BX hc;subst e2;subst e;exact⟨m,rfl,qql hr hm hn em en sL⟩;have h2:=L! em hi h1;obtain⟨j,h3,h4⟩:=h.fwd i c hc h2;exact⟨j,h3,h4.U1 (D:=D)⟩
def HM.mK{P:X Int}(h:HM P N f d){j:Nat}{c:Int}(hi:f i≠i)(hj:NT N f d i j)(hc:P[j]? = some c):HM (P.set i c) N f d where
 root k x hx hk:=by obtain⟨e,_⟩|⟨_,hx⟩:=BX hx;subst e;exact absurd hk hi;exact h.root k x hx hk
 fwd k x hx hk:=by obtain⟨e,e2⟩|⟨_,hx⟩:=BX hx;subst e;subst e2;obtain⟨j1,j2,j3⟩:=hj;by_cases xl:f j=j;have:=h.root j x hc xl;exact⟨j,this,j1,j2,j3⟩;obtain⟨l,h1,h2,h3,h4⟩:=h.fwd j x hc xl;exact⟨l,h1,h2,by rw[h3,j2],by omega⟩;exact h.fwd k x hx hk
def L4(l:X aD):Nat:=(l.map fun c=>c.E3.length).sum
def Mi:∀{l:X aD}{i:Nat}{x:aD}(c:aD),l[i]? = some x->L4 (l.set i c)+x.E3.length=L4 l+c.E3.length
 |[],i,x,c,h=>by simp at h
 |y::l,0,x,c,h=>by
  have:y=x:=by simpa using h
  subst this;simp only[LO,L4,zQ,IC];omega
 |y::l,i+1,x,c,h=>by have:=Mi (l:=l) (i:=i) c (by simpa using h);simp only[Q',L4,zQ,IC]at this ⊢;omega
def Bw:∀{l:X aD}{i:Nat}{x:aD},l[i]? = some x->x.E3.length<=L4 l:=fun{l i x} h=>by
 have:=Mi (aD.mk 0 0 []) h;simp only[zS]at this;omega
structure HS(N:Nat)(FB:Int)(l:X aI):Prop where
 up:gO l
 ok:∀a∈l,0<=a.E2/\a.E2<FB/\0<=a.To/\a.To<N
def HS.nil(N:Nat)(c:Int):HS N c []:=⟨Pairwise.nil,fun a h=>by cases h⟩
def MS.ok{N:Nat}{c:Int}{a b o:X aI}(h:MS a b o)(g:HS N c a)(j:HS N c b):HS N c o:=⟨h.up,fun x k=>by
 obtain e |e:=h.mem k;exact g.ok x e;exact j.ok x e⟩
structure qU(N D:Nat)(FB TB:Int)(cells:X aD)(f d:Nat->Nat):Prop where
 b9:UO N D f d
 l8:bz cells N f d
 len:cells.length=N
 ar:∀(i:Nat)(c:aD),cells[i]? = some c->HS N FB c.E3
 kd:∀(i:Nat)(c:aD),cells[i]? = some c->0<=c.kind/\c.kind<TB
def yT(cells:X aD)(m n:Nat)(t:Int)(o:X aI):X aD:=(cells.set m ⟨-1,t,o⟩).set n ⟨(m:Int),0,[]⟩
def qU.U1{N D:Nat}{FB TB:Int}{cells:X aD}{f d:Nat->Nat}(h:qU N D FB TB cells f d){m n:Nat}(hm:m<N)(hn:n<N)(em:f m=m)(en:f n=n)(sL:m≠n){t:Int}{o:X aI}(ho:HS N FB o)(ht:0<=t/\t<TB):
  qU N (D+1) FB TB (yT cells m n t o) (fQ f m n) (CT f d n) where
 b9:=h.b9.U1 hm em en sL
 l8:=h.l8.U1 h.b9 hm hn em en sL t o 0 []
 len:=by simp[yT,h.len]
 ar i c hc:=by obtain⟨_,e⟩|⟨_,hc⟩:=BX hc;subst e;exact .nil N FB;obtain⟨_,e⟩|⟨_,hc⟩:=BX hc;subst e;exact ho;exact h.ar i c hc
 kd i c hc:=by obtain⟨_,e⟩|⟨_,hc⟩:=BX hc;subst e;exact⟨by simp,by show(0:Int)<TB;omega⟩;obtain⟨_,e⟩|⟨_,hc⟩:=BX hc;subst e;exact ht;exact h.kd i c hc
def zdm{cells:X aD}{m n:Nat}{x y:aD}(e:cells[m]? = some x)(g:cells[n]? = some y)(j:m≠n)(t:Int){o:X aI}(c:MS x.E3 y.E3 o):
  L4 (yT cells m n t o)+(L9 x.E3 y.E3).length=L4 cells:=by
 have k:=Mi ⟨-1,t,o⟩ e;have h:(cells.set m ⟨-1,t,o⟩)[n]? = some y:=by rw[mz j];exact g
 have l:=Mi ⟨(m:Int),0,[]⟩ h;have p:=c.len;simp only[yT,zS]at*;omega
structure xJ(N:Nat)(cells:X aD)(P T:X Int)(A:X (X aI))(f d:Nat->Nat):Prop where
 p9:HM P N f d
 lp:P.length=N
 lt:T.length=N
 la:A.length=N
 same:∀(i:Nat)(c:aD),cells[i]? = some c->f i=i->T[i]? = some c.kind/\A[i]? = some c.E3
def xJ.U1{N D:Nat}{FB TB:Int}{cells:X aD}{P T:X Int}{A:X (X aI)}{f d:Nat->Nat}(hh:qU N D FB TB cells f d)(h:xJ N cells P T A f d){m n:Nat}(hm:m<N)(hn:n<N)(em:f m=m)(en:f n=n)(sL:m≠n)(t:Int)(o:X aI):
  xJ N (yT cells m n t o) (P.set n (m:Int)) (T.set m t) (A.set m o) (fQ f m n) (CT f d n) where
 p9:=h.p9.U1 hh.b9 hm hn em en sL
 lp:=by simp[h.lp]
 lt:=by simp[h.lt]
 la:=by simp[h.la]
 same i c hc hi:=by obtain⟨h1,h2⟩:=Cl em sL hi;obtain⟨e,_⟩|⟨_,hc⟩:=BX hc;exact absurd e h1;obtain⟨e,e2⟩|⟨e,hc⟩:=BX hc;subst e;subst e2;have q1:=h.lt;have q2:=h.la;constructor;rw[YO af];rw[YO af];have:=h.same i c hc h2;rw[mz fun q=>e q.symm,mz fun q=>e q.symm];exact this
def xJ.mK{N:Nat}{cells:X aD}{P c T:X Int}{A:X (X aI)}{f d:Nat->Nat}(h:xJ N cells P T A f d)(g:HM c N f d)(e:c.length=N):xJ N cells c T A f d:=⟨g,e,h.lt,h.la,h.same⟩
def rI(f:Nat->Nat)(v:Int):Int:=(f v.toNat:Int)
def pQ(cells:X aD)(v:Int):aD:=(cells[v.toNat]?).getD ⟨-1,0,[]⟩
def La(out:X aK)(k:Nat)(l:X aI):X aK:=out.set k ⟨((out[k]?).map (·.R)).getD 0,l⟩
def vK(g:X Int×X aK->Int->Int×X Int×X aK):X aI->X Int×X aK->X aI->X aI×X Int×X aK
 |[],s,c=>(c,s)|a::l,s,c=>vK g l (g s a.To).2 (c++[⟨a.E2,(g s a.To).1⟩])
def eg(cells:X aD)(f:Nat->Nat):Nat->X Int×X aK->Int->Int×X Int×X aK
 |0,s,_=>(0,s)|k+1,s,v=>if rI f v∈s.1 then((s.1.idxOf (rI f v):Int),s)
  else
   let c:=pQ cells (rI f v)
   let r:=vK (eg cells f k) c.E3 (s.1++[rI f v],s.2++[⟨c.kind,[]⟩]) []
   ((s.1.length:Int),r.2.1,La r.2.2 s.1.length r.1)
structure Sn(N:Nat)(B:Nat)(s:X Int×X aK):Prop where
 nd:s.1.Nodup
 U0:∀v∈s.1,0<=v/\v<(N:Int)
 len:s.2.length=s.1.length
 sm:∀x∈s.2,x.E4.length<=B
variable{N:Nat}
def Sn.le{B:Nat}{s:X Int×X aK}(h:Sn N B s):s.1.length<=N:=Ww N h.nd h.U0
def Sn.nil(N B:Nat):Sn N B ([],[]):=⟨Bc,fun v c=>(oC c).elim,rfl,fun v c=>(oC c).elim⟩
def Sn.snoc{B:Nat}{s:X Int×X aK}(h:Sn N B s){v:Int}(q:0<=v/\v<(N:Int))(p:v ∉ s.1)(k:Int):Sn N B (s.1++[v],s.2++[⟨k,[]⟩]):=⟨by
 rw[fF];refine⟨h.nd,by simp,?_⟩;intro a l b j;simp at j;subst j;intro e;subst e;exact p l,fun u c=>by
 obtain c |c:=yD.1 c;exact h.U0 u c;simp at c;subst c;exact q,by simp[h.len],fun x g=>by
 obtain g |g:=yD.1 g;exact h.sm x g;simp at g;subst g;simp⟩
def qU.oB{D:Nat}{c e:Int}{cells:X aD}{f d:Nat->Nat}(h:qU N D c e cells f d){v:Int}(k:0<=v/\v<(N:Int)):cells[v.toNat]? = some (pQ cells v):=by
 have j:=h.len;have g:v.toNat<cells.length:=by omega
 rw[pQ,lq g];rfl
def qU.rI{N D:Nat}{c e:Int}{cells:X aD}{f d:Nat->Nat}(h:qU N D c e cells f d){v:Int}(g:0<=v/\v<(N:Int)):0<=rI f v/\rI f v<(N:Int):=by have:=h.b9.lt v.toNat af;unfold Go.Proofs.rI;omega
def qz8(g:X Int×X aK->Int->Int×X Int×X aK):∀(l:X aI)(s:X Int×X aK)(c:X aI),(vK g l s c).1.length=c.length+l.length
 |[],s,c=>rfl|a::l,s,c=>by rw[vK,qz8 g l];simp;omega
def N?{N D B:Nat}{A C:Int}{cells:X aD}{f d:Nat->Nat}(h:qU N D A C cells f d)(E:L4 cells<=B):∀(k:Nat)(s:X Int×X aK)(v:Int),Sn N B s->(0<=v/\v<(N:Int))->N-s.1.length<k->
  Sn N B (eg cells f k s v).2/\s.1.length<=(eg cells f k s v).2.1.length/\(0<(eg cells f k s v).2.1.length)
 |0,s,v,q,w,G=>by omega
 |k+1,s,v,q,w,G=>by
  unfold eg;by_cases hm:rI f v∈s.1;rw[lr hm];exact⟨q,zF _,ZD hm⟩;rw[hF hm];have L:=h.rI w;have z:=q.snoc L hm (pQ cells<|rI f v).kind;have t:=h.oB L;have I:=h.ar _ _ t;have J:=z.le;simp only[zU,zO,zS]at J;have key:∀(l:X aI),(∀a∈l,0<=a.To/\a.To<(N:Int))->∀(c:X Int×X aK)(g:X aI),Sn N B c->s.1.length+1<=c.1.length->Sn N B (vK (eg cells f k) l c g).2/\s.1.length+1<=(vK (eg cells f k) l c g).2.1.length:=by
   intro l;induction l with
   |nil=>intro _ c g j r;exact⟨j,r⟩|cons a l H=>intro u c g j r;have p:=u a aZ;obtain⟨g1,g2,K⟩:=N? h E k c a.To j p af;exact H (fun b F=>u b<|lu _ F) _ _ g1 af
  obtain⟨g1,g2⟩:=key _ (fun a p=>(I.ok a p).2.2) _ [] z aZ;refine⟨⟨g1.nd,g1.U0,?_,?_⟩,?_,?_⟩;show(La _ _ _).length=_;rw[La,fG];exact g1.len;intro x e;obtain e |e:=H_ e;exact g1.sm x e;subst e;show(vK _ _ _ _).1.length<=B;rw[qz8];have:=Bw t;simp;omega;show s.1.length<=(vK (eg cells f k) _ _ _).2.1.length;omega;show 0<(vK (eg cells f k) _ _ _).2.1.length;omega
end Go.Proofs
namespace Go.Proofs
open Go Go.Rx Go.Vx
def pk(p:Int×Int):fB:=⟨p.1,p.2⟩
end Go.Proofs
