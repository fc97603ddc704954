import Derived.DefersIn
import Derived.Test.YtmflfedkfdkipaaGreatP11
set_option linter.all false
open List Go.IntKind
open Nat hiding beq_eq
namespace Go.Vx
open Go Go.Rx
section
variable{P:Ib}{T:Tb}(d:j0 P T)
include d
def z5g{m:Nm}{n:Nat}{p:X I}{a:Act}(j:wQ m n p a)(o:Oper){c:Call}(A:o.op=.defer c)(w:Jb){f:FuncId}{args:X I}(h:dd T p (.call c)=some (f,args)):
  ∃z cap e b,(execOp a.eval o).run P w=.ok (.defer { target:=.fn z cap,args:=e }) w/\(∀v,(invoke (.fn z cap) e).run P v=.ok (.enter f b.toArray) v)/\nB m n args b:=by
 obtain⟨J,op,type,pos,after,guard⟩:=o;simp only at A;subst A;unfold dd at h;obtain⟨callee,G,H⟩:=c;simp only at h;cases callee with
 |value g=>
  simp only at h;rcases i:F8 p g with _|u;simp[i]at h;cases u with
  |func fn first cap=>
   cases fn with
   |func k=>
    simp only[i]at h;rcases s:T.fn k with _|fn;simp[s]at h;simp only[s]at h;rcases r:fn.body.isSome with _|_;simp[r]at h;simp only[r,zC]at h;rcases l:oS p G.toList with _|vs;simp[l]at h;simp only[l,zA,zB]at h;obtain⟨rfl,rfl⟩:=h;obtain⟨D,C⟩:=d.fn k fn s;obtain⟨first⟩:=first
    obtain⟨cap⟩:=cap;have q:=lN (j m<|aJ.refl _ _) i;have x:=HA (j m<|aJ.refl _ _) l;have t:fn.body.isNone=false:=by cases K:fn.body<;>simp_all
    refine⟨.func k,(aF m cap).toArray,(aF m first++aF m vs).toArray,aF m first++aF m vs++aF m cap,?_,fun v=>?_,fun B y=>?_⟩;simp only[G0,hJ]at q;simp only[execOp,zK,resolve,q,x,Deferred.ofValue,zL,zJ];simp;simp only[invoke,callFunc,zK,run_program,zJ,D,C r,t,XM,LX];simp;have F:=lN (j B y) i;have E:=HA (j B y) l;rw[q]at F;rw[x]at E;simp_all[G0,y8]
   |_=>simp[i]at h
  |_=>simp[i]at h
 |_=>simp at h
abbrev Jr(T:Tb)(e:X ResultVar)(b:Nat)(R:U->Sg->Prop)(f:X U)(Y:Sg):Prop :=
 ∃l,lB T Y f e=some l/\∃c a,b<=a.nx/\Gh b [mC l] Y [c] a/\R c a
def SS(F:Nat->m9->Prop)(R:U->Sg->Prop)(x:Cx)(m:Nm)(w:Jb):Ending->Jb->Prop:=fun e a=>
 ∃y b u v c,e=.returned c/\R u y.Y/\bJ m x.s w b y.s a/\iC b y.s.nx v c/\jB y/\Fr F y/\aD y u v/\Ke x.Y.nx x y/\x.Y.nx<=y.Y.nx
def z80{fn:Func}{R:U->Sg->Prop}{F:Nat->m9->Prop}{x y:Cx}{o:X U}{G:X I}{m c:Nm}{w f:Jb}{a:Act}(st:St F y o G c f a)(u:bJ m x.s w c y.s f)(B:Ke x.Y.nx x y)(h:Jr T fn.results.toList x.Y.nx R o y.Y):
  ∃v,(results fn a.tmps).run P f=.ok v f/\SS F R x m w (.returned v) f:=by
 obtain⟨l,J,H,O,C,t,D⟩:=h;obtain⟨g,r,q⟩:=Sq st.h st.e J;have j:∀b,aJ y.s.nx c b->(results fn a.tmps).run P f=.ok (G0 b<|wO g) f:=fun b i=>by rw[st.act b i];exact qjq d (st.fits b i) r
 have E:iC c y.s.nx (wO g) (G0 c<|wO g):=fun b i=>by have k:=j b i;rw[j c<|aJ.refl _ _]at k;simp at k;exact k.symm
 obtain⟨z,K,p,z3,z4,z5,L⟩:=t F y [wO g] rfl st.h st.fr (aZ.cons (z1s q)<|aZ.nil y);obtain⟨v0,N,A,M,_⟩:=z5.inv;cases A;have n:=K c f st.fits;exact⟨_,j c<|aJ.refl _ _,z,c,H,wO g,_,rfl,p ▸ D,u.trans n,E.ext (aJ.refl _ _) n.nx,z3,z4,M,B.trans L,by rw[p];exact C⟩
omit d in
def BX(P:Ib)(T:Tb)(fn:Func)(e:Nat)(R:U->Sg->Prop)(c:Code)(h:X U)(Y:Sg):Prop :=
 ∀F b f g x i m w a,b.Y.nx=e->e<=Y.nx->x.Y=Y->St F x h i m w a->bJ f b.s g m x.s w->Ke e b x->a.defers=[]->c.wpIn (oQ none) 0 P (bodyPostDIn (oQ none) 0 P fn (SS F R b f g)) a w
def aT.mM{f:FuncId}{fn:Func}{c:Code}{args:X U}{Y:Sg}{R:U->Sg->Prop}(t:T.fn f=some fn)(q:fn.body=some c)
  (h:BX P T fn Y.nx R c (DE fn.ntmps args) Y):aT P f args Y R:=fun F x j m w a i u l r g b=>by
 obtain⟨e,_⟩:=d.fn f fn t;have o:a.length=j.length:=by rw[<-b.at];simp
 refine(callsIn_wide (n:=0)).1 (callsIn_of_wp_defers (F:=oQ none) e q trivial ?_);have k:wQ m x.s.nx (pad fn.ntmps j) { tmps:=a.toArray++Array.replicate (fn.ntmps-a.toArray.size) undef,defers:=[] }:=fun v p=>by simp only[W_,y8,b v p,o,mm];apply qW;simp[lM,G0,undef]
 exact h F x m w x _ m w _ (by rw[i]) (zF _) i ⟨u,l,Su _ r,g,k⟩ (bJ.refl g) (Ke.refl _ _) rfl
variable{fn:Func}{n0:Nat}{R:U->Sg->Prop}{tm:X U}{Y:Sg}
omit d in
def BX.ghost{c:Code}{tm':X U}{f:Sg}(h:Gh n0 tm Y tm' f)(z:n0<=f.nx)(s:BX P T fn n0 R c tm' f):BX P T fn n0 R c tm Y:=fun F B u A x g m w a v C t st i j r=>by
 obtain⟨y,k,l,n,o,p,q⟩:=h F x g t st.h st.fr st.e;have b:=k m w st.fits;exact s F B u A y g m w a v z l ⟨n,o,p,b.fits,st.act.ext b.agree b.nx⟩ (i.trans b) (j.trans q) r
def BX.seq{p q:Code}(h:I6 (PG.of P) n0 p tm Y (wS (fun b f=>BX P T fn n0 R q b f) fun e b f=>e=.ret/\Jr T fn.results.toList n0 R b f)):BX P T fn n0 R (.seq p q) tm Y:=fun F J D I x G m w a s z A st i o v=>by
 refine wpIn_seq (wpIn_mono (h z F x G m w a 0 A st ⟨qq _,trivial⟩ ⟨fun _=>rfl,fun h=>by cases h⟩ none trivial) ?_);rintro e g H ⟨y,b,u,C,c,j,k,n,E,B⟩;have r:g.defers=[]:=(B.eq rfl).trans v;cases e with
 |normal=>exact c F J D I y u C H g s E rfl j (i.trans k) (o.trans n) r|ret=>obtain⟨_,t⟩:=c;subst s;show LeavesIn _ _ _ _ _ _ g.defers _ _;rw[r];exact z80 d (fn:=fn) j (i.trans k) (o.trans n) t
 |exit id=>cases c.1|goto l=>cases c.1
 |panic K=>cases c.1|outgrown=>cases c.1
abbrev XZ(P:Ib)(T:Tb)(i:X ResultVar)(n0:Nat)(R:U->Sg->Prop)(g:FuncId)(h:X U)(tm:X U)(Y:Sg):Prop :=
 ∃a f,T.fn g=some a/\a.body=some f/\I6 (PG.of P) Y.nx f (DE a.ntmps h) Y (fun e b c=>(e=.normal\/e=.ret)/\(∃l,lB T c b a.results.toList=some l)/\Jr T i n0 R tm c)
def BX.AK{c:Code}{g:FuncId}{N:X U}(B:n0<=Y.nx)(h:I6 (PG.of P) Y.nx c tm Y (fun e n Y'=>(e=.normal\/e=.ret)/\XZ P T fn.results.toList n0 R g N n Y')):
  ∀F j r u x tv m w a L cap f b o,j.Y.nx=n0->x.Y=Y->St F x tm tv m w a->bJ r j.s u m x.s w->Ke n0 j x->a.defers=[{ target:=.fn L cap,args:=f }]->(∀t,(invoke (.fn L cap) f).run P t=.ok (.enter g b.toArray) t)->aZ x N o->nB m x.s.nx o b->
   c.wpIn (oQ none) 0 P (bodyPostDIn (oQ none) 0 P fn<|SS F R j r u) a w:=fun F j r u x tv m w a L cap f b o mW hx st aO eC hd Gd G xL=>by
 refine wpIn_mono (h (zF _) F x tv m w a 0 hx st ⟨qq _,trivial⟩ ⟨fun _=>rfl,fun h=>by cases h⟩ none trivial) ?_;rintro e p t ⟨y,n,cO,Z,⟨qU,A,cd,zh,HN,zr⟩,q,Q,cU,rK,iO⟩;have eU:p.defers=[{ target:=.fn L cap,args:=f }]:=(iO.eq rfl).trans hd;subst hx;have H:aZ y N o:=cU.E G.L5 G;have D:nB Z y.s.nx o b:=fun l mI=>xL l<|(Q.agree).trans mI Q.nx;obtain⟨G1,_⟩:=d.fn g A zh;have fB:b.length=o.length:=by rw[<-xL.at];simp
 have L6:wQ Z y.s.nx (pad A.ntmps o) { tmps:=b.toArray++Array.replicate (A.ntmps-b.toArray.size) undef,defers:=[] }:=fun l mI=>by simp only[W_,y8,D l mI,fB,mm];apply qW;simp[lM,G0,undef]
 have key:LeavesIn (oQ none) 0 P fn p.tmps (SS F R j r u) p.defers .returning t:=by
  rw[eU];refine leavesIn_cons ca (fun h=>by simp[oQ,Fence.wide]at h) (Gd t) (fun _ _=>trivial) ?_;refine(callsDIn_of_wp (R:=fun e i=>∃v,e=.returned v/\∃J,(results fn p.tmps).run P i=.ok J i/\SS F R j r u (.returned J) i) G1 HN trivial ?_).mono ?_;refine wpIn_mono (zr (zF _) F y _ Z t _ 0 rfl ⟨q.h,q.fr,Su _ H,q.fits,L6⟩ ⟨qq _,trivial⟩ ⟨fun _=>rfl,fun h=>by cases h⟩ none trivial) ?_;rintro e1 O K ⟨z,ZQ,tv1,M,⟨I,⟨l1,tQ⟩,Gq⟩,k,S,ql,om,C⟩;have zl:O.defers=[]:=C.eq rfl;obtain⟨W,Zq,_⟩:=Sq k.h k.e tQ;have Zp:(results A O.tmps).run P K=.ok (G0 M<|wO W) K:=by rw[k.act M<|aJ.refl _ _];exact qjq d (k.fits M<|aJ.refl _ _) Zq
  subst mW;have cQ:St F z n cO M K p:=⟨k.h,k.fr,ql.E q.e.L5 q.e,k.fits,q.act.ext S.agree S.nx⟩;have V:=z80 d (fn:=fn) cQ ((aO.trans Q).trans S) ((eC.trans<|cU.le B).trans (ql.le<|eb B rK)) Gq;have hp:bodyPost P A (fun e i=>∃v,e=.returned v/\∃J,(results fn p.tmps).run P i=.ok J i/\SS F R j r u (.returned J) i) .ret O K:=⟨zl,_,Zp,_,rfl,V⟩;obtain rfl |rfl:=I;exact hp;exact hp;rintro e1 u1 K ⟨rfl,v,rfl,V⟩;exact V
 obtain rfl |rfl:=qU;exact key;exact key
omit d in
def Ao{C:PG}(d:j0 C.prog T)(p:Ie Oper)(E:Exit->Act->Jb->Prop)(L:X Nat)(tail:X Oper){F:Nat->m9->Prop}{x0:Cx}{m0:Nm}{w0:Jb}{df:X Deferred}(K:X U->Sg->Prop)(xM:SN C n0 x0 m0 w0)(n:fW m0 x0.s w0)(B:A Nat)(eN:C.ro B):
  ∀(j:X Oper)(i:Nat),p.toList.drop i=j++tail->∀(x:Cx)(tm:X U)(tv:X I)(m:Nm)(w:Jb)(a:Act),St F x tm tv m w a->a.defers=df->bJ m0 x0.s w0 m x.s w->Ke n0 x0 x->n0<=x.Y.nx->RU C T p.toList j tm x.Y K-> (∀y tm' r m' w' a',K tm' y.Y->St F y tm' r m' w' a'->bJ m0 x0.s w0 m' y.s w'->Ke n0 x0 y->n0<=y.Y.nx->a'.defers=df->wpOpsIn (oQ B) 0 C.prog p E L a' w')->wpOpsIn (oQ B) 0 C.prog p E (range' i j.length++L) a w
 |[],i,_,x,tm,tv,m,w,a,st,W,D,G,H,h,V=>by simp only[zS,range'_zero,eY];exact V x tm tv m w a h st D G H W
 |o::j,i,tS,x,tm,tv,m,w,a,st,W,D,G,H,h,V=>by
  have ho:p[i]? = some o:=by have:=congrArg (fun l=>l[0]?) tS;simpa using this
  have bF:p.toList.drop (i+1)=j++tail:=by have:=congrArg List.tail tS;simpa using this
  simp only[zO,qcx,fV,wpOpsIn,ho,gj (st.act m (aJ.refl _ _)) p o];simp only[RU]at h;obtain⟨v,u,Y',q,S⟩|⟨v,f,args,R,q,S,h3⟩|⟨v,q⟩|⟨v,t,xo,yo,ty,e,b,l,q,S,h3,h4,h5⟩|⟨v,R,q,S⟩:=h;rw[B9 st.e v];simp only[It];refine v7 (P8 q) (st.op d o q fun y r J k M e1 N O Q gY Z=>?_);exact Ao d p E L tail K xM n B eN j (i+1) bF y _ r J k M N (Z.trans W) (D.trans O) (G.trans (Q.le H)) ag (e1 ▸ S) V;rw[B9 st.e v];simp only[It];refine v7 (Tp q) (st.call d o q S fun y u r J k M hR N O Q gY Z=>?_);exact Ao d p E L tail K xM n B eN j (i+1) bF y _ r J k M N (Z.trans W) (D.trans O) (G.trans (Q.le H)) ag (h3 u y.Y hR) V;rw[B9 st.e v];simp only[XM,LX];exact⟨fun _ _=>trivial,Ao d p E L tail K xM n B eN j (i+1) bF x _ _ m w _ (st.skip o.dst) ((FD _ _ _).trans W) D G H q V⟩;rw[B9 st.e v];simp only[It];refine v7 (by rw[q];intro c hc;cases hc) (st.kQ d o q S h3 h4 fun z y r J k M hz e1 N O Q gY Z=>?_);exact Ao d p E L tail K xM n B eN j (i+1) bF y _ r J k M N (Z.trans W) (D.trans O) (G.trans (Q.le H)) ag (e1 ▸ h5 z hz) V;rw[B9 st.e v];simp only[It];refine q F x tv m w a _ _ rfl st ⟨eb xM.nb H,(xM.kE n D G).g⟩ (fun u y r J k M hR N O Q gY Z=>?_) B eN;exact Ao d p E L tail K xM n B eN j (i+1) bF y _ r J k M N (Z.trans W) (D.trans O) (G.trans (Q.le H)) ag (S u y.Y hR) V
def BX.HJ{id:Nat}{b:Ie Oper}{q:Code}(k:Nat){o:Oper}{c:Call}(hk:b.toList[k]? = some o)(ho:o.op=.defer c)(hg:o.guard=none)(v:o.dst=none)
  (h:RU (PG.of P) T b.toList (b.toList.take k) tm Y (fun J I=>∃g t,kM T J (.call c)=some (g,t)/\RU (PG.of P) T b.toList (b.toList.drop<|k+1) J I (fun H? Y2=>I=Y2/\I6 (PG.of P) Y2.nx q H? Y2 (fun e l S=>(e=.normal\/e=.ret)/\XZ P T fn.results.toList n0 R g t l S)))):
  BX P T fn n0 R (.seq (.region id b false) q) tm Y:=fun F x0 m0 w0 x tv m w a mW hn hx st W eC hd=>by
 subst hx;obtain⟨Q,A⟩:=zG.1 hk;have n:b.toList=b.toList.take k++o::b.toList.drop (k+1):=by rw[<-A,<-Xk Q,Ww]
 generalize b.toList.take k=pre at h n;generalize b.toList.drop (k+1)=post at h n;refine wpIn_seq<|wpIn_region ?_;rw[range_eq_range'];have dV:b.size=pre.length+(post.length+1):=by have:=congrArg List.length n;simpa using this
 have D:range' 0 b.size=range' 0 pre.length++(pre.length::range' (pre.length+1) post.length):=by rw[dV,<-range'_append_1 (s:=0),Wy,qcx]
 rw[D];refine Ao (C:=PG.of P) (n0:=n0) d b _ _ (o::post) (F:=F) (x0:=x) (m0:=m) (w0:=w) (df:=a.defers) _ ⟨qq _,trivial⟩ st.fits none trivial pre 0 (by simpa using n) x tm tv m w a st rfl (bJ.refl st.fits) (Ke.refl _ _) hn h ?_;rintro y l Z G r p ⟨g,t,N,M⟩ bA bI cU rK eU;have B:b[pre.length]? = some o:=by
  have:b.toList[pre.length]? = some o:=by rw[n];simp
  simpa using this
 have V:Region.wanted o (yielded b p.tmps)=true:=by simp[Region.wanted,hg]
 simp only[wpOpsIn,B,V,It];obtain⟨vs,h1,K⟩:=qve bA.e N;obtain⟨u,cap,f,i,e1,e2,e3⟩:=z5g d bA.act o ho r h1;refine⟨fun _ _=>trivial,?_⟩;have e4:(o.semAt (oQ none).round p.eval)=execOp p.eval o:=Oper.semAt_none _ _;rw[e4,e1];rw[Oper.uponIn_defer];rw[v];have O:St F y l Z G r (({ p with defers:=({ target:=.fn u cap,args:=f }:Deferred)::p.defers }:Act).put none undef):=
  ⟨bA.h,bA.fr,bA.e,bA.fits,fun j H=>bA.act j H⟩
 have key:=Ao (C:=PG.of P) (n0:=y.Y.nx) d b (Exit.then (Code.wpIn (oQ none) 0 P q<|bodyPostDIn (oQ none) 0 P fn<|SS F R x0 m0 w0)<|bodyPostDIn (oQ none) 0 P fn<|SS F R x0 m0 w0) [] [] (F:=F) (x0:=y) (m0:=G) (w0:=r) (df:={ target:=.fn u cap,args:=f }::p.defers) _ ⟨qq _,trivial⟩ bA.fits none trivial post (pre.length+1) (by rw[n];simp) y _ _ G r _ O (FD _ _ _) (bJ.refl bA.fits) (Ke.refl _ _) (zF _) M ?_;rw[il]at key;exact key;rintro z H? tv2 m2 w2 a2 ⟨L,hw⟩ st2 dB qk qc hdf2;simp only[wpOpsIn];refine BX.AK d (tm:=H?) (Y:=z.Y) (fn:=fn) (n0:=n0) (R:=R) (by rw[<-L];exact rK) hw F x0 m0 w0 z tv2 m2 w2 a2 u cap f i vs mW rfl st2 ((W.trans bI).trans dB) ((eC.trans cU).trans (qk.le rK)) (by rw[hdf2,eU,hd]) e2 (qk.E K.L5 K) (fun j H=>e3 j<|dB.agree.trans H dB.nx)
end
variable{q:X U}{p:X U}{a:Nat}
def qx7{n:Nat}(h:lW q a n=some p):a+n<=q.length/\(q.drop a).take n=p:=by unfold lW at h;split at h;rename_i b;exact⟨b,Option.some.inj h⟩;cases h
variable{sz:Nat}{f:Nat}
def Dl{u:U}(h:lW q a sz=some p)(b:nth p f=some u):nth q (a+f)=some u:=by obtain⟨d,rfl⟩:=qx7 h;rw[jT]at b ⊢;have c:=(zG.1 b).1;rw[Wz]at c;rw[Ia ag,na]at b;exact b
def Cw{d b:X U}(h:lW q a sz=some p)(c:rV p f b=some d):rV q (a+f) b=rV q a d:=by
 obtain⟨m,rfl⟩:=qx7 h;unfold rV at c;split at c
 ·rename_i k;have e:=Option.some.inj c;rw[Wz,oy]at k;have l:d.length=sz:=by rw[<-e];simp;omega
  unfold rV;rw[kh ag,kh ag,<-e];congr 1;have g:List.take f (List.take sz<|List.drop a q)=List.take f (List.drop a q):=by rw[qcE,wv ag]
  have i:List.take (a+f) q=List.take a q++List.take f (List.drop a q):=Ha;have j:List.drop (a+f+b.length) q=List.drop (f+b.length) (List.take sz<|List.drop a q)++List.drop (a+sz) q:=by
   have:List.drop a q=List.take sz (List.drop a q)++List.drop (a+sz) q:=by rw[<-mh,Ww]
   rw[my,<-mh]
   conv=>lhs;rw[this]
   rw[zi (by rw[Wz,oy];omega)]
  rw[g,i,j];simp[zT,l];omega
 cases c
section
variable{T:Tb}{Y Y':Sg}{n:Nat}{l:X (Nat×U)}{u v w:U}
def C8{b:Type}(c:b->X U){t j:TypeId}{d:TypeDesc}{K st off m:Nat}{g:X b}{i:Int}{x:b}{o:Qo}(y:T.G4 t=some d)(k:rH d=false)(s:∀x,(c x).length=sz)(z:bM n l o=some (.ptr K st<|off*sz+i.toNat*sz+f))(B:gt Y.h K=some (.vec (g.map c).flatten j sz st))(C:pD g off m i=some x)(A:nth (c x) f=some u):bH T Y (fr n l) (.load t o)=some (u,Y):=by
 refine OJ rfl ?_;have r:Nat.beq st st=true:=by simp[beq_eq]
 have e:=qtq s (UF C).2.2;rw[dR]at e;simp only[qR,dF z,cellsOf,B,r,zC,GX,y,k,zD,Dl e A]
def E_{b:Type}(c:b->X U){t g:TypeId}{s K st off m:Nat}{e:X b}{i:Int}{x y:b}{o z:Qo}{d:X U}{j:X (Nat×B)}(J:cC T t=some s)(k:∀x,(c x).length=sz)(I:bM n l o=some (.ptr K st<|off*sz+i.toNat*sz+f))(N:bM n l z=some v)(O:xB v=some d)(G:I5 d=true)(H:Nat.beq d.length s=true)(L:gt Y.h K=some (.vec (e.map c).flatten g sz st))(A:pD e off m i=some x)(M:rV (c x) f (xR d)=some (c y))(C:ug Y.h K (.vec ((e.set (off+i.toNat) y).map c).flatten g sz st)=j):bH T Y (fr n l) (.store t o z)=some (.L2,⟨j,Y.nx⟩):=by
 subst C;have D:Nat.beq st st=true:=by simp
 have F:=(zG.1 (UF A).2.2).1;have E:=qtq k (UF A).2.2;have r:=Cw E M;rw[qpc k F y,dR]at r;exact I1 rfl rfl (by simp only[qO,dF I,dF N,Am,J,O,H,G,zC,cellsOf,L,D,GJ,r,P4])
end
def B5{Y:Sg}{k t e:Nat}{l:X U}(h:gt Y.h k=some (.vec l e sz t)):live Y k t=true:=by simp only[live,h,B.st,beq_eq,yC]
def WO{v11 c:Type}(K:Nat)(b:B)(sz:Nat)(i:v11->U)(d:c->U)[p:Pl d](g:X (v11×c×Nat)):
  (g.map<|mE i d).map (fun e=>{ e with val:=fz K b sz e.val })=g.map (mE i d):=by rw[dT];refine Wu fun e _=>?_;simp only[Function.comp,mE,N6 b sz _<|p.h K e.2.1]
variable{T:Tb}{t:TypeId}{e:TypeId}{sz:Nat}{z:I}
def qs2{P:Ib}(h:j0 P T){m:Nm}{s:S}(w:Jb){l n:Nat}{v:X (Nat×I)}{cps:X (Nat×I)}{g:X I}
  (G:∀b,aJ s.nx m b->v.map (fun p=>(p.1,G0 b p.2))=cps) (D:T.G4 t=some (.slice e)) (r:T.inf e=some (sz,l,z)) (L:ble (n*sz) 16777216=true) (C:z.cells.toList.length=sz) (M:F1 (fun i=>some (i*sz,sz)) (cY z.cells.toList n) v=some g):
  ∃y,nB m s.nx g y/\(Instr.buildSlice t n cps.toArray).run P w=.ok (.slice (some ⟨w.heap.size,0,none⟩) n n) (w.alloc<|.cells ⟨y⟩ e):=by
 have A:cC T e=some sz:=by simp[cC,r]
 have E:=fun b=>NE h b w r;have x:=bg h r;simp only at E x;have N:n*sz<=16777216:=by simpa[wm]using L
 have u:∀b,aJ s.nx m b->Instr.fill (fun i=>some (i*sz,sz)) ⟨cY z.cells.toList n⟩ cps=some ⟨aF b g⟩:=fun b o=>by have:=Sx b _ v _ _ M;rw[G b o,Ri x]at this;exact this
 have K:nB m s.nx g (aF m g):=fun b o=>by have J:=u b o;have B:=u m<|aJ.refl _ _;rw[J]at B;simpa using B
 have F:z.cells.size=sz:=by simpa using C
 refine⟨aF m g,K,?_⟩;have k:(Array.range<|n*sz).map (fun i=>(if n*sz=0 then(#[]:Ie I)else z.cells)[i%(if n*sz=0 then(#[]:Ie I)else z.cells).size]!)=⟨cY z.cells.toList n⟩:=by
  by_cases c:n*sz=0;rw[c];apply qW;have:(cY z.cells.toList n).length=0:=by rw[qn4,C,c]
  simp[length_eq_zero_iff.1 this];simp only[iy c];have:=qqq z.cells n;rw[F]at this;rw[<-this];simp[F]
 have j:=u m<|aJ.refl _ _;have d:¬ n*sz>2^24:=by omega
 have H:=(E m).1;by_cases c:n*sz=0;simp only[kh c]at k;simp only[Instr.buildSlice,zK,iI h w D,zJ,qS h w A,Sem.run_ite,iy d,zL,kh c];rw[k,j];simp[Go.newRow];simp only[iy c]at k;simp only[Instr.buildSlice,zK,iI h w D,zJ,qS h w A,Sem.run_ite,iy d,zL,iy c,H];rw[k,j];simp[Go.newRow]
def fI.AL{C:PG}(hT:j0 C.prog T){Y:Sg}{G:X U}{o:Oper}{k b:Nat}{H j d:X U}{g:Ie (Nat×Qo)}{D:X (Nat×U)}(y:o.op=.buildSlice t k g)(hd:T.G4 t=some (.slice e))(hi:T.inf e=some (sz,b,z))
  (h:B6 G g.toList=some D) (S:ble (k*sz) 16777216=true) (W:Nat.beq z.cells.toList.length sz=true) (hz:qN z.cells.toList=some H) (hf:rY (fun i=>some (i*sz,sz)) (y3 H k) D=some j) (A:pQ j d) (hk:I5 d=true) (hl:Nat.beq d.length (k*sz)=true) (hs:blt 0 sz=true):
  fI C Y G o (fun u J=>u=.vl Y.nx 0 0 k/\J=cc Y (.vec d e sz 0)):=fun F x tv m w a next Q P st hG hn ro eN=>by
 subst P;obtain⟨vs,O,hp⟩:=VK st.e h;have yH:=(Ax _ _ hz).2 x;obtain⟨r,f1,f2⟩:=Tl hp (TD yH k) hf;have f2:aZ x d r:=⟨A.rel f2.1,by rw[A.len];exact f2.2⟩;have V:z.cells.toList.length=sz:=by simpa[beq_eq]using W
 obtain⟨v,g1,g2⟩:=qs2 hT (m:=m) (s:=x.s) w (cps:=g.toList.map fun p=>(p.1,a.eval p.2)) (fun B R=>(WG (st.act B R) O).symm) hd hi S V f1;have N:(g.map fun(i,x)=>(i,a.eval x))=(g.toList.map fun p=>(p.1,a.eval p.2)).toArray:=by cases g;simp
 have L:(execOp a.eval o).run C.prog w=.ok (.value<|.slice (some ⟨w.heap.size,0,none⟩) k k) (w.alloc<|.cells ⟨v⟩ e):=by simp only[execOp,y];rw[N];simp only[zK,g2,zJ,zL]
 have K:r.length=k*sz:=by
  have h5:=f2.2;have h6:d.length=k*sz:=by simpa[beq_eq]using hl
  rw[<-h5,h6]
 have n:bJ m x.s w (m.set x.s.nx w.heap.size 0 k) (Rx.newRow x.s r e<|sz+2) (w.alloc<|.cells ⟨v⟩ e):=by have:=Ze st.fits (rest:=[]) g1 e k sz (by simpa using K);simpa using this
 have M:0<sz:=by simpa[tp]using hs
 have l:=qoc st.h f2 hk e M;have iF:iC (m.set x.s.nx w.heap.size 0 k) (x.s.nx+1) (.slice (some ⟨x.s.nx,0,none⟩) k cP) (.slice (some ⟨w.heap.size,0,none⟩) k k):=fun B ha=>by obtain⟨q1,q2,q3⟩:=ha x.s.nx<|zN _;obtain⟨r1,r2,r3⟩:=DN m x.s.nx w.heap.size 0 k;simp[G0,q1,q2,r1,r2,cM,cJ,q3,r3]
 refine v7 (by rw[y];intro c hc;cases hc) ?_;unfold Oper.wp;rw[L];exact hn _ ⟨mO x.Z x.Y.nx<|some x.s.nx,cc x.Y<|.vec d e sz 0,Rx.newRow x.s r e<|sz+2⟩ (DD tv o.dst<|.slice (some ⟨x.s.nx,0,none⟩) k cP) _ _ _ ⟨rfl,rfl⟩
  ⟨l.h,l.fr F st.fr,NA (l.mo.ke.E st.e.L5 st.e) qol _,n.fits,(st.act.ext n.agree n.nx).put iF o.dst⟩ n l.mo.ke l.mo.nx (FD _ _ _)
def fI.kA{C:PG}(n:j0 C.prog T){Y:Sg}{d:X U}{o:Oper}{k b:Nat}{g cs:X U}{c:Ie (Nat×Qo)}{qs:X (Nat×U)}(y:o.op=.buildSlice t k c)(r:T.G4 t=some (.slice e))(v:T.inf e=some (sz,b,z))
  (h:B6 d c.toList=some qs) (l:ble (k*sz) 16777216=true) (m:Nat.beq z.cells.toList.length sz=true) (B:qN z.cells.toList=some g) (s:rY (fun i=>some (i*sz,sz)) (y3 g k) qs=some cs) (w:I5 cs=true) (x:Nat.beq cs.length (k*sz)=true) (A:blt 0 sz=true):
  fI C Y d o (fun u j=>u=.vl Y.nx 0 0 k/\j=cc Y (.vec cs e sz 0)):=fI.AL n y r v h l m B s (pQ.refl _) w x A
def BE(K b k:Nat):Nat:=cond (Nat.beq k K) b k
def NW(K c:Nat):X (Nat×B)->X (Nat×B)
 |[]=>[]|(k,b)::h=>cond (Nat.beq k K) (NW K c h) (cond (Nat.beq k c) ((K,b)::NW K c h) ((k,b)::NW K c h))
def q?{K g:Nat}(n:K≠g):∀(h:X (Nat×B))(j:Nat),gt (NW K g h) j=if j=K then gt h g else if j=g then none else gt h j
 |[],j=>by simp[NW,gt]
 |(k,b)::h,j=>by have m:=q? n h j;simp only[NW,beq_eq];by_cases i:k=K;subst i;simp only[yC,zC,m,aV];by_cases c:j=k;subst c;simp[n];simp[c,Wv c];by_cases c:k=g;subst c;simp only[i,yB,zD,yC,zC,aV,m];by_cases d:j=K;subst d;simp;by_cases l:j=k;simp[l,i,Wv d];intro h;exact absurd h.symm i;simp[d,l,Wv d,Wv l];simp only[i,c,yB,zD,aV,m];by_cases d:j=K;subst d;simp[i,c];by_cases l:j=g;subst l;simp[d,c];simp[d,l]
def rS(V:Nat->Nat):X (Nat×U)->X (Nat×U)
 |[]=>[]|(i,u)::l=>(i,rU V u)::rS V l
def qw9(V:Nat->Nat):∀(l:X (Nat×U))(i:Nat),o4 (rS V l) i=(o4 l i).map (rU V)
 |[],i=>rfl|(j,u)::l,i=>by simp only[rS,o4,beq_eq,qw9 V l i];by_cases e:j=i<;>simp[e]
def z2y(V:Nat->Nat):∀(l:X U)(i:Nat),(eR V l)[i]? = (l[i]?).map (rU V)
 |[],i=>by simp[eR]
 |u::l,0=>by simp[eR]
 |u::l,i+1=>by simp[eR,z2y V l i]
def ZZ(V:Nat->Nat)(n:Nat)(l:X (Nat×U)):eR V (fr n l)=fr n (rS V l):=by apply me;intro k;rw[z2y];by_cases b:k<n;rw[PC n l b,PC n _ b,qw9];obtain _|w:=o4 l k;simp[rU];rfl;rw[Xi (by simp[H4];omega),Xi (by simp[H4];omega)];rfl
def vq(V:Nat->Nat):X (Nat×B)->Prop
 |[]=>True|(_,b)::h=>rB V b=b/\vq V h
def z7s{V:Nat->Nat}:∀{h:X (Nat×B)},vq V h->∀k b,gt h k=some b->rB V b=b
 |[],_,k,b,d=>by cases d
 |(j,c)::h,g,k,b,d=>by rw[aV]at d;by_cases e:j=k;rw[kh e]at d;cases d;exact g.1;rw[iy e]at d;exact z7s g.2 k b d
def Gh.mv{E n:Nat}{l l':X (Nat×U)}{Y:Sg}{h':X (Nat×B)}(K g:Nat)(h0:E<=K)(hK:blt K Y.nx=true)(cA:Nat.beq K g=false)(hl:rS (BE K g) l'=l)(hm:NW K g Y.h=h')(ha:vq (BE K g) h')[d:BS Y.nx l']:Gh E (fr n l) Y (fr n l') ⟨h',Y.nx⟩:=fun F x tv hx P N he=>by
 subst hx;subst hl;subst hm;have hK':K<x.Y.nx:=by simpa[tp]using hK
 have G:K≠g:=by simpa[beq_eq]using cA
 have key:∀k b,gt (NW K g x.Y.h) k=some b->gt x.Y.h (BE K g k)=some b:=fun k b o=>by rw[q? G]at o;simp only[BE,beq_eq];by_cases e:k=K;rw[kh e]at o;simpa[e]using o;rw[iy e]at o;by_cases j:k=g;rw[kh j]at o;cases o;rw[iy j]at o;simpa[e]using o
 let y:Cx:=⟨fun k=>x.Z<|BE K g k,⟨NW K g x.Y.h,x.Y.nx⟩,x.s⟩
 have M:U4 x.Y.nx (BE K g) x y:=⟨fun k st off v r h=>by
   simp only[aD,Ref]at h ⊢;exact⟨h.1,r,fun b d=>h.2.2 b<|key k b d⟩,fun k off m c v r h=>by
   simp only[aD,Ref]at h ⊢;exact⟨h.1,r,fun b d=>h.2.2 b<|key k b d⟩,fun k st off m v r h=>by
   simp only[aD]at h ⊢;exact⟨h.1,r,fun b d=>h.2.2 b<|key k b d⟩,fun k v r h=>by
   simp only[aD,Ref]at h ⊢;exact⟨h.1,r,fun b d=>h.2.2 b<|key k b d⟩,fun _ _ _ h=>h⟩
 have S:∀u,aS E u->rU (BE K g) u=u:=fun u A=>by
  have:=sb (V:=id) (κ:=BE K g) (n:=E) (fun k r=>by
   have:¬ k=K:=by omega
   simp[BE,beq_eq,this]) u A
  rwa [Rn]at this
 refine⟨y,fun m w N=>bJ.refl N,rfl,⟨fun k b d=>?_,fun k D b H i d Q J L=>?_,P.bd⟩,fun i b O=>?_,?_,fun u v A hv=>?_⟩;have o:=key k b d;obtain⟨g1,g2⟩:=P.ok _ _ o;have W:k<x.Y.nx:=by
  by_cases e:k=K;omega;have j:BE K g k=k:=by simp[BE,beq_eq,e]
  rw[j]at g1;exact g1
 refine⟨W,o8.I9 M g2.lU rfl (fun _ _ _ h=>h) ?_⟩;rw[z7s ha k b d];exact g2;have e:=P.inj _ _ b H i (key k b d) (key D H Q) J L;have R:∀k b,gt (NW K g x.Y.h) k=some b->k≠g:=fun k b d h=>by subst h;rw[q? G,iy<|Wv G,kh rfl]at d;cases d
 have q1:=R k b d;have q2:=R D H Q;simp only[BE,beq_eq]at e;by_cases C:k=K;by_cases j:D=K;rw[C,j];simp[C,j]at e;exact absurd e.symm q2;by_cases j:D=K;simp[C,j]at e;exact absurd e q1;simpa[C,j]using e;obtain⟨J,L⟩:=N i b O;exact⟨J,fun k c hc=>L _ c<|key k c hc⟩;refine aZ.I9 M (Sy d.h) ?_;rw[ZZ];exact he;exact aD.I9 M u v (aS.le ag u A) (by rw[S u A];exact hv)
variable{T:Tb}{Y:Sg}{e:TypeId}
def Pr{t:TypeId}{m sz k st off:Nat}{i:Int}{kd:IntKind}(c:T.G4 t=some (.array m e))(j:cC T e=some sz)(g:live Y k st=true)(d:0<=i/\i<m){b:Nat}(h:off+i.toNat*sz=b):DP T Y t (.ptr k st off) (.int kd i)=some (.ptr k st b):=by subst h;simp only[DP,c,j,g,zC,kh d]
def Xo{t:TypeId}{k st off:Nat}{op:BinOp}{u:U}(b:T.G4 t=some (.pointer e))(c:live Y k st=true)(d:G9 op=some u):Lc T Y op t (.ptr k st off) .b8=some u:=by simp only[Lc,AZ,b,gS,c,NC,d,zC,Nat.beq,zD]
def Gh.mN{b:Type}(c:b->X U){s n:Nat}{l g:X (Nat×U)}{Y d:Sg}{K:Nat}{i:X b}{sz st:Nat}(k:∀x,(c x).length=sz)(m:gt Y.h K=some (.vec (i.map c).flatten e sz st))(j:Nat)(r:pV l g)(o:(⟨ug Y.h K<|.vec ((i.take j).map c).flatten e sz st,Y.nx⟩:Sg)=d):Gh s (fr n l) Y (fr n g) d :=
 Gh.trans (Gh.pX c k m j) (xQ r o)
end Go.Vx
namespace Go.Proofs
open Go Go.Rx
def fn8:tb.fn 8=some Tryz.f8:=bD
def fn9:tb.fn 9=some Tryz.f9:=bD
def LS:tb.fn 11=some Tryz.f11:=bD
def Hz:tb.fn 12=some Tryz.f12:=bD
def SC:tb.fn 16=some Tryz.f16:=bD
def jv:tb.fn 17=some Tryz.f17:=bD
def G6:tb.fn 18=some Tryz.f18:=bD
def SB:tb.fn 19=some Tryz.f19:=bD
def SA:tb.fn 20=some Tryz.f20:=bD
def LC:tb.fn 21=some Tryz.f21:=bD
def Hy:tb.fn 22=some Tryz.f22:=bD
def ju:tb.fn 28=some Tryz.f28:=bD
def Hx:tb.fn 29=some Tryz.f29:=bD
def jt:tb.fn 30=some Tryz.f30:=bD
def js:tb.fn 31=some Tryz.f31:=bD
def S9:tb.fn 32=some Tryz.f32:=bD
def jr:tb.fn 33=some Tryz.f33:=bD
def jq:tb.fn 34=some Tryz.f34:=bD
def LB:tb.fn 35=some Tryz.f35:=bD
def wH:tb.fn 36=some Tryz.f36:=bD
def jp:tb.fn 41=some Tryz.f41:=bD
def jo:tb.fn 42=some Tryz.f42:=bD
def S8:tb.fn 43=some Tryz.f43:=bD
def jn:tb.fn 44=some Tryz.f44:=bD
def Hw:tb.fn 45=some Tryz.f45:=bD
def jm:tb.fn 46=some Tryz.f46:=bD
def Hv:tb.fn 50=some Tryz.f50:=bD
def jk:tb.fn 51=some Tryz.f51:=bD
def S7:tb.fn 52=some Tryz.f52:=bD
def Hu:tb.fn 53=some Tryz.f53:=bD
def ji:tb.fn 54=some Tryz.f54:=bD
def S6:tb.fn 55=some Tryz.f55:=bD
def Ht:tb.fn 56=some Tryz.f56:=bD
def jh:tb.fn 57=some Tryz.f57:=bD
def LA:tb.fn 58=some Tryz.f58:=bD
def jg:tb.fn 59=some Tryz.f59:=bD
def jf:tb.fn 60=some Tryz.f60:=bD
def oL:tb.fn 61=some Tryz.f61:=bD
def je:tb.fn 63=some Tryz.f63:=bD
def Hs:tb.fn 64=some Tryz.f64:=bD
def jd:tb.fn 65=some Tryz.f65:=bD
def zR:tb.fn 66=some Tryz.f66:=bD
def jb:tb.fn 67=some Tryz.f67:=bD
def ja:tb.fn 68=some Tryz.f68:=bD
def S5:tb.fn 69=some Tryz.f69:=bD
def zP:tb.fn 70=some Tryz.f70:=bD
def zE:tb.fn 71=some Tryz.f71:=bD
def G5:tb.fn 72=some Tryz.f72:=bD
def xz:tb.fn 73=some Tryz.f73:=bD
def xy:tb.fn 78=some Tryz.f78:=bD
def xx:tb.fn 79=some Tryz.f79:=bD
def xw:tb.fn 80=some Tryz.f80:=bD
def xv:tb.fn 81=some Tryz.f81:=bD
def xu:tb.fn 82=some Tryz.f82:=bD
def xr:tb.fn 83=some Tryz.f83:=bD
def Hr:tb.fn 84=some Tryz.f84:=bD
def xq:tb.fn 85=some Tryz.f85:=bD
def Hq:tb.fn 86=some Tryz.f86:=bD
def S4:tb.fn 87=some Tryz.f87:=bD
def Ho:tb.fn 88=some Tryz.f88:=bD
def xp:tb.fn 89=some Tryz.f89:=bD
def xn:tb.fn 90=some Tryz.f90:=bD
def Hn:tb.fn 91=some Tryz.f91:=bD
def xm:tb.fn 92=some Tryz.f92:=bD
def xl:tb.fn 93=some Tryz.f93:=bD
def xk:tb.fn 94=some Tryz.f94:=bD
def xj:tb.fn 95=some Tryz.f95:=bD
def L9:tb.fn 96=some Tryz.f96:=bD
def Hl:tb.fn 97=some Tryz.f97:=bD
def S3:tb.fn 98=some Tryz.f98:=bD
def XJ:tb.fn 100=some Tryz.f100:=bD
def XI:tb.fn 101=some Tryz.f101:=bD
def LV:tb.fn 102=some Tryz.f102:=bD
def XH:tb.fn 103=some Tryz.f103:=bD
def AA:tb.fn 104=some Tryz.f104:=bD
def EK:tb.fn 105=some Tryz.f105:=bD
def XG:tb.fn 106=some Tryz.f106:=bD
def XF:tb.fn 107=some Tryz.f107:=bD
def LU:tb.fn 108=some Tryz.f108:=bD
def XE:tb.fn 109=some Tryz.f109:=bD
def jw:tb.fn 110=some Tryz.f110:=bD
def XD:tb.fn 111=some Tryz.f111:=bD
def LR:tb.fn 112=some Tryz.f112:=bD
def XC:tb.fn 115=some Tryz.f115:=bD
def sX:tb.fn 116=some Tryz.f116:=bD
def LQ:tb.fn 117=some Tryz.f117:=bD
def LP:tb.fn 118=some Tryz.f118:=bD
def A9:tb.fn 119=some Tryz.f119:=bD
def LO:tb.fn 120=some Tryz.f120:=bD
def XB:tb.fn 121=some Tryz.f121:=bD
def XA:tb.fn 122=some Tryz.f122:=bD
def X9:tb.fn 123=some Tryz.f123:=bD
def X8:tb.fn 124=some Tryz.f124:=bD
def X7:tb.fn 125=some Tryz.f125:=bD
def nK:tb.fn 126=some Tryz.f126:=bD
def X6:tb.fn 127=some Tryz.f127:=bD
def X5:tb.fn 128=some Tryz.f128:=bD
def X4:tb.fn 129=some Tryz.f129:=bD
def LN:tb.fn 130=some Tryz.f130:=bD
def LM:tb.fn 131=some Tryz.f131:=bD
def LL:tb.fn 132=some Tryz.f132:=bD
def EJ:tb.fn 133=some Tryz.f133:=bD
def X3:tb.fn 140=some Tryz.f140:=bD
def LK:tb.fn 141=some Tryz.f141:=bD
def LJ:tb.fn 142=some Tryz.f142:=bD
def X2:tb.fn 143=some Tryz.f143:=bD
def WZ:tb.fn 153=some Tryz.f153:=bD
def WY:tb.fn 155=some Tryz.f155:=bD
def LI:tb.fn 156=some Tryz.f156:=bD
def WX:tb.fn 157=some Tryz.f157:=bD
def sW:tb.fn 158=some Tryz.f158:=bD
def WW:tb.fn 159=some Tryz.f159:=bD
def WV:tb.fn 160=some Tryz.f160:=bD
def WU:tb.fn 161=some Tryz.f161:=bD
def WT:tb.fn 162=some Tryz.f162:=bD
def WS:tb.fn 163=some Tryz.f163:=bD
def LH:tb.fn 173=some Tryz.f173:=bD
def LF:tb.fn 176=some Tryz.f176:=bD
def WR:tb.fn 177=some Tryz.f177:=bD
def WQ:tb.fn 178=some Tryz.f178:=bD
def LD:tb.fn 179=some Tryz.f179:=bD
end Go.Proofs
