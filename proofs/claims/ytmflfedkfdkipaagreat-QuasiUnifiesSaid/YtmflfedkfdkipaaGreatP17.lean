import Derived.WalkKit
import Derived.Sort.Grow
import Derived.Test.YtmflfedkfdkipaaGreatP16
set_option linter.all false
set_option maxRecDepth 100000
set_option maxHeartbeats 4000000
set_option synthInstance.maxSize 4000
set_option synthInstance.maxHeartbeats 200000
open List Go.IntKind
open Nat hiding beq_eq
namespace Go.Proofs
open Go Go.Rx Go.Vx Go.Shelf Go.RowKit Go.Sort Tryz
def z72(Y:Sg):b7 prog 110 [.int .u64 0] Y (fun u a=>u=.int .i64 0/\a=Y):=by refine b7.of_same (vs:=[.int .u64 0]) (cv:=.int .i64 0) rfl (fun m=>by simp[aL,H3]) rfl (fun m=>by simp[H3]) (fun w=>?_) Y;exact Any.bits_Len (SlLaysF0.n15.bits (P:=prog) (ρ:=Tryz.fX) { Tryz.oI with }) 0 w af af
def Jo(a c:Int)(v g:Value)(w:Ep):Calls prog 74 #[.agg #[.int .i64 a,v],.agg #[.int .i64 c,g]] w fun e i=>e=.returned (.int .i64<|wrap64<|a-c)/\∃q f,i=grow (w.drewN q) f:=by
 go_enter Tryz.func74,Tryz.ntmps74
 go_wp2
 all_goals go_ret
 refine⟨rfl,0,#[.cells #[.int .i64 a,v] 107,.cells #[.int .i64 c,g] 107],?_⟩;cases w with
 |mk b d drawn f output=>
  have e:∀A B:Obj,(b.push A).push B=b++ #[A,B]:=fun A B=>by apply Be;simp
  exact congrArg (fun h=>(⟨h,d,drawn,f,output⟩:Ep)) (e _ _)
def Jp(nm:Nat->Nat)(a b:eN):Kt prog 74 [.agg<|bZ nm a,.agg<|bZ nm b] (wrap64<|a.f-b.f):=fun p g x n e m h w l=>by
 obtain⟨v0,o,rfl,c,e⟩:=e.inv;obtain⟨v1,k,rfl,d,e⟩:=e.inv;have:=e.K4;subst this;simp only[aF,bZ]at c d;obtain⟨p0,rfl,c,i,_⟩:=c;obtain⟨u,rfl,d,j,_⟩:=d;obtain _ |⟨q,_ |⟨s,_ |_⟩⟩:=p0<;>simp at i;obtain _ |⟨r,_ |⟨t,_ |_⟩⟩:=u<;>simp at j;simp only[cJ,aF,cO]at c d;obtain⟨rfl,_⟩:=c;obtain⟨rfl,_⟩:=d;rw[<-h.at];simp only[aL,H3,wG,List.map];exact Jo _ _ _ _ w
def Av:z9k prog 73 74 2:=fun m _ b e k f h c a off cap d w j g i l=>
 AnyQ.slices_SortFunc Tryz.oI 2 Tryz.isAgg107 Tryz.sizeOf107 b k f e h 74 c a off cap d w (enters_of Tryz.func74 ag rfl) j g i l
def Tx{Y:Sg}{u:U}(g:yU tb Y 93 u=some (.i6 0)):b7 prog 73 [u,.fn (.func 74) [] []] Y (fun f a=>f=.a7 []/\a=Y):=by
 have d:b7 prog 143 [u,.i6 0,.i6 0,.fn (.func 74) [] []] Y (fun f a=>f=.a7 []/\a=Y):=by refine Kd 53 v03 ?_;refine goN ?_;refine gL (fun m b a=>b=fr 53 [(2,.i6 0),(8,.i6 1)]/\a=Y) (fun b a=>b=fr 53 []/\a=Y) 0 ⟨rfl,rfl⟩ ?_ ?_<|zF _;rintro _ _ ⟨rfl,rfl⟩;refine⟨.inl rfl,[],rfl,.a7 [],_,zF _,Gh.refl _ _ _,rfl,rfl⟩;rintro m _ _ ⟨rfl,rfl⟩;refine goN ?_;refine eE rfl (fun c=>by cases c) (fun c=>?_);refine goN ?_;exact⟨_,_,⟨rfl,rfl⟩,zF _,Gh.sub trivial⟩
 have e:b7 prog 109 [u,.i6 0,.i6 0,.i6 0,.fn (.func 74) [] []] Y (fun f a=>f=.a7 []/\a=Y):=by refine bg5 148 YJ ?_;refine goN ?_;refine gL (fun m b a=>b=fr 148 [(0,u),(1,.i6 0),(2,.i6 0),(4,.fn (.func 74) [] [])]/\a=Y) (fun b a=>False) 0 ⟨rfl,rfl⟩ (fun _ _ h=>h.elim) ?_<|zF _;rintro m _ _ ⟨rfl,rfl⟩;refine goN ?_;apply cK;refine goN ?_;refine eE rfl (fun c=>?_) (fun c=>by cases c);refine goN ?_;refine aM rfl d v03 ?_;refine goN ?_;refine⟨.inr rfl,[],rfl,.a7 [],_,zF _,Gh.refl _ _ _,rfl,rfl⟩
 refine eO 14 vr ?_;refine goN ?_;refine RS.w rfl (HP rfl rfl rfl g) ?_;refine goN ?_;refine RS.w rfl (by exact rfl) ?_;refine aM rfl (z72 _) ld ?_;refine goN ?_;refine aM rfl e YJ ?_;refine goN ?_;refine⟨.inl rfl,[],rfl,.a7 [],_,zF _,Gh.refl _ _ _,rfl,rfl⟩
end Go.Proofs
namespace Go.Proofs
open Go Go.Rx Go.Vx Go.Shelf Go.RowKit Go.Sort Tryz
def MC(a b:eN):FK:=a.f==b.f&&a.to==b.to
def z1y(a b:eN)(h:MC a b=true):a=b:=by cases a;cases b;simpa[MC]using h
def JW(l:X eN):V (X eN):=sb MC (fun a b=>some<|wrap64<|a.f-b.f) l
variable{K:Nat}
def At{nm:Nat->Nat}{Y:Sg}{t:Nat}{c g:X eN}(h:JW c=some g)(d:gt Y.h K=some (.vec (c.map<|bZ nm).flatten 107 2 t)):
  b7 prog 73 [.vl K t 0 c.length,.fn (.func 74) [] []] Y (fun u i=>∃H,u=.a7 []/\i=⟨H,Y.nx⟩/\gt H K=some (.bv (bZ nm) g 107 2 t)/\∀k,k≠K->gt H k=gt Y.h k):=by
 obtain⟨m,j,rfl⟩:=qkz h;cases c with
 |nil=>exact(Tx<|z2z FH.h d).mono fun u s ⟨e,f⟩=>⟨Y.h,e,f,d,fun _ _=>rfl⟩
 |cons x c=>refine b7.mono (b7.rA (encU:=bZ nm) (fun _=>rfl) bF (fun _=>rfl) Av (x::c) (qph z1y j) (fun a b r h=>by cases h;exact Jp nm a b) nofun af d) fun u s ⟨e,f⟩=>⟨_,e,f,by rw[bV,lr rfl,d];rfl,fun k l=>by rw[bV,hF<|WV l]⟩
def qyd{b c:X eN}(h:JW b=some c):∀a,a∈c↔a∈b:=by obtain⟨d,e,rfl⟩:=qkz h;intro a;exact(QE _ b).mem_iff
def sY(nm:Nat->Nat)(x:PN)(u:U):X U:=[.i6 x.kind,u,po nm x.fw,.i6 x.c3,.i6 x.mt,.i6 x.b8,.iM (bZ nm) x.more,.i6 x.K2,po nm x.cp,.i6 x.c6,.bool x.ch,.i6 x.c4]
structure PF(kp kr st:Nat)(nm:Nat->Nat)(P:PP)(h:X (Nat×B)):Prop where
 b5:gt h kp=some (.row (tX kr st P) 83)
 node:∀i x,P.N[i]? = some x->∃u,gt h (nm i)=some (.row (sY nm x u) 103)
section
variable{kp a st:Nat}{nm:Nat->Nat}{P:PP}{h:X (Nat×B)}{nx:Nat}
theorem PF.gp(p:PF kp a st nm P h):eK h kp (.row [.iM hZ P.H.Types,.iM jC P.H.E6,.vl a st 0 P.roots.length,.i6 P.size,.i6 P.gen] 83):=⟨p.b5⟩
def PF.gn(p:PF kp a st nm P h){i:Nat}{x:PN}(b:P.N[i]? = some x):∃u,eK h (nm i) (.row [.i6 x.kind,u,po nm x.fw,.i6 x.c3,.i6 x.mt,.i6 x.b8,.iM (bZ nm) x.more,.i6 x.K2,po nm x.cp,.i6 x.c6,.bool x.ch,.i6 x.c4] 103):=(p.node i x b).imp fun u h=>⟨h⟩
def z7s(p:PF kp a st nm P h)(n:Nat){i r:Nat}(O:uX P.N P.gen n i=some r):b7 prog 66 [.ptr kp 0 0,pt nm i] ⟨h,nx⟩ (fun u d=>u=pt nm r/\d=⟨h,nx⟩):=by
 haveI:=p.gp
 refine eO 23 B6 ?_;refine goN ?_;refine gL (fun m j Y=>∃i,uX P.N P.gen m i=some r/\j=fr 23 [(0,.ptr kp 0 0),(1,pt nm i)]/\Y=⟨h,nx⟩) (fun _ _=>False) n ⟨i,O,rfl,rfl⟩ (fun _ _ h=>h.elim) ?_<|zF _;rintro(_ |m) _ _ ⟨i,O,rfl,rfl⟩;cases O;obtain⟨x,g,O⟩:=aJ O;obtain⟨u,f⟩:=p.gn g
 haveI:=f
 refine goN ?_;apply cK;refine goN ?_;refine dE [] ?_;refine cC ?_;cases c:x.c3 != P.gen with
 |true=>rw[c]at O;obtain rfl:=sI O;refine dN rfl (Bk c rfl) B0 ?_;refine cC ?_;refine bB ⟨by kernel_rfl,trivial,?_⟩;refine goN ?_;refine eE rfl (fun b=>?_) (fun b=>by cases b);refine goN ?_;exact EB rfl rfl rfl (zF _) ⟨rfl,rfl⟩
 |false=>rw[c]at O;obtain⟨q,e,O⟩:=aJ O;refine dN rfl (Bk (v:=pt nm q) c (by rw[e];rfl)) B0 ?_;refine cC ?_;refine bB ⟨by kernel_rfl,trivial,?_⟩;refine goN ?_;refine eE rfl (fun b=>by cases b) (fun b=>?_);refine goN ?_;exact⟨m,_,_,zN _,⟨q,O,rfl,rfl⟩,zF _,Gh.sub<|by((repeat refine⟨rfl,?_⟩);exact trivial)⟩
end
def iD(k:Int)(l:X eN):PN:=⟨k,l,none,0,0,0,[],0,none,0,false,0⟩
section
variable{nm nm':Nat->Nat}{n:Nat}
def Vq(h:∀k,k<n->nm' k=nm k){l:X eN}(c:∀a∈l,a.to<n):l.map (bZ nm')=l.map (bZ nm):=X2 fun a b=>by simp only[bZ,pt,h _<|c a b]
def qsi(h:∀k,k<n->nm' k=nm k){l:X Nat}(c:∀a∈l,a<n):l.map (eD nm')=l.map (eD nm):=X2 fun a b=>by simp only[eD,pt,h _<|c a b]
def Uz(h:∀k,k<n->nm' k=nm k):∀{o:V Nat},GT n o->po nm' o=po nm o
 |none,_=>rfl|some i,a=>by simp only[po,pt,h i a]
def qsh(h:∀k,k<n->nm' k=nm k){x:PN}(w:lQ n x):pZ nm' x=pZ nm x:=by simp only[pZ,U.iM];rw[Vq h w.E3,Vq h w.more,Uz h w.fw,Uz h w.cp]
def GT.le{m:Nat}(h:n<=m):∀{o:V Nat},GT n o->GT m o
 |none,_=>trivial|some i,a=>YR a h
def lQ.le{m:Nat}(h:n<=m){x:PN}(w:lQ n x):lQ m x:=⟨fun a b=>YR (w.E3 a b) h,w.fw.le h,fun a b=>YR (w.more a b) h,w.cp.le h⟩
end
section
variable{kp a st:Nat}{nm:Nat->Nat}{P:PP}{h:X (Nat×B)}{nx:Nat}
def PH.jO(p:PH kp a st nm P h){i:Nat}(b:i<P.N.length):nm i≠kp:=fun e=>by
 have:=p.node i _<|lq b;rw[e,p.b5]at this;simp at this
def PH.rF(p:PH kp a st nm P h){i:Nat}(b:i<P.N.length):nm i≠a:=fun e=>by
 have:=p.node i _<|lq b;rw[e,p.roots]at this;cases this
def PH.mY(p:PH kp a st nm P h):a≠kp:=fun e=>by
 have:=p.roots;rw[e,p.b5]at this;cases this
def PH.nR(p:PH kp a st nm P h)(s g:Int){H:X (Nat×B)}(e:gt H kp=some (.row (tX a st { P with size:=s,gen:=g }) 83))(c:∀k b,gt h k=some b->k≠kp->gt H k=some b):PH kp a st nm { P with size:=s,gen:=g } H :=
 ⟨e,c _ _ p.roots p.mY,fun i x d=>c _ _ (p.node i x d)<|p.jO (zG.1 d).1,p.inj,p.wf,p.rt⟩
def wE(nm:Nat->Nat)(n K:Nat):Nat->Nat:=fun k=>if k=n then K else nm k
def xZ{n:Nat}:∀k,k<n->wE nm n K k=nm k:=fun k b=>by rw[wE,hF af]
def Bv{n:Nat}:wE nm n K n=K:=by rw[wE,lr rfl]
end
structure PQ(kp kr st:Nat)(nm:Nat->Nat)(P:PP)(c:Nat)(h:X (Nat×B)):Prop where
 b5:gt h kp=some (.row (tX kr st P) 83)
 roots:gt h kr=some (.vec (P.roots.map (eD nm)).flatten 92 1 st)
 node:∀i x,P.N[i]? = some x->i<c->gt h (nm i)=some (.row (pZ nm x) 103)
 l5:∀i x,P.N[i]? = some x->c<=i->gt h (nm i)=some (.row (sY nm x .J) 103)/\x.E3=[]
 inj:∀i j,i<P.N.length->j<P.N.length->nm i=nm j->i=j
 wf:∀x∈P.N,lQ P.N.length x
 rt:∀r∈P.roots,r<P.N.length
section
variable{kp d st c:Nat}{nm:Nat->Nat}{P:PP}{h:X (Nat×B)}{nx:Nat}
def PH.pq(p:PH kp d st nm P h):PQ kp d st nm P P.N.length h:=⟨p.b5,p.roots,fun i x a _=>p.node i x a,fun i x a b=>absurd (zG.1 a).1 af,p.inj,p.wf,p.rt⟩
def PQ.ph(p:PQ kp d st nm P c h)(b:P.N.length<=c):PH kp d st nm P h:=⟨p.b5,p.roots,fun i x a=>p.node i x a (by have:=(zG.1 a).1;omega),p.inj,p.wf,p.rt⟩
def PQ.row(p:PQ kp d st nm P c h){i:Nat}{x:PN}(b:P.N[i]? = some x):∃u,gt h (nm i)=some (.row (sY nm x u) 103):=by obtain a |a:=Zd i c;exact⟨_,p.node i x b a⟩;exact⟨_,(p.l5 i x b a).1⟩
variable{i:Nat}
def PQ.mA(p:PQ kp d st nm P c h)(a:i<P.N.length):∃q,gt h (nm i)=some (.row q 103):=by obtain⟨u,b⟩:=p.row<|lq a;exact⟨_,b⟩
def PQ.pf(p:PQ kp d st nm P c h):PF kp d st nm P h:=⟨p.b5,fun i x a=>p.row a⟩
variable{H:X (Nat×B)}
def PQ.more(p:PQ kp d st nm P c h)(a:∀k b,gt h k=some b->gt H k=some b):PQ kp d st nm P c H :=
 ⟨a _ _ p.b5,a _ _ p.roots,fun i x f e=>a _ _<|p.node i x f e,fun i x f e=>⟨a _ _ (p.l5 i x f e).1,(p.l5 i x f e).2⟩,p.inj,p.wf,p.rt⟩
def PQ.jO(p:PQ kp d st nm P c h)(b:i<P.N.length):nm i≠kp:=fun e=>by
 obtain⟨q,a⟩:=p.mA b;rw[e,p.b5]at a;simp at a
def PQ.rF(p:PQ kp d st nm P c h)(b:i<P.N.length):nm i≠d:=fun e=>by
 obtain⟨q,a⟩:=p.mA b;rw[e,p.roots]at a;cases a
def PQ.mY(p:PQ kp d st nm P c h):d≠kp:=fun e=>by
 have:=p.roots;rw[e,p.b5]at this;cases this
def PQ.lt(p:PQ kp d st nm P c h)(e:qA ⟨h,nx⟩)(a:i<P.N.length):nm i<nx:=by obtain⟨q,b⟩:=p.mA a;exact(e _ _ b).1
def PQ.nR(p:PQ kp d st nm P c h)(s:Int):PQ kp d st nm { P with size:=s } c (ug h kp<|.row (tX d st { P with size:=s }) 83):=by
 have b:∀k,k≠kp->gt (ug h kp<|.row (tX d st { P with size:=s }) 83) k=gt h k:=fun k f=>by rw[bV,hF<|WV f]
 refine⟨by rw[bV,lr rfl,p.b5];rfl,by rw[b _ p.mY];exact p.roots,fun i x a e=>?_,fun i x a e=>?_,p.inj,p.wf,p.rt⟩;rw[b _<|p.jO (zG.1 a).1];exact p.node i x a e;rw[b _<|p.jO (zG.1 a).1];exact p.l5 i x a e
def PQ.lH(p:PQ kp d st nm P c h){c':Nat}{x y:PN}(A:P.N[i]? = some x)(D:i<c')(s:∀j,j≠i->(j<c↔j<c'))(C:lQ P.N.length y)(u:gt H (nm i)=some (.row (pZ nm y) 103))(l:∀k b,gt h k=some b->k≠nm i->gt H k=some b):PQ kp d st nm { P with N:=P.N.set i y } c' H:=by
 have m:i<P.N.length:=(zG.1 A).1;have key:∀j z,(P.N.set i y)[j]? = some z->j≠i->P.N[j]? = some z/\nm j≠nm i:=fun j z f g=>by rw[ja,hF<|WV g]at f;exact⟨f,fun e=>g<|p.inj _ _ (zG.1 f).1 m e⟩
 refine⟨l _ _ p.b5<|WV<|p.jO m,l _ _ p.roots<|WV<|p.rF m,fun j z f g=>?_,fun j z f g=>?_,fun a b v w=>p.inj a b (by simpa using v) (by simpa using w),fun z f=>?_,fun r E=>by simpa using p.rt r E⟩;by_cases e:j=i;subst e;have f:(P.N.set j y)[j]? = some z:=f;rw[ja,lr rfl,lr m]at f;cases f;exact u;obtain⟨n,o⟩:=key j z f e;exact l _ _ (p.node j z n<|(s j e).2 g) o;have e:j≠i:=by omega
 obtain⟨n,o⟩:=key j z f e;have q:=p.l5 j z n (by have:=s j e;omega);exact⟨l _ _ q.1 o,q.2⟩;have t:(P.N.set i y).length=P.N.length:=by simp
 show lQ (P.N.set i y).length z;rw[t];obtain f |rfl:=H_ f;exact p.wf z f;exact C
def qzl{a:Nat->Nat}{n:Nat}(h:∀k,k<n->a k=nm k){x:PN}(w:lQ n x)(u:U):sY a x u=sY nm x u:=by simp only[sY,U.iM];rw[Vq h w.more,Uz h w.fw,Uz h w.cp]
def PQ.add(p:PQ kp d st nm P c h)(t:qA ⟨h,nx⟩)(u:c<=P.N.length)(k:Int)(s:gt H nx=some (.row (sY (wE nm P.N.length nx) (iD k []) .J) 103))(m:∀k b,gt h k=some b->gt H k=some b):PQ kp d st (wE nm P.N.length nx) { P with N:=P.N++[iD k []] } c H:=by
 have q:∀i,i<P.N.length->nm i<nx:=fun i a=>p.lt t a;have n:(P.N++[iD k []]).length=P.N.length+1:=by simp
 have key:∀i x,(P.N++[iD k []])[i]? = some x->(i<P.N.length/\P.N[i]? = some x)\/(i=P.N.length/\x=iD k []):=fun i x f=>by
  obtain a |a:=Zd i P.N.length;rw[mc a]at f;exact .inl ⟨a,f⟩;have v:=(zG.1 f).1;have:i=P.N.length:=by omega
  subst this;rw[mu<|zF _]at f;simp at f;exact .inr ⟨rfl,f.symm⟩
 refine⟨m _ _ p.b5,?_,fun i x f a=>?_,fun i x f a=>?_,fun i j a g e=>?_,fun x f=>?_,fun r w=>?_⟩;rw[m _ _ p.roots];show some (B.vec (P.roots.map _).flatten _ _ _)=some (B.vec (P.roots.map _).flatten _ _ _);rw[qsi (nm:=nm) (xZ (nm:=nm)) p.rt];obtain⟨o,l⟩|⟨rfl,rfl⟩:=key i x f;rw[xZ i o,m _ _<|p.node i x l a,qsh xZ<|p.wf x<|zX l];omega;obtain⟨o,l⟩|⟨rfl,rfl⟩:=key i x f;rw[xZ i o,m _ _ (p.l5 i x l a).1,qzl xZ<|p.wf x<|zX l];exact⟨rfl,(p.l5 i x l a).2⟩;rw[Bv];exact⟨s,rfl⟩;have a:i<(P.N++[iD k []]).length:=a;have g:j<(P.N++[iD k []]).length:=g;rw[n]at a g;obtain a |rfl:=Nat.lt_succ_iff_lt_or_eq.1 a<;>obtain g |rfl:=Nat.lt_succ_iff_lt_or_eq.1 g;rw[xZ i a,xZ j g]at e;exact p.inj i j a g e;rw[xZ i a,Bv]at e;have:=q i a;omega;rw[xZ j g,Bv]at e;have:=q j g;omega;rfl;show lQ (P.N++[iD k []]).length x;rw[n];obtain f |f:=yD.1 f;exact(p.wf x f).le (MD _);simp at f;subst f;exact⟨nofun,trivial,nofun,trivial⟩;show r<(P.N++[iD k []]).length;rw[n];exact Ze (p.rt r w)
end
end Go.Proofs
namespace Go.Proofs
open Go Go.Rx Go.Vx Tryz
def W0(g:Int):X Nat->X PN->Int->V (X PN×Int)
 |[],N,s=>some (N,s)|p::l,N,s=>a8 N[p]? fun x=>cond (C0 g x)
   (W0 g l ((N++[iD (iF g x) []]).set p { x with cp:=some N.length,c6:=g })<|i64.wrap<|s+1)
   (W0 g l (N.set p { x with cp:=some p,c6:=g }) s)
def IL(g:Int)(x:PN):V Nat:=cond (x.c6 != g) none x.cp
def Z6(N:X PN)(g:Int)(n:Nat):X eN->X eN->V (X eN)
 |[],d=>some d|a::l,d=>a8 (uX N g n a.to) fun r=>a8 N[r]? fun y=>a8 (IL g y) fun q=>aE (d.length<=1000000) (Z6 N g n l<|d++[⟨a.f,q⟩])
def RY(g:Int)(n:Nat):X Nat->X PN->Nat->V (X PN)
 |[],N,c=>aE (c=N.length) (some N)|p::l,N,c=>a8 N[p]? fun x=>a8 (IL g x) fun q=>cond (Nat.beq q p) (RY g n l N c)
   (a8 N[q]? fun y=>aE (q=c/\p<c/\(bY g x).length<=1000000)<|a8 (Z6 N g n (bY g x) []) fun d=>a8 (JW d) fun a=>RY g n l (N.set q { y with E3:=a })<|c+1)
def Lf(g:Int)(n:Nat)(N:X PN)(s:Int)(i:Nat):V (Nat×X PN×Int):=
 a8 (Z5 N g n n 0 [i]) fun l=>a8 (Rn g n l N) fun b=>a8 (W0 g l b s) fun r=>a8 (RY g n l r.1 N.length) fun a=>a8 a[i]? fun x=>a8 (IL g x) fun q=>some (q,a,r.2)
section
variable{kp A st c:Nat}{nm:Nat->Nat}{P:PP}{h:X (Nat×B)}{nx:Nat}{i:Nat}{x:PN}
def z7z(p:PF kp A st nm P h)(f:P.N[i]? = some x):b7 prog 70 [.ptr kp 0 0,pt nm i] ⟨h,nx⟩ (fun u d=>u=.i6 (iF P.gen x)/\d=⟨h,nx⟩):=by
 haveI:=p.gp
 obtain⟨u,e⟩:=p.gn f
 haveI:=e
 refine eO 25 B5 ?_;refine goN ?_;refine dE [] ?_;refine cC ?_;refine dN rfl (fun s=>kc s x.mt x.b8 P.gen) M9 ?_;refine cC ?_;refine bB ⟨by kernel_rfl,trivial,?_⟩;refine goN ?_;refine eE rfl (fun a=>?_) (fun a=>?_);refine goN ?_;have b:(x.b8 != P.gen)=false:=by simpa using a
 exact EB rfl rfl rfl (zF _) ⟨by rw[iF,b];rfl,rfl⟩;refine goN ?_;have b:(x.b8 != P.gen)=true:=by simpa using a
 exact EB rfl rfl rfl (zF _) ⟨by rw[iF,b];rfl,rfl⟩
def z6u(p:PQ kp A st nm P c h)(d:P.N[i]? = some x)(m:i<c)(q:(bY P.gen x).length<=1000000):b7 prog 72 [.ptr kp 0 0,pt nm i] ⟨h,nx⟩ (fun u j=>u=.iM (bZ nm) (bY P.gen x)/\j=⟨h,nx⟩):=by
 refine b7.wf fun b _=>?_;have f:=Nh (nm:=nm) (n:=nx) _ fun a l=>p.lt b<|Q9 (g:=P.gen) (p.wf x<|zX d) a l;rw[bY,zU]at q
 haveI:=p.pf.gp
 haveI:eK h (nm i) (.row [.i6 x.kind,.iM (bZ nm) x.E3,po nm x.fw,.i6 x.c3,.i6 x.mt,.i6 x.b8,.iM (bZ nm) x.more,.i6 x.K2,po nm x.cp,.i6 x.c6,.bool x.ch,.i6 x.c4] 103):=⟨p.node i x d m⟩
 refine eO 26 GN ?_;refine goN ?_;refine dE [] ?_;refine cC ?_;refine dN rfl (fun s=>SY s nm x.more x.K2 P.gen) B8 ?_;refine cC ?_;refine bB ⟨by kernel_rfl,trivial,?_⟩;refine goN ?_;refine j8 rfl (hJ rfl F3 rfl).2 (qq5 h nx nm x.E3 af) rfl rfl ?_;rintro _ _ ⟨rfl,rfl⟩;refine goN ?_;refine RS.w rfl (wS (c:=bZ nm) (xs:=x.E3) (ys:=iC P.gen x) rfl rfl rfl rfl rfl rfl rfl rfl ⟨by omega,by omega⟩) ?_;refine goN ?_;refine⟨.inr rfl,_,dP rfl dU,_,⟨h,nx⟩,zF _,Rm (c:=bZ nm) (xs:=bY P.gen x) (e:=107) (sz:=2) (K:=nx) (st:=1) b (zF _) (by simp[aR,bY]) (fun k o=>kF o) (MD _) (tm':=[.iM (bZ nm)<|bY P.gen x]) ?_ (by simp only[aH,aW,cO];exact f)<|zF _,rfl,rfl⟩;exact congrArg (fun u=>[u]) (HL (c:=bZ nm) (sz:=2) (fun _=>rfl) (bY P.gen x) nx 2 107 1)
structure rY(kp A st:Nat)(nm:Nat->Nat)(P:PP)(h:X (Nat×B))(nx:Nat)(nm1:Nat->Nat)(N:X PN)(s:Int)(c:Nat)(H:X (Nat×B))(M:Nat):Prop where
 ph:PQ kp A st nm1 { P with N:=N,size:=s } c H
 l6:∀k,k<P.N.length->nm1 k=nm k
 new:∀k,P.N.length<=k->k<N.length->nx<=nm1 k
 fr:∀k,k<nx->k≠kp->(∀i,i<P.N.length->nm i≠k)->gt H k=gt h k
 le:nx<=M
 len:P.N.length<=N.length
 cl:P.N.length<=c
def Va{g:Int}{q:Nat}(h:IL g x=some q):(x.c6 != g)=false/\x.cp=some q:=by unfold IL at h;rcases a:x.c6 != g with _|_;rw[a]at h;exact⟨rfl,h⟩;rw[a]at h;cases h
def Qg{N:X PN}{g:Int}{n:Nat}:∀{l:X eN}{o e:X Nat},UT N g n l o=some e->(∀k∈o,k<N.length)->∀k∈e,k<N.length
 |[],o,e,h,d=>by obtain rfl:=sI h;exact d
 |a::l,o,e,h,d=>by
  obtain⟨q,j,h⟩:=aJ h;cases f:o.contains q with
  |true=>rw[f]at h;exact Qg h d|false=>
   rw[f]at h;obtain⟨_,h⟩:=bU h;refine Qg h fun k b=>?_;obtain b |b:=yD.1 b
   exact d k b;simp at b;subst b;exact tw j
def z48{N:X PN}{g:Int}{n:Nat}:∀{m i:Nat}{o a:X Nat},Z5 N g n m i o=some a->(∀k∈o,k<N.length)->∀k∈a,k<N.length
 |0,i,o,a,h,b=>by cases h
 |m+1,i,o,a,h,b=>by
  change cond (decide (i<o.length)) _ _=some a at h;cases d:decide (i<o.length)with
  |false=>rw[d]at h;obtain rfl:=sI h;exact b
  |true=>rw[d]at h;obtain⟨p,_,h⟩:=aJ h;obtain⟨x,_,h⟩:=aJ h;obtain⟨_,h⟩:=bU h;obtain⟨f,e,h⟩:=aJ h;exact z48 h (Qg e b)
def F!{N:X PN}{g:Int}{n m:Nat}(k:∀x∈N,lQ m x):∀{l d f:X eN},Z6 N g n l d=some f->(∀a∈d,a.to<m)->∀a∈f,a.to<m
 |[],d,f,h,j=>by obtain rfl:=sI h;exact j
 |a::l,d,f,h,j=>by
  obtain⟨r,_,h⟩:=aJ h;obtain⟨y,p,h⟩:=aJ h;obtain⟨q,o,h⟩:=aJ h;obtain⟨_,h⟩:=bU h;refine F! k h fun b e=>?_;obtain e |e:=yD.1 e
  exact j b e;simp at e;subst e;have:=(k y<|zX p).cp;rw[(Va o).2]at this;exact this
def zby(p:PH kp A st nm P h)(n:Nat)(hi:i<P.N.length){r:Nat×X PN×Int}(O:Lf P.gen n P.N P.size i=some r):
  b7 prog 46 [.ptr kp 0 0,pt nm i] ⟨h,nx⟩ (fun u Y'=>∃H M g,u=pt g r.1/\Y'=⟨H,M⟩/\rY kp A st nm P h nx g r.2.1 r.2.2 r.2.1.length H M/\r.1<r.2.1.length):=by
 refine b7.wf fun v7 _=>?_;obtain⟨l,h1,N1,h2,r1,h3,N3,h4,O⟩:=tD O;obtain⟨J,h5,q3,h6,O⟩:=bO O;obtain rfl:=sI O;have hl:∀i∈l,i<P.N.length:=z48 h1 (by simpa using hi);obtain⟨tQ,_⟩:=bU h2;refine eO 146 yj ?_;refine goN ?_;refine aM rfl (z8t p n hi h1) vz ?_;refine goN ?_;refine j8 rfl (hJ rfl vt rfl).2 (zcf p n hl h2) rfl rfl ?_;rintro _ _ ⟨H1,M1,rfl,rfl,nO,o4,AH,AQ⟩;refine goN ?_;have c1:rY kp A st nm P h nx nm N1 P.size P.N.length H1 M1:=⟨by have:=nO.pq;rw[show({ P with N:=N1 }:PP).N.length=P.N.length from o4]at this;exact this,fun _ _=>rfl,fun k a b=>af,fun k a _ b=>AQ k a b,AH,by omega,zF _⟩;refine gL (fun m W Y=>∃(t:Nat)(g:Nat->Nat)(N:X PN)(s:Int)(H:X (Nat×B))(M:Nat),m=l.length-t/\t<=l.length/\W0 P.gen (l.drop t) N s=some r1/\W=fr 146 [(0,.ptr kp 0 0),(1,pt nm i),(5,.iM (eD nm) l),(27,.iM (eD nm) l),(28,.i6 l.length),(29,.i6 t)]/\Y=⟨H,M⟩/\rY kp A st nm P h nx g N s P.N.length H M)
  (fun W Y=>∃(g:Nat->Nat)(H:X (Nat×B))(M:Nat),W=fr 146 [(0,.ptr kp 0 0),(1,pt nm i),(5,.iM (eD nm) l)]/\Y=⟨H,M⟩/\rY kp A st nm P h nx g r1.1 r1.2 P.N.length H M) l.length
  ⟨0,nm,N1,P.size,H1,M1,rfl,qq _,h3,rfl,rfl,c1⟩ ?_ ?_ AH
 ·rintro _ _ ⟨g,H,M,rfl,rfl,hm⟩;refine goN ?_;refine gL (fun m W Y=>∃(t:Nat)(N:X PN)(c:Nat)(H:X (Nat×B))(M:Nat),m=l.length-t/\t<=l.length/\RY P.gen n (l.drop t) N c=some N3/\W=fr 146 [(0,.ptr kp 0 0),(1,pt nm i),(69,.iM (eD nm) l),(70,.i6 l.length),(71,.i6 t)]/\Y=⟨H,M⟩/\rY kp A st nm P h nx g N r1.2 c H M) (fun W Y=>∃(H:X (Nat×B))(M:Nat),W=fr 146 [(0,.ptr kp 0 0),(1,pt nm i)]/\Y=⟨H,M⟩/\rY kp A st nm P h nx g N3 r1.2 N3.length H M) l.length
   ⟨0,r1.1,P.N.length,H,M,rfl,qq _,h4,rfl,rfl,hm⟩ ?_ ?_ hm.le
  rintro _ _ ⟨H,M,rfl,rfl,hm⟩;obtain⟨hza,E_⟩:=Va h6;have kZ:i<N3.length:=(zG.1 h5).1;have Z:=hm.ph.node i J h5 kZ
  haveI:eK H (g i) (.row [.i6 J.kind,.iM (bZ g) J.E3,po g J.fw,.i6 J.c3,.i6 J.mt,.i6 J.b8,.iM (bZ g) J.more,.i6 J.K2,po g J.cp,.i6 J.c6,.bool J.ch,.i6 J.c4] 103):=⟨Z⟩
  haveI:=hm.ph.pf.gp
  rw[show pt nm i=pt g i by rw[pt,pt,hm.l6 i hi]];refine goN ?_;refine dE [] ?_;refine cC ?_;refine dN rfl (Bk (v:=pt g q3) hza (by rw[E_];rfl)) B0 ?_;refine cC ?_;refine bB ⟨by kernel_rfl,trivial,?_⟩;refine goN ?_;refine EB rfl rfl rfl hm.le ⟨H,M,g,rfl,rfl,hm,?_⟩;have:=(hm.ph.wf J<|zX h5).cp;rw[E_]at this;exact this;rintro _ _ _ ⟨t,N,c,H,M,rfl,ht,w,rfl,rfl,hm⟩;refine goN ?_;refine eE rfl (fun h7=>?_) (fun h7=>?_)
  ·have G:t<l.length:=by simpa using h7
   obtain⟨q,V⟩:∃a,l[t]? = some a:=⟨_,lq G⟩;have m6:aB l (t:Int)=some q:=by rw[aB,lr ⟨by omega,by omega⟩];simpa using V
   have yG:l.drop t=q::l.drop (t+1):=by rw[Zq G];rw[lq G]at V;cases V;rfl
   have kW:i64.wrap ((t:Int)+1)=((t+1:Nat):Int):=by rw[oX af af];rfl
   rw[yG]at w;obtain⟨x,I,w⟩:=aJ w;obtain⟨q2,tM,w⟩:=aJ w;obtain⟨hca,SL⟩:=Va tM;have L:=hl q<|zX V;have WY:q<c:=YR L hm.cl;have y9:eD nm q=eD g q:=by simp only[eD,pt,hm.l6 q L]
   have Z:=hm.ph.node q x I WY;have R:lQ N.length x:=hm.ph.wf x<|zX I;have L3:q2<N.length:=by have:=R.cp;rw[SL]at this;exact this
   have Gr:q<N.length:=(zG.1 I).1;obtain⟨w1,hw1r⟩:=hm.ph.mA Gr;obtain⟨w2,hw2r⟩:=hm.ph.mA L3
   haveI:eK H (g q) (.row [.i6 x.kind,.iM (bZ g) x.E3,po g x.fw,.i6 x.c3,.i6 x.mt,.i6 x.b8,.iM (bZ g) x.more,.i6 x.K2,po g x.cp,.i6 x.c6,.bool x.ch,.i6 x.c4] 103):=⟨Z⟩
   haveI:=hm.ph.pf.gp
   refine goN ?_;apply cK;refine goN ?_;refine c8 m6 ?_;rw[y9];refine goN ?_;refine dE [] ?_;refine cC ?_;refine dN rfl (Bk (v:=pt g q2) hca (by rw[SL];rfl)) B0 ?_;refine cC ?_;refine bB ⟨by kernel_rfl,trivial,?_⟩;refine goN ?_;refine DY rfl (fY.peq bQ rfl (.inl rfl) iP.h (aV nW.h) (dY rfl) (dY rfl) hw2r hw1r) ?_;rintro _ _ ⟨rfl,rfl⟩;have AV:Nat.beq (g q2) (g q)=Nat.beq q2 q:=by rw[beq_eq,beq_eq];by_cases e:q2=q;simp[e];have:g q2≠g q:=fun h=>e<|hm.ph.inj q2 q L3 Gr h;simp[e,this]
   rw[lr rfl,AV];refine goN ?_;refine eE rfl (fun h8=>?_) (fun h8=>?_)
   ·rw[h8]at w;refine goN ?_;refine⟨l.length-(t+1),_,_,by omega,⟨t+1,_,_,_,M,rfl,G,w,rfl,rfl,hm⟩,hm.le,Gh.sub ?_⟩;rw[<-kW];(repeat refine⟨rfl,?_⟩);exact trivial
   rw[h8]at w;obtain⟨y,hy,w⟩:=aJ w;obtain⟨⟨rfl,_,mX⟩,w⟩:=bU w;obtain⟨d,hd,w⟩:=aJ w;obtain⟨d',bH,w⟩:=aJ w;obtain⟨OO,OP⟩:=hm.ph.l5 q2 y hy<|zF _;refine goN ?_;refine aM rfl (z6u hm.ph I WY mX) GN ?_;refine goN ?_;refine I6.wf fun S Y_=>?_;refine cD (xK (g q2) 1 107 2 bF hm.le OO rfl) (Zu hm.le) ?_;have vA:kp<M:=(S _ _ hm.ph.b5).1;have hyM:g q2<M:=(S _ _ OO).1;have hkq:g q2≠kp:=hm.ph.jO L3;refine gL (fun m W Y=>∃(j:Nat)(d1:X eN)(s:Nat)(C:X (Nat×B))(o:Nat),m=(bY P.gen x).length-j/\j<=(bY P.gen x).length/\Z6 N P.gen n ((bY P.gen x).drop j) d1=some d/\W=fr 146 [(0,.ptr kp 0 0),(1,pt nm i),(13,pt g q2),(69,.iM (eD nm) l),(70,.i6 l.length),(71,.i6 t),(92,.iM (bZ g)<|bY P.gen x),(93,.i6 (bY P.gen x).length),(94,.i6 j)]/\Y=⟨C,o⟩/\M<o/\gt C M=some (.bv (bZ g) d1 107 2 s)/\gt C (g q2)=some (.row (sY g y<|.vl M s 0 d1.length) 103)/\∀k,k<M->k≠g q2->gt C k=gt H k)
    (fun W Y=>∃(s:Nat)(C:X (Nat×B))(o:Nat),W=fr 146 [(0,.ptr kp 0 0),(1,pt nm i),(13,pt g q2),(69,.iM (eD nm) l),(70,.i6 l.length),(71,.i6 t)]/\Y=⟨C,o⟩/\M<o/\gt C M=some (.bv (bZ g) d 107 2 s)/\gt C (g q2)=some (.row (sY g y<|.vl M s 0 d.length) 103)/\∀k,k<M->k≠g q2->gt C k=gt H k) (bY P.gen x).length
    ⟨0,[],0,_,M+1,rfl,qq _,hd,rfl,rfl,zN _,by rw[bV,hF af];simp[bE,aR],by rw[bV,lr rfl];simp only[bE];rw[aR,hF af,OO];rfl,fun k F kY=>by rw[bV,hF<|WV kY];simp only[bE];rw[aR,hF af]⟩ ?_ ?_ (Zu hm.le)
   ·rintro _ _ ⟨s,C,o,rfl,rfl,jq,hv,C3,fW⟩
    haveI:eK C (g q2) (.row [.i6 y.kind,.vl M s 0 d.length,po g y.fw,.i6 y.c3,.i6 y.mt,.i6 y.b8,.iM (bZ g) y.more,.i6 y.K2,po g y.cp,.i6 y.c6,.bool y.ch,.i6 y.c4] 103):=⟨C3⟩
    refine goN ?_;refine j8 rfl (hJ rfl vr rfl).2 (At (nm:=g) bH hv) rfl rfl ?_;rintro _ _ ⟨H2,rfl,rfl,vU,SG⟩;refine goN ?_;have LI:d.length=d'.length:=by obtain⟨_,_,rfl⟩:=qkz bH;exact(QE _ d).length_eq.symm
    have EY:∀k,k<N.length->g k<M:=fun k F=>hm.ph.lt S F;have GD:lQ N.length y:=hm.ph.wf y<|zX hy;have gtfz:∀k,k<M->k≠g q2->gt (dd M (.bv (bZ g) d' 107 2 s) 2 H2) k=gt H k:=fun k F kY=>by rw[D0,hF af,SG k af];show Option.map _ (gt C k)=_;rw[fW k F kY];rcases V:gt H k with _|b';rfl;simp only[zM];rw[Mr _ _ (S k b' V).2]
    have ID:rY kp A st nm P h nx g (N.set q2 { y with E3:=d' }) r1.2 (q2+1) (dd M (.bv (bZ g) d' 107 2 s) 2 H2) o:=by refine⟨hm.ph.lH hy (zN _) (fun j hj=>af) ⟨fun a E=>?_,GD.fw,GD.more,GD.cp⟩ ?_ fun k b D F=>by rw[gtfz k (S k b D).1 F];exact D,hm.l6,fun k a b=>hm.new k a (by simpa using b),fun k a b e=>?_,by have:=hm.le;omega,by simpa using hm.len,Zu hm.cl⟩;exact F! hm.ph.wf hd nofun a ((qyd bH a).1 E);rw[D0,hF af,SG _ af];show Option.map _ (gt C<|g q2)=_;rw[C3];have e1:=HL (c:=bZ g) (sz:=2) (fun _=>rfl) d' M 2 107 s;rw[<-LI]at e1;simp only[zM,ek,sY,v6,y3,FS,JJ,O0,Q5 _ _ _<|Me EY GD.fw,Q5 _ _ _<|Me EY GD.cp];rw[e1];rfl;rw[gtfz k (by have:=hm.le;omega) fun e2=>by have:=hm.new q2 hm.cl L3;omega];exact hm.fr k a b e
    refine⟨l.length-(t+1),_,_,by omega,⟨t+1,_,q2+1,_,o,rfl,G,w,rfl,rfl,ID⟩,by have:=hm.le;show nx<=o;omega,Gh.trans (Gh.sub ?_)<|Gh.fz (Y:=⟨H2,o⟩) M (.bv (bZ g) d' 107 2 s) 2 vU nofun (vS _ _ _<|Cd ?_) rfl⟩
    ·rw[<-kW];(repeat refine⟨rfl,?_⟩);exact trivial
    simp only[ei,aW,cO,dG];refine⟨vA,?_,?_⟩;rw[<-hm.l6 i hi];exact EY i<|YR hi hm.len;rw[Ni];intro c hc;obtain⟨a,E,rfl⟩:=mem_map.1 hc;simp only[eD,pt,aH,aW,cO];rw[<-hm.l6 a (hl a E)];exact EY a (YR (hl a E) hm.len)
   rintro _ _ _ ⟨j,d1,s,C,o,rfl,hj,Q,rfl,rfl,jq,hv,C3,fW⟩;refine I6.wf fun nM hbt2=>?_
   haveI:ca o (o+1):=⟨rfl⟩
   haveI:ca (o+1) (o+2):=⟨rfl⟩
   have hpf:PF kp A st g { P with N:=N,size:=r1.2 } C:=⟨by rw[fW kp vA<|WV hkq];exact hm.ph.b5,fun k z hz=>by
    by_cases e:k=q2;subst e;have:y=z:=by rw[show N[k]? = some z from hz]at hy;cases hy;rfl
    subst this;exact⟨_,C3⟩;have Qs:k<N.length:=(zG.1 hz).1;rw[fW _ (hm.ph.lt S Qs) fun e2=>e<|hm.ph.inj _ _ Qs L3 e2];exact hm.ph.row hz⟩
   refine goN ?_;refine eE rfl (fun h9=>?_) (fun h9=>?_)
   ·have j0:j<(bY P.gen x).length:=by simpa using h9
    obtain⟨a,E⟩:∃a,(bY P.gen x)[j]? = some a:=⟨_,lq j0⟩;have DP:aB (bY P.gen x) (j:Int)=some a:=by rw[aB,lr ⟨by omega,by omega⟩];simpa using E
    have LH:(bY P.gen x).drop j=a::(bY P.gen x).drop (j+1):=by rw[Zq j0];rw[lq j0]at E;cases E;rfl
    have DF:i64.wrap ((j:Int)+1)=((j+1:Nat):Int):=by rw[oX af af];rfl
    rw[LH]at Q;obtain⟨r,hr,Q⟩:=aJ Q;obtain⟨z,hz,Q⟩:=aJ Q;obtain⟨q4,hq4,Q⟩:=aJ Q;obtain⟨LI,Q⟩:=bU Q;obtain⟨hza,E_⟩:=Va hq4;have Gs:PF kp A st g { P with N:=N,size:=r1.2 } ((o,.row (bZ g a) 107)::C):=⟨by rw[kF af];exact hpf.b5,fun k z hz=>by obtain⟨u,hu⟩:=hpf.node k z hz;exact⟨u,by rw[kF (nM _ _ hu).1];exact hu⟩⟩
    haveI:=Gs.gp
    obtain⟨u5,hu5⟩:=Gs.gn hz
    haveI:=hu5
    refine goN ?_;apply cK;refine goN ?_;refine c8 DP ?_;refine goN ?_;refine dE [] ?_;refine cC ?_;refine RD.call rfl (hJ rfl B6 rfl).2 (z7s Gs n hr) rfl rfl ?_;refine cC ?_;refine dN rfl (Bk (v:=pt g q4) hza (by rw[E_];rfl)) B0 ?_;refine cC ?_;refine bB ⟨by kernel_rfl,trivial,?_⟩;have hyM2:g q2<o:=by omega
    haveI:Nq o (g q2):=⟨by rw[beq_eq];simp;omega⟩
    haveI:Nq (o+1) (g q2):=⟨by rw[beq_eq];simp;omega⟩
    haveI:Nq (o+1) o:=⟨by rw[beq_eq];simp⟩
    haveI:eK C (g q2) (.row [.i6 y.kind,.vl M s 0 d1.length,po g y.fw,.i6 y.c3,.i6 y.mt,.i6 y.b8,.iM (bZ g) y.more,.i6 y.K2,po g y.cp,.i6 y.c6,.bool y.ch,.i6 y.c4] 103):=⟨C3⟩
    refine goN ?_;refine dE [(0,9),(0,10),(1,9),(2,9),(3,9),(4,9)] ?_;refine cC ?_;refine dM ?_;have wW:gt ((o+1,.row [.i6 a.f,pt g q4] 107)::(o,.row (bZ g a) 107)::C) M=some (.vec (d1.map<|bZ g).flatten 107 2 s):=by rw[aR,hF af,aR,hF af];exact hv
    refine RD.act rfl (qV rfl rfl rfl rfl (ED (bZ g) [⟨a.f,q4⟩] FH.h FH.h EL.h rfl (fun _=>rfl) wW (FU (bZ g) [⟨a.f,q4⟩] (q:=[.i6 a.f,pt g q4]) (by simp[rowOf,aR]) rfl rfl rfl) ⟨by simp;omega,by simp;omega⟩)) rfl rfl ?_
    let v08:B:=.vec (List.map (bZ g)<|d1++[⟨a.f,q4⟩]).flatten 107 2 (s+1)
    let T:X (Nat×B):=(o+1,.row [.i6 a.f,pt g q4] 107)::(o,.row (bZ g a) 107)::C
    haveI:eK (ug T M v08) (g q2) (.row [.i6 y.kind,.vl M s 0 d1.length,po g y.fw,.i6 y.c3,.i6 y.mt,.i6 y.b8,.iM (bZ g) y.more,.i6 y.K2,po g y.cp,.i6 y.c6,.bool y.ch,.i6 y.c4] 103):=⟨by rw[bV,hF af];simp only[T];rw[aR,hF af,aR,hF af];exact C3⟩
    refine cC ?_;refine qB ?_;refine bB ⟨by kernel_rfl,⟨L6,L6,L6,L6,L6,L6,trivial⟩,?_⟩;refine goN ?_;refine⟨(bY P.gen x).length-(j+1),_,_,by omega,⟨j+1,d1++[⟨a.f,q4⟩],s+1,_,o+2,rfl,j0,Q,rfl,rfl,by omega,?_,?_,fun k F kY=>?_⟩,by have:=hm.le;show nx<=o+2;omega,Gh.sub ?_⟩;rw[bV,hF af,bV,lr rfl];show Option.map _ (gt ((o+1,_)::(o,_)::C) M)=_;rw[wW];rfl;rw[bV,lr rfl,bV,hF af];show Option.map _ (gt ((o+1,_)::(o,_)::C)<|g q2)=_;rw[aR,hF af,aR,hF af,C3];rfl;rw[bV,hF<|WV kY,bV,hF af];show gt ((o+1,_)::(o,_)::C) k=_;rw[aR,hF af,aR,hF af];exact fW k F kY
    ·rw[<-DF];(repeat refine⟨rfl,?_⟩);exact trivial
   ·refine goN ?_;have j0:j=(bY P.gen x).length:=by
     have:¬ (j:Int)<(bY P.gen x).length:=by simpa using h9
     omega
    subst j0;rw[pw]at Q;obtain rfl:=sI Q;exact⟨_,_,⟨s,C,o,rfl,rfl,jq,hv,C3,fW⟩,by have:=hm.le;show nx<=o;omega,Gh.sub<|by((repeat refine⟨rfl,?_⟩);exact trivial)⟩
  ·refine goN ?_;have G:t=l.length:=by
    have:¬ (t:Int)<l.length:=by simpa using h7
    omega
   subst G;rw[pw]at w;obtain⟨hc,w⟩:=bU w;obtain rfl:=sI w;subst hc;exact⟨_,_,⟨H,M,rfl,rfl,hm⟩,hm.le,Gh.sub<|by((repeat refine⟨rfl,?_⟩);exact trivial)⟩
 rintro _ _ _ ⟨t,g,N,s,H,M,rfl,ht,w,rfl,rfl,hm⟩;refine goN ?_;refine eE rfl (fun h7=>?_) (fun h7=>?_)
 ·have G:t<l.length:=by simpa using h7
  obtain⟨q,V⟩:∃a,l[t]? = some a:=⟨_,lq G⟩;have m6:aB l (t:Int)=some q:=by rw[aB,lr ⟨by omega,by omega⟩];simpa using V
  have yG:l.drop t=q::l.drop (t+1):=by rw[Zq G];rw[lq G]at V;cases V;rfl
  have kW:i64.wrap ((t:Int)+1)=((t+1:Nat):Int):=by rw[oX af af];rfl
  rw[yG]at w;obtain⟨x,I,w⟩:=aJ w;have L:=hl q<|zX V;have y9:eD nm q=eD g q:=by simp only[eD,pt,hm.l6 q L]
  have Z:=hm.ph.node q x I L
  haveI:eK H (g q) (.row [.i6 x.kind,.iM (bZ g) x.E3,po g x.fw,.i6 x.c3,.i6 x.mt,.i6 x.b8,.iM (bZ g) x.more,.i6 x.K2,po g x.cp,.i6 x.c6,.bool x.ch,.i6 x.c4] 103):=⟨Z⟩
  have O_:g q≠kp:=hm.ph.jO (zG.1 I).1
  haveI:Nq (g q) kp:=⟨by rw[beq_eq];simpa using O_⟩
  haveI:Nq kp (g q):=⟨by rw[beq_eq];simpa using O_.symm⟩
  haveI:=hm.ph.pf.gp
  refine goN ?_;apply cK;refine goN ?_;refine c8 m6 ?_;rw[y9];refine goN ?_;refine dE [] ?_;refine cC ?_;refine dN rfl (fun s=>Ik s x.ch x.c4 P.gen) T3 ?_;refine cC ?_;refine bB ⟨by kernel_rfl,trivial,?_⟩;refine goN ?_;refine eE rfl (fun h8=>?_) (fun h8=>?_)
  ·rw[show C0 P.gen x=true from h8]at w;refine I6.wf fun S Y_=>?_;have R:lQ N.length x:=hm.ph.wf x (zX I)
   haveI:ca M (M+1):=⟨rfl⟩
   have vA:kp<M:=(S _ _ hm.ph.b5).1;have hqM:g q<M:=(S _ _ Z).1
   haveI:Nq M kp:=⟨by rw[beq_eq];simp;omega⟩
   haveI:Nq M (g q):=⟨by rw[beq_eq];simp;omega⟩
   refine goN ?_;refine aM rfl (z7z hm.ph.pf I) B5 ?_;refine goN ?_
   let s':=i64.wrap (s+1)
   let R0:B:=.row [.i6<|iF P.gen x,.J,.b6,.i6 0,.i6 0,.i6 0,.J,.i6 0,.b6,.i6 0,.bool false,.i6 0] 103
   let R1:B:=.row (tX A st { P with N:=N,size:=s' }) 83
   let x':PN:={ x with cp:=some N.length,c6:=P.gen }
   change RU _ _ _ _ _ (Sg.mk ((M,R0)::ug H kp R1)<|M+1) _
   haveI:eK (ug H kp R1) kp (.row [.iM hZ P.H.Types,.iM jC P.H.E6,.vl A st 0 P.roots.length,.i6 s',.i6 P.gen] 83):=⟨by rw[bV,lr rfl,hm.ph.b5];rfl⟩
   haveI:eK (ug H kp R1) (g q) (.row [.i6 x.kind,.iM (bZ g) x.E3,po g x.fw,.i6 x.c3,.i6 x.mt,.i6 x.b8,.iM (bZ g) x.more,.i6 x.K2,po g x.cp,.i6 x.c6,.bool x.ch,.i6 x.c4] 103):=⟨by rw[bV,hF<|WV O_];exact Z⟩
   refine goN ?_;have ID:rY kp A st nm P h nx (wE g N.length M) ((N++[iD (iF P.gen x) []]).set q x') s' P.N.length ((M,.row (sY (wE g N.length M) (iD (iF P.gen x) []) .J) 103)::ug (ug H kp R1) (g q) (.row (pZ (wE g N.length M) x') 103)) (M+1):=by
    have AA:(N++[iD (iF P.gen x) []])[q]? = some x:=by rw[mc (zG.1 I).1];exact I
    have hql2:q<N.length:=(zG.1 I).1;have q1:=hm.ph.add (H:=(M,.row (sY (wE g N.length M) (iD (iF P.gen x) []) .J) 103)::H) S hm.len (iF P.gen x) (by simp[aR]) fun k b D=>by rw[kF (S k b D).1];exact D
    have q2:=q1.nR s';have e0:wE g N.length M q=g q:=xZ q hql2;have q3:=q2.lH (i:=q) (c':=P.N.length) (y:=x') (H:=(M,.row (sY (wE g N.length M) (iD (iF P.gen x) []) .J) 103)::ug (ug H kp R1) (g q) (.row (pZ (wE g N.length M) x') 103)) AA L (fun _ _=>Iff.rfl) ⟨fun a E=>?_,?_,fun a E=>?_,?_⟩ ?_ ?_;refine⟨q3,fun k F=>by rw[xZ k<|YR F hm.len];exact hm.l6 k F,fun k E D=>?_,fun k E D hc=>?_,Zu hm.le,by simp;exact Zu hm.len,zF _⟩;rw[fG,zU]at D;obtain h9 |h9:=Zd k N.length;rw[xZ k h9];exact hm.new k E h9;have:k=N.length:=by simp at D;omega
    subst this;rw[Bv];exact hm.le;rw[aR,hF (by have:=hm.le;omega),bV,hF fun e=>hc q L (by rw[<-hm.l6 q L];exact e),bV,hF<|WV D];exact hm.fr k E D hc;show a.to<(N++[iD (iF P.gen x) []]).length;simp;exact Ze<|R.E3 a E;show GT (N++[iD (iF P.gen x) []]).length x.fw;exact R.fw.le aZ;show a.to<(N++[iD (iF P.gen x) []]).length;simp;exact Ze<|R.more a E;show N.length<(N++[iD (iF P.gen x) []]).length;simp;rw[e0,aR,hF af,bV,lr rfl,bV,hF<|WV O_,Z];rfl;intro k b D F;rw[e0]at F;by_cases e1:M=k;subst e1;rw[bV,hF af,aR,lr rfl]at D;rw[aR,lr rfl];exact D;rw[aR,hF e1,bV,hF<|WV F,bV];rw[bV]at D;have e3:=aR M (.row (sY (wE g N.length M) (iD (iF P.gen x) []) .J) 103) H k;rw[hF e1]at e3;rw[e3,aR,hF (by omega:¬ M=kp)]at D;exact D
   refine⟨l.length-(t+1),_,_,by omega,⟨t+1,_,_,_,_,M+1,rfl,G,w,rfl,rfl,ID⟩,ID.le,Gh.trans (Gh.sub (l':=[(0,.ptr kp 0 0),(1,pt nm i),(5,.iM (eD nm) l),(27,.iM (eD nm) l),(28,.i6 l.length),(29,.i6 ((t+1:Nat):Int))]) ?_) ?_⟩
   ·rw[<-kW];(repeat refine⟨rfl,?_⟩);exact trivial
   have e2:pZ (wE g N.length M) x'=[.i6 x.kind,.iM (bZ g) x.E3,po g x.fw,.i6 x.c3,.i6 x.mt,.i6 x.b8,.iM (bZ g) x.more,.i6 x.K2,.ptr M 0 0,.i6 P.gen,.bool x.ch,.i6 x.c4]:=by simp only[pZ,U.iM,x'];rw[Vq xZ R.E3,Vq xZ R.more,Uz xZ R.fw];simp only[po,pt,Bv]
   rw[e2];have hgM:∀T:X (Nat×B),gt ((M,R0)::T) M=some R0:=fun T=>by simp[aR]
   have hug:∀(T:X (Nat×B))(b:B),ug ((M,R0)::T) M b=(M,b)::T:=fun T b=>by simp[ug,beq_eq]
   refine(Gh.pW (Y:=⟨_,M+1⟩) (K:=M) (hgM _) (q':=sY (wE g N.length M) (iD (iF P.gen x) []) .J) rfl ?_).trans (Gh.eqv rfl ?_);exact .cons (.refl _)<|.cons (.refl _)<|.cons (.refl _)<|.cons (.refl _)<|.cons (.refl _)<|.cons (.refl _)<|.cons (.nil false)<|qP.refl _;exact congrArg (fun T=>(⟨T,M+1⟩:Sg)) (hug _ _)
  ·rw[show C0 P.gen x=false from h8]at w;refine goN ?_;have R:lQ N.length x:=hm.ph.wf x<|zX I;have ID:rY kp A st nm P h nx g (N.set q { x with cp:=some q,c6:=P.gen }) s P.N.length (ug H (g q)<|.row (pZ g { x with cp:=some q,c6:=P.gen }) 103) M:=by refine⟨hm.ph.lH I L (fun _ _=>Iff.rfl) ⟨R.E3,R.fw,R.more,YR L hm.len⟩ (by rw[bV,lr rfl,Z];rfl) fun k b D F=>by rw[bV,hF<|WV F];exact D,hm.l6,fun k a b=>hm.new k a (by simpa using b),fun k a b d=>?_,hm.le,by simpa using hm.len,zF _⟩;rw[bV,hF fun e=>d q L (by rw[<-hm.l6 q L];exact e)];exact hm.fr k a b d
   refine⟨l.length-(t+1),_,_,by omega,⟨t+1,_,_,_,_,M,rfl,G,w,rfl,rfl,ID⟩,ID.le,Gh.sub ?_⟩;rw[<-kW];(repeat refine⟨rfl,?_⟩);exact trivial
 ·refine goN ?_;have G:t=l.length:=by
   have:¬ (t:Int)<l.length:=by simpa using h7
   omega
  subst G;rw[pw]at w;obtain rfl:=sI w;exact⟨_,_,⟨g,H,M,rfl,rfl,hm⟩,hm.le,Gh.sub<|by((repeat refine⟨rfl,?_⟩);exact trivial)⟩
end
end Go.Proofs
namespace Go.Vx
open Go Go.Rx
variable{Y:Sg}
def Gh.CH{q N:Nat}{J g:X U}{o:X (Nat×B)}(f:Nat->Nat)(K:∀k,k<q->f k=k)(Q:q<=N)(key:∀k b,gt o k=some b->k<N/\cc N b/\gt Y.h (f k)=some (rB f b))(inj:∀k j b t,gt o k=some b->gt o j=some t->f k=f j->k=j)(W:fP f g=J)(a:aH N g):Gh q J Y g ⟨o,N⟩:=fun F x tv hx hr G T=>by
 subst hx
 let y:Cx:=⟨fun k=>x.I<|f k,⟨o,N⟩,x.s⟩
 have D:UX N f x y:=⟨fun k st off v d h=>by
   simp only[aF,Ref]at h ⊢;refine⟨h.1,d,fun b a=>?_⟩;have:=h.2.2 _ (key k b a).2.2
   rwa [UI]at this,fun k off m c v d h=>by
   simp only[aF,Ref]at h ⊢;refine⟨h.1,d,fun b a=>?_⟩;have:=h.2.2 _ (key k b a).2.2
   rwa [UI]at this,fun k st off m v d h=>by
   simp only[aF]at h ⊢;refine⟨h.1,d,fun b a=>?_⟩;have C:=h.2.2 _ (key k b a).2.2;rw[UI]at C;refine⟨C.1,fun e=>?_⟩;obtain⟨l,e',sz,p,R⟩:=C.2 e;cases b with
   |vec l' P s2 st2=>simp only[rB,B.vec.injEq]at p;exact⟨l',P,s2,by rw[p.2.2.2],by rw[p.2.2.1];exact R⟩|row=>simp[rB]at p|map=>simp[rB]at p,fun k v d h=>by
   simp only[aF,Ref]at h ⊢;refine⟨h.1,d,fun b a=>?_⟩;have:=h.2.2 _ (key k b a).2.2
   rwa [UI]at this,fun _ _ _ h=>h⟩
 have L:∀u,aW q u->rU f u=u:=fun u r=>by
  have:=cq (Z:=id) (κ:=f) (n:=q) (fun k d=>K k d) u r
  rwa [Uc]at this
 refine⟨y,fun m w G=>bS.refl G,rfl,⟨fun k b a=>?_,fun k j b t i a H z A=>?_,hr.bd⟩,fun i b O=>?_,?_,fun u v r hv=>?_⟩;obtain⟨M,E,V⟩:=key k b a;obtain⟨g1,g2⟩:=hr.ok _ _ V;exact⟨M,oR.J8 D E rfl (fun _ _ _ h=>h) g2⟩;exact inj k j b t a H<|hr.inj _ _ _ _ i (key k b a).2.2 (key j t H).2.2 z A;obtain⟨z,A⟩:=G i b O;exact⟨z,fun k c S=>A _ _ (key k c S).2.2⟩;exact bD.J8 D a (by rw[W];exact T);exact aF.J8 D u v (aW.le Q u r) (by rw[L u r];exact hv)
variable{R:U->Sg->Prop}
def b7.gh{P:Ua}{f:FuncId}{args:X U}{j:U->Sg->Prop}(h:b7 P f args Y R)(hr:∀u c,R u c->qA c->Y.nx<=c.nx->∃i d,Gh Y.nx [u] c [i] d/\Y.nx<=d.nx/\j i d):b7 P f args Y j:=fun F x V m w a g L B K A r=>
 (h F x V m w a g L B K A r).mono fun e b ⟨y,k,u,v,s,D,E,n,G,o,H,I,p,J⟩=>by obtain⟨i,d,g1,g2,C⟩:=hr _ _ E o.wf (by rw[<-g];exact J);obtain⟨z,M,q,N,O,Q,S⟩:=g1 F y [v] rfl o H ⟨⟨I,trivial⟩,rfl⟩;have l:=M k b n.fits;obtain⟨v2,W,t,T,Z⟩:=Q.inv;cases t;refine⟨z,k,i,v,s,D,by rw[q];exact C,n.trans l,?_,N,O,T,?_,by rw[q,g];exact g2⟩;exact G.ext (aP.refl _ _) l.nx;rw[g]at p ⊢;exact p.trans S
variable{n:Nat}{f:Nat->Nat}
def zb3(h:∀k,k<n->f k=k)(u:U)(a:aW n u):rU f u=u:=by
 have:=cq (Z:=id) (κ:=f) (n:=n) h u a
 rwa [Uc]at this
def qvz(h:∀k,k<n->f k=k)(l:X U)(a:aH n l):fP f l=l:=by
 have:=V4 (Z:=id) (κ:=f) (n:=n) h l a
 rwa [P5]at this
def z4x(h:∀k,k<n->f k=k)(l:X (X U))(a:lU n l):vJ f l=l:=by
 have:=qr1 (Z:=id) (κ:=f) (n:=n) h l a
 rwa [Ay]at this
def zb2(h:∀k,k<n->f k=k)(b:B)(a:cc n b):rB f b=b:=by
 cases b with
 |row l e=>simp only[rB];rw[qvz h l a]|vec l e s st=>simp only[rB];rw[qvz h l a]
 |map j i=>simp only[rB,B.map.injEq,cO];refine(X2 (g:=id) fun e d=>?_).trans aZ;have c:=a e d;simp only[rM,id];rw[zb3 h _ c.1,zb3 h _ c.2]
section
variable{T:Tb}{n:Nat}{l:X (Nat×U)}{rs:X ResultVar}
def se{a:Tmp}{t:X ResultVar}{b Y2:Sg}{u w:U}(m:rs=.tmp a::t)(h:bN n l (.tmp a)=some u)(g:t=[])(i:b.nx<=Y2.nx)(k:Gh b.nx [u] Y [w] Y2)(j:R w Y2):
  (Exit.ret=.normal\/Exit.ret=.ret)/\∃d,mF T Y (fr n l) rs=some d/\∃e c,b.nx<=c.nx/\Gh b.nx [nD d] Y [e] c/\R e c:=by subst m;subst g;exact⟨.inr rfl,_,dP h dU,w,Y2,i,k,j⟩
def W2{a b:Tmp}{t:X ResultVar}{c Y2:Sg}{u v w:U}(p:rs=.tmp a :: .tmp b::t)(h:bN n l (.tmp a)=some u)(i:bN n l (.tmp b)=some v)(j:t=[])(k:c.nx<=Y2.nx)(o:Gh c.nx [.a7 [u,v]] Y [w] Y2)(m:R w Y2):
  (Exit.ret=.normal\/Exit.ret=.ret)/\∃e,mF T Y (fr n l) rs=some e/\∃g d,c.nx<=d.nx/\Gh c.nx [nD e] Y [g] d/\R g d:=by subst p;subst j;exact⟨.inr rfl,_,dP h<|dP i dU,w,Y2,k,o,m⟩
end
def fY.wf{C:PG}{Y:Sg}{c:X U}{o:Oper}{R:U->Sg->Prop}(h:qA Y->aH Y.nx c->fY C Y c o R):fY C Y c o R:=fun F x k m w a next Q b st g i j d=>h (b ▸ st.h.wf) (b ▸ st.e.K3) F x k m w a next Q b st g i j d
def fY.rK{C:PG}{T:Tb}(E:jW C.prog T){h:X (Nat×B)}{nx:Nat}{l:X (Nat×U)}{o:Oper}{t e:TypeId}{k a b:Nat}{z:Value}{r cs:X U}{rs:X (X U)}{p:Jg (Nat×He)}{q:X (Nat×U)}{d:Tmp}(K:o.op=.buildSlice t k p)(F:T.I1 t=some (.slice e))(I:T.inf e=some (a,b,z))(L:E9 n l p.toList=some q)(w:ble (k*a) 16777216=true)(x:ble k 16777216=true)(y:Nat.beq z.cells.toList.length a=true)(M:rN z.cells.toList=some r)(H:tC (fun i=>some (i*a,a)) (zE r k) q=some cs)(J:I8 cs=true)(P:cs.length=k*a)(Q:bR a k cs=rs)(G:o.dst=some d)(g:blt d n=true)(O:aH 0 cs):
  fY C ⟨h,nx⟩ (fr n l) o (fun u s=>u=.O false rs/\s=⟨h,nx+1⟩):=fY.wf fun m _=>by
 subst Q;refine fY.fz E (s1:=⟨(nx,.row cs e)::h,nx+1⟩) (u1:=.sl nx 0 k k) (by rw[K];exact vQ F I L w x y M H J) ?_ (zF _) G g;have N:∀k,gt (dd nx (.row cs e) a ((nx,.row cs e)::h)) k=gt h k:=fun k=>by rw[D0];by_cases c:k=nx;rw[lr c];subst c;rcases j:gt h k with _|b;rfl;have:k<k:=(m k b j).1;omega;rw[hF c,aR,hF<|WV c];rcases j:gt h k with _|b;rfl;simp only[zM];rw[Mr _ _ (m k b j).2]
 have v:iO nx (.row cs e) a [.sl nx 0 k k]=[.O false<|bR a k cs]:=by
  have A:Nat.beq nx nx=true:=by simp
  have D:0+k*a<=cs.length:=by omega
  simp only[iO,Vx.fz,A,zC,D,It,Za]
 exact(Gh.fz (Y:=⟨(nx,.row cs e)::h,nx+1⟩) nx (.row cs e) a (by simp[aR]) nofun v rfl).trans (Gh.same (Y:=⟨_,nx+1⟩) h fun k=>(N k).symm)
end Go.Vx
namespace Go.Proofs
open Go Go.Rx Go.Vx Tryz
def HY(nm:Nat->Nat):X PN->Nat->X (Nat×B)
 |[],_=>[]|x::N,i=>(nm i,.row (pZ nm x) 103)::HY nm N (i+1)
def cH(kp a st:Nat)(nm:Nat->Nat)(P:PP)(h:X (Nat×B)):X (Nat×B):=(kp,.row (tX a st P) 83)::(a,.bv (eD nm) P.roots 92 1 st)::(HY nm P.N 0++h)
def kI(nm:Nat->Nat)(n nx:Nat):Nat->Nat:=fun i=>if i<n then nm i else nx+(i-n)
variable{n:Nat}
def BT{nm:Nat->Nat}{nx:Nat}:∀k,k<n->kI nm n nx k=nm k:=fun k a=>by rw[kI,lr a]
def zab{nm:Nat->Nat}{h:X (Nat×B)}:∀{N:X PN}{s k:Nat}{b:B},gt (HY nm N s++h) k=some b->(∃i x,N[i]? = some x/\nm (s+i)=k/\b=.row (pZ nm x) 103)\/((∀i,i<N.length->nm (s+i)≠k)/\gt h k=some b)
 |[],s,k,b,a=>.inr ⟨fun i f=>by simp at f,a⟩|x::N,s,k,b,a=>by
  simp only[HY,Zg]at a;rw[aR]at a;by_cases e:nm s=k;rw[lr e]at a;cases a;exact .inl ⟨0,x,rfl,e,rfl⟩;rw[hF e]at a;obtain⟨i,y,c,d,g⟩|⟨c,d⟩:=zab a;exact .inl ⟨i+1,y,c,by rw[<-d];congr 1;omega,g⟩;refine .inr ⟨fun i f=>?_,d⟩;cases i with
  |zero=>exact e|succ i=>have:=c i (by simpa using f);rwa [show s+1+i=s+(i+1) by omega]at this
def qt2{nm:Nat->Nat}{h:X (Nat×B)}:∀{N:X PN}{s i:Nat}{x:PN},(∀i j,i<N.length->j<N.length->nm (s+i)=nm (s+j)->i=j)->N[i]? = some x->gt (HY nm N s++h) (nm<|s+i)=some (.row (pZ nm x) 103)
 |[],s,i,x,_,c=>by simp at c
 |y::N,s,0,x,d,c=>by simp at c;subst c;simp only[HY,Zg,eT];rw[aR,lr rfl]
 |y::N,s,i+1,x,d,c=>by
  have c:N[i]? = some x:=by simpa using c
  have l:i<N.length:=(zG.1 c).1;have f:=qt2 (h:=h) (s:=s+1) (fun a b g k e=>by have:=d (a+1) (b+1) (by simpa using g) (by simpa using k) (by rw[show s+(a+1)=s+1+a by omega,show s+(b+1)=s+1+b by omega];exact e);omega) c;simp only[HY,Zg];rw[aR,hF fun e=>?_,show s+(i+1)=s+1+i by omega];exact f;have:=d 0 (i+1) aZ (by simpa using l) e;omega
def qt3{nm:Nat->Nat}{h:X (Nat×B)}{k:Nat}:∀{N:X PN}{s:Nat},(∀i,i<N.length->nm (s+i)≠k)->gt (HY nm N s++h) k=gt h k
 |[],s,_=>rfl|x::N,s,a=>by
  simp only[HY,Zg];rw[aR,hF (show ¬ nm s=k from a 0 aZ),qt3 fun i b=>?_];have:=a (i+1) (by simpa using b)
  rwa [show s+(i+1)=s+1+i by omega]at this
section
variable{kp d st:Nat}{nm:Nat->Nat}{P:PP}{h:X (Nat×B)}{nx:Nat}
def I?(m:kp≠d)(l:∀i,i<P.N.length->nm i≠kp)(o:∀i,i<P.N.length->nm i≠d)(inj:∀i j,i<P.N.length->j<P.N.length->nm i=nm j->i=j)(wf:∀x∈P.N,lQ P.N.length x)(rt:∀r∈P.roots,r<P.N.length):PH kp d st nm P (cH kp d st nm P h):=by refine⟨by rw[cH,aR,lr rfl],by rw[cH,aR,hF m,aR,lr rfl],fun i x f=>?_,inj,wf,rt⟩;have c:=(zG.1 f).1;rw[cH,aR,hF<|WV<|l i c,aR,hF<|WV<|o i c];have:=qt2 (h:=h) (s:=0) (N:=P.N) (nm:=nm) (fun a b g k e=>inj a b g k<|by simpa using e) f;simpa using this
def sn{k:Nat}(a:k≠kp)(b:k≠d)(c:∀i,i<P.N.length->nm i≠k):gt (cH kp d st nm P h) k=gt h k:=by rw[cH,aR,hF<|WV a,aR,hF<|WV b];exact qt3 (s:=0) fun i e=>by simpa using c i e
def C!(f:Nat->Nat)(nm c:Nat->Nat):∀(l:X eN),(∀a∈l,f (c a.to)=nm a.to)->vJ f (l.map<|bZ c)=l.map (bZ nm)
 |[],_=>rfl|a::l,e=>by simp only[zQ,vJ,C! f nm c l fun b g=>e b (by simp[g]),bZ,pt,fP,rU,e a aZ]
def UD(f:Nat->Nat)(nm a:Nat->Nat)(b:∀i,i<n->f (a i)=nm i):∀{o:V Nat},GT n o->rU f (po a o)=po nm o
 |none,_=>rfl|some i,c=>by simp only[po,pt,rU,b i c]
def zd3(f:Nat->Nat)(nm b:Nat->Nat)(c:∀i,i<n->f (b i)=nm i){x:PN}(w:lQ n x):fP f (pZ b x)=pZ nm x:=by simp only[pZ,fP,rU,U.iM,C! f nm b _ fun a e=>c _<|w.E3 a e,C! f nm b _ fun a e=>c _<|w.more a e,UD f nm b c w.fw,UD f nm b c w.cp]
def z4u(f:Nat->Nat):∀a b:X U,fP f (a++b)=fP f a++fP f b
 |[],b=>rfl|u::a,b=>by simp only[Zg,fP,z4u f a b]
def z4w(f:Nat->Nat)(nm c:Nat->Nat):∀(l:X Nat),(∀a∈l,f (c a)=nm a)->fP f (l.map<|eD c).flatten=(l.map<|eD nm).flatten
 |[],_=>rfl|a::l,e=>by simp only[zQ,YP,z4u,z4w f nm c l fun b g=>e b (by simp[g]),eD,pt,fP,rU,e a aZ]
variable{M:Nat}
def z6y{nm:Nat->Nat}(b:∀k,k<n->nm k<M){x:PN}(w:lQ n x):aH M (pZ nm x):=by simp only[pZ,aH,aW,cO,dG];exact⟨Nh _ fun a c=>b _<|w.E3 a c,Me b w.fw,Nh _ fun a c=>b _<|w.more a c,Me b w.cp⟩
variable{g:Nat}
def canon{nm1:Nat->Nat}{P1:PP}{H:X (Nat×B)}{tm tm':X U}(p:PH kp d st nm P h)(C:qA ⟨h,nx⟩)(p1:PH kp d g nm1 P1 H)(aT:P.N.length<=P1.N.length)(O:∀k,k<P.N.length->nm1 k=nm k)(new:∀k,P.N.length<=k->k<P1.N.length->nx<=nm1 k)(fr:∀k,k<nx->k≠kp->k≠d->(∀i,i<P.N.length->nm i≠k)->gt H k=gt h k)
  (ht:fP (fun k=>if k<nx then k else nm1 (P.N.length+(k-nx))) tm'=tm) (Z:aH (nx+(P1.N.length-P.N.length)) tm'):
  Gh nx tm ⟨H,M⟩ tm' ⟨cH kp d g (kI nm P.N.length nx) P1 h,nx+(P1.N.length-P.N.length)⟩:=by
 let f:Nat->Nat:=fun k=>if k<nx then k else nm1 (P.N.length+(k-nx))
 have Q:kp<nx:=(C _ _ p.b5).1;have F:d<nx:=(C _ _ p.roots).1;have E:∀i,i<P.N.length->nm i<nx:=fun i t=>p.lt C t;have y:∀i,i<P1.N.length->f (kI nm P.N.length nx i)=nm1 i:=fun i t=>by
  show(if _ then _ else _)=_;obtain l |l:=Zd i P.N.length;rw[BT i l,lr<|E i l,O i l];have W:kI nm P.N.length nx i=nx+(i-P.N.length):=by rw[kI,hF af]
  rw[W,hF af];congr 1;omega
 have K:∀i,i<P1.N.length->kI nm P.N.length nx i<nx+(P1.N.length-P.N.length):=fun i t=>by obtain l |l:=Zd i P.N.length;rw[BT i l];have:=E i l;omega;rw[kI,hF af];omega
 have J:∀k,k<nx->f k=k:=fun k L=>by show(if _ then _ else _)=_;rw[lr L]
 have T:∀k b,gt (cH kp d g (kI nm P.N.length nx) P1 h) k=some b->(k=kp/\b=.row (tX d g P1) 83)\/(k=d/\b=.bv (eD<|kI nm P.N.length nx) P1.roots 92 1 g)\/(∃i x,P1.N[i]? = some x/\kI nm P.N.length nx i=k/\b=.row (pZ (kI nm P.N.length nx) x) 103)\/(k≠kp/\k≠d/\(∀i,i<P.N.length->nm i≠k)/\gt h k=some b):=fun k b m=>by rw[cH,aR]at m;by_cases G:kp=k;rw[lr G]at m;cases m;exact .inl ⟨G.symm,rfl⟩;rw[hF G,aR]at m;by_cases w:d=k;rw[lr w]at m;cases m;exact .inr<|.inl ⟨w.symm,rfl⟩;rw[hF w]at m;obtain⟨i,x,l,o,s⟩|⟨l,o⟩:=zab m;exact .inr (.inr<|.inl ⟨i,x,l,by simpa using o,s⟩);refine .inr<|.inr<|.inr ⟨WV G,WV w,fun i t=>?_,o⟩;have:=l i af;rw[Ty,BT i t]at this;exact this
 refine Gh.CH f (fun k L=>by show(if _ then _ else _)=_;rw[lr L]) (il _ _) (fun k b m=>?_) (fun k k' b V m uK e=>?_) ht Z;obtain⟨rfl,rfl⟩|⟨rfl,rfl⟩|⟨i,x,D,rfl,rfl⟩|⟨l,o,s,v⟩:=T k b m;refine⟨by omega,?_,?_⟩;simp only[cc,tX,aH,aW,cO,dG];exact⟨tF _ (fun q=>Nt _ q) _,tF _ (fun q=>Xn _ q) _,by omega⟩;have e:f k=k:=by show(if _ then _ else _)=_;rw[lr Q]
 have w:f d=d:=by show(if _ then _ else _)=_;rw[lr F]
 rw[e,p1.b5];simp only[rB,tX,fP,rU,U.iM,w];rw[z4x J _<|tF _ (fun q=>Nt nx q) _,z4x J _<|tF _ (fun q=>Xn nx q) _];refine⟨by omega,?_,?_⟩;show aH _ (P1.roots.map _).flatten;rw[y4];intro u I;obtain⟨c,hc,I⟩:=mem_flatten.1 I;obtain⟨r,hr,rfl⟩:=mem_map.1 hc;simp only[eD,qa]at I;subst I;exact K r<|p1.rt r hr;have w:f k=k:=by show(if _ then _ else _)=_;rw[lr F]
 rw[w,p1.roots];simp only[rB,B.bv];rw[z4w f nm1 _ P1.roots fun a Y=>y a<|p1.rt a Y];have t:=(zG.1 D).1;have R:=p1.wf x<|zX D;refine⟨K i t,z6y K R,?_⟩;rw[y i t,p1.node i x D];simp only[rB];rw[zd3 f nm1 _ y R];obtain⟨z,S⟩:=C k b v;refine⟨by show k<_;have:k<nx:=z;omega,Mu (il _ _) S,?_⟩;have e:f k=k:=by show(if _ then _ else _)=_;rw[lr z]
 rw[e];show gt H k=_;rw[fr k z l o s,v,zb2 J b S];have key:∀k b,gt (cH kp d g (kI nm P.N.length nx) P1 h) k=some b->(k<nx/\f k=k)\/∃i,i<P1.N.length/\P.N.length<=i/\kI nm P.N.length nx i=k:=fun k b m=>by obtain⟨rfl,rfl⟩|⟨rfl,rfl⟩|⟨i,x,D,rfl,rfl⟩|⟨l,o,s,v⟩:=T k b m;exact .inl ⟨Q,by show(if _ then _ else _)=_;rw[lr Q]⟩;exact .inl ⟨F,by show(if _ then _ else _)=_;rw[lr F]⟩;have t:=(zG.1 D).1;obtain A |A:=Zd i P.N.length;rw[BT i A];exact .inl ⟨E i A,by show(if _ then _ else _)=_;rw[lr<|E i A]⟩;exact .inr ⟨i,t,A,rfl⟩;have z:=(C k b v).1;exact .inl ⟨z,by show(if _ then _ else _)=_;rw[lr z]⟩
 obtain⟨l,o⟩|⟨i,l,o,rfl⟩:=key k b m<;>obtain⟨s,v⟩|⟨j,s,v,rfl⟩:=key k' V uK;rw[o,v]at e;exact e;rw[o,y j s]at e;have:=new j v s;omega;rw[v,y i l]at e;have:=new i o l;omega;rw[y i l,y j s]at e;rw[p1.inj i j l s e]
def qtl{a:Nat->Nat}{n:Nat}(b:∀k,k<n->a k=nm k):∀{N:X PN}{s:Nat},s+N.length<=n->(∀x∈N,lQ n x)->HY a N s=HY nm N s
 |[],_,_,_=>rfl|x::N,s,c,e=>by simp only[HY];rw[b s (by simp at c;omega),qsh b<|e x aZ,qtl b (by simp at c;omega) fun y f=>e y<|by simp[f]]
def qwx{a:Nat->Nat}{P1:PP}(b:∀k,k<P1.N.length->a k=nm k)(c:∀x∈P1.N,lQ P1.N.length x)(e:∀r∈P1.roots,r<P1.N.length):cH kp d g a P1 h=cH kp d g nm P1 h:=by simp only[cH,B.bv];rw[qtl b af c,qsi b e]
def OL{P1:PP}{H:X (Nat×B)}{tm:X U}(p:PH kp d st nm P h)(l:qA ⟨h,nx⟩)(m:PH kp d g nm P1 H)(c:P1.N.length=P.N.length)(fr:∀k,k<nx->k≠kp->k≠d->(∀i,i<P.N.length->nm i≠k)->gt H k=gt h k)(f:aH nx tm):
  Gh nx tm ⟨H,M⟩ tm ⟨cH kp d g nm P1 h,nx⟩:=by have e:=canon (M:=M) (tm:=tm) (tm':=tm) p l m (pe c.symm) (fun _ _=>rfl) (fun k a b=>af) fr (qvz (n:=nx) (fun k j=>by rw[lr j]) tm f) (by rw[c,mi];exact f);rw[c,mi,eT,qwx (nm:=nm) (fun k j=>BT k af) m.wf m.rt]at e;exact e
def z7b{P1:PP}(p:PH kp d st nm P h)(k:qA ⟨h,nx⟩)(o:∀x∈P1.N,lQ P1.N.length x)(kD:∀r∈P1.roots,r<P1.N.length):PH kp d g (kI nm P.N.length nx) P1 (cH kp d g (kI nm P.N.length nx) P1 h):=by
 have t:kp<nx:=(k _ _ p.b5).1;have s:d<nx:=(k _ _ p.roots).1;have l:∀i,i<P.N.length->nm i<nx:=fun i q=>p.lt k q;have c:∀i,(i<P.N.length/\kI nm P.N.length nx i=nm i)\/(P.N.length<=i/\kI nm P.N.length nx i=nx+(i-P.N.length)):=fun i=>by obtain a |a:=Zd i P.N.length;exact .inl ⟨a,BT i a⟩;exact .inr ⟨a,by rw[kI,hF af]⟩
 refine I? (WV p.mY) (fun i _=>?_) (fun i _=>?_) (fun i j _ _ e=>?_) o kD;obtain⟨a,b⟩|⟨a,b⟩:=c i;rw[b];exact p.jO a;omega;obtain⟨a,b⟩|⟨a,b⟩:=c i;rw[b];exact p.rF a;omega;obtain⟨a,b⟩|⟨a,b⟩:=c i<;>obtain⟨f,m⟩|⟨f,m⟩:=c j;rw[b,m]at e;exact p.inj i j a f e;have:=l i a;omega;have:=l j f;omega;omega
def qsk{P1:PP}(p:PH kp d st nm P h)(c:P1.N.length=P.N.length)(b:∀x∈P1.N,lQ P1.N.length x)(kD:∀r∈P1.roots,r<P1.N.length):PH kp d g nm P1 (cH kp d g nm P1 h):=
 I? (WV p.mY) (fun i a=>p.jO af) (fun i a=>p.rF af) (fun i j a f e=>p.inj i j af af e) b kD
end
end Go.Proofs
namespace Go.Proofs
open Go Go.Rx Go.Vx Tryz
def Wf(N:X PN):Prop:=∀x∈N,lQ N.length x
structure Sm(N N':X PN):Prop where
 len:N'.length=N.length
 st:∀(i:Nat)(x:PN),N[i]? = some x->∃x':PN,N'[i]? = some x'/\x'.kind=x.kind/\x'.E3=x.E3
def Sm.refl(N:X PN):Sm N N:=⟨rfl,fun i x h=>⟨x,h,rfl,rfl⟩⟩
def Sm.trans{N b a:X PN}(h:Sm N b)(h':Sm b a):Sm N a:=⟨h'.len.trans h.len,fun i x k=>by
 obtain⟨y,c,d,e⟩:=h.st i x k;obtain⟨z,f,g,j⟩:=h'.st i y c;exact⟨z,f,g.trans d,j.trans e⟩⟩
def Sm.set{N:X PN}{i:Nat}{x:PN}(y:PN)(b:N[i]? = some x)(c:y.kind=x.kind)(d:y.E3=x.E3):Sm N (N.set i y):=⟨by simp,fun j z a=>by
 rw[ja];by_cases e:i=j;subst e;rw[b]at a;cases a;exact⟨y,by rw[lr rfl,lr (zG.1 b).1],c,d⟩;exact⟨z,by rw[hF e];exact a,rfl,rfl⟩⟩
def Wf.set{N:X PN}(h:Wf N){i:Nat}{y:PN}(b:lQ N.length y):Wf (N.set i y):=fun x a=>by
 rw[fG];obtain a |rfl:=H_ a;exact h x a;exact b
variable{N:X PN}{i:Nat}
def Wf.at(h:Wf N){x:PN}(a:N[i]? = some x):lQ N.length x:=h x (zX a)
variable{b:X PN}
def Sm.lt(h:Sm N b):i<b.length↔i<N.length:=by rw[h.len]
def pS{x:PN}(h:N[i]? = some x):i<N.length:=(zG.1 h).1
def U?{g:Int}{p:Nat}{c:X eN}:∀{j:X eN}{W:X (Nat×Nat)}{N:X PN}{s:X (Nat×Nat)×X PN},RX g p c j W N=some s->(∀a∈j,a.to<N.length)->Sm N s.2/\(Wf N->Wf s.2)
 |[],W,N,s,h,_=>by obtain rfl:=sI h;exact⟨Sm.refl _,id⟩
 |y::j,W,N,s,h,e=>by
  rw[RX]at h;cases l:decide (CL (fun z=>z.f==y.f) c>=0)with
  |true=>rw[l]at h;obtain⟨z,_,h⟩:=aJ h;obtain⟨_,h⟩:=bU h;exact U? h fun a h=>e a (by simp[h])
  |false=>
   rw[l]at h;obtain⟨x,m,h⟩:=aJ h;obtain⟨_,h⟩:=bU h;have k:Sm N (N.set p { x with more:=iC g x++[y],K2:=g }):=Sm.set _ m rfl rfl;obtain⟨n,o⟩:=U? h fun a h=>by rw[k.len];exact e a (by simp[h])
   refine⟨k.trans n,fun w=>o<|w.set ?_⟩;have d:=w.at m;refine⟨d.E3,d.fw,fun a h=>?_,d.cp⟩;obtain h |h:=yD.1 h;exact E! d a h;simp at h;subst h;exact e a aZ
def ct{H:cR}{g:Int}{n:Nat}:∀{m:Nat}{W:X (Nat×Nat)}{N:X PN}{r:FK×X PN},MW H g n m W N=some r->Wf N->Sm N r.2/\Wf r.2
 |0,_,_,_,h,_=>by cases h
 |m+1,[],N,r,h,w=>by obtain rfl:=sI h;exact⟨Sm.refl _,w⟩
 |m+1,a::W,N,r,h,w=>by
  obtain⟨p,L,h⟩:=aJ h;obtain⟨q,M,h⟩:=aJ h;cases l:Nat.beq p q with
  |true=>rw[l]at h;exact ct h w|false=>
   rw[l]at h;obtain⟨x,D,h⟩:=aJ h;obtain⟨y,E,h⟩:=aJ h;obtain⟨c,B,h⟩:=aJ h;cases o : !c.2 with
   |true=>rw[o]at h;obtain rfl:=sI h;exact⟨Sm.refl _,w⟩
   |false=>rw[o]at h;obtain⟨_,h⟩:=bU h;obtain⟨s,C,h⟩:=aJ h;obtain⟨d,k,h⟩:=aJ h;obtain⟨A,j,h⟩:=aJ h;obtain⟨t,F⟩:=U? C<|Q9<|w.at E;have v:=F w;have e:=v.at k;have u:Sm s.2 (s.2.set p { d with mt:=c.1,b8:=g }):=Sm.set _ k rfl rfl;have z:Wf (s.2.set p { d with mt:=c.1,b8:=g }):=v.set ⟨e.E3,e.fw,e.more,e.cp⟩;have f:=z.at j;have J:Sm (s.2.set p { d with mt:=c.1,b8:=g }) ((s.2.set p { d with mt:=c.1,b8:=g }).set q { A with fw:=some p,c3:=g }):=Sm.set _ j rfl rfl;have K:Wf ((s.2.set p { d with mt:=c.1,b8:=g }).set q { A with fw:=some p,c3:=g }):=z.set ⟨f.E3,by show p<_;rw[u.len,t.len];exact pS D,f.more,f.cp⟩;obtain⟨G,I⟩:=ct h K;exact⟨t.trans<|u.trans<|J.trans G,I⟩
def zat{g:Int}{n:Nat}:∀{l:X Nat}{N b:X PN},Eh g n l N=some b->Wf N->Sm N b/\Wf b
 |[],N,b,h,w=>by obtain rfl:=sI h;exact⟨Sm.refl _,w⟩
 |p::l,N,b,h,w=>by obtain⟨x,d,h⟩:=aJ h;rcases c:Lg N g n x.E3 with _|_;rw[c]at h;cases h;rw[c]at h;obtain⟨_,h⟩:=bU h;have a:=w.at d;obtain⟨e,f⟩:=zat h<|w.set ⟨a.E3,a.fw,a.more,a.cp⟩;exact⟨(Sm.set _ d (by rfl)<|by rfl).trans e,f⟩
def cy{g:Int}:∀{l:X Nat}{d:FK}{N:X PN}{r:FK×X PN},MX g l d N=some r->Wf N->Sm N r.2/\Wf r.2
 |[],d,N,r,h,w=>by obtain rfl:=sI h;exact⟨Sm.refl _,w⟩
 |p::l,d,N,r,h,w=>by
  obtain⟨x,f,h⟩:=aJ h;cases e:C0 g x with
  |true=>rw[e]at h;exact cy h w|false=>rw[e]at h;obtain⟨_,h⟩:=bU h;obtain⟨c,m,h⟩:=aJ h;obtain _|_:=c;exact cy h w;have a:=w.at f;obtain⟨j,k⟩:=cy h<|w.set ⟨a.E3,a.fw,a.more,a.cp⟩;exact⟨(Sm.set _ f (by rfl)<|by rfl).trans j,k⟩
def zau{g:Int}{l:X Nat}:∀{m:Nat}{N b:X PN},Eg g l m N=some b->Wf N->Sm N b/\Wf b
 |0,_,_,h,_=>by cases h
 |m+1,N,b,h,w=>by
  obtain⟨r,j,h⟩:=aJ h;obtain⟨c,d⟩:=cy j w;cases a:r.1 with
  |true=>rw[a]at h;obtain⟨e,f⟩:=zau h d;exact⟨c.trans e,f⟩
  |false=>rw[a]at h;obtain rfl:=sI h;exact⟨c,d⟩
def z8i{g:Int}{n:Nat}{l:X Nat}(h:Rn g n l N=some b)(w:Wf N):Sm N b/\Wf b:=by obtain⟨_,h⟩:=bU h;obtain⟨j,a,h⟩:=aJ h;obtain⟨c,d⟩:=zat a w;obtain⟨e,f⟩:=zau h d;exact⟨c.trans e,f⟩
structure Ex(n:Nat)(N b:X PN):Prop where
 len:N.length<=b.length
 st:∀(i:Nat)(x:PN),i<n->N[i]? = some x->∃x':PN,b[i]? = some x'/\x'.kind=x.kind/\x'.E3=x.E3
def Ex.refl(n:Nat)(N:X PN):Ex n N N:=⟨zF _,fun i x _ h=>⟨x,h,rfl,rfl⟩⟩
def Ex.trans{n:Nat}{N b a:X PN}(h:Ex n N b)(h':Ex n b a):Ex n N a:=⟨Zt h.len h'.len,fun i x c l=>by
 obtain⟨y,d,e,f⟩:=h.st i x c l;obtain⟨z,g,j,k⟩:=h'.st i y c d;exact⟨z,g,j.trans e,k.trans f⟩⟩
def Sm.ex(h:Sm N b)(n:Nat):Ex n N b:=⟨by rw[h.len];exact zF _,fun i x _ a=>h.st i x a⟩
def Wf.add(w:Wf N)(k:Int):Wf (N++[iD k []]):=fun x a=>by
 have c:(N++[iD k []]).length=N.length+1:=by simp
 rw[c];obtain a |a:=yD.1 a;exact(w x a).le (MD _);simp at a;subst a;exact⟨nofun,trivial,nofun,trivial⟩
def X?{g:Int}{n:Nat}:∀{l:X Nat}{N:X PN}{s:Int}{r:X PN×Int},W0 g l N s=some r->Wf N->Ex n N r.1/\Wf r.1
 |[],N,s,r,h,w=>by obtain rfl:=sI h;exact⟨Ex.refl _ _,w⟩
 |p::l,N,s,r,h,w=>by
  obtain⟨x,a,h⟩:=aJ h;have m:=pS a;have d:=w.at a;cases k:C0 g x with
  |false=>rw[k]at h;obtain⟨e,f⟩:=X? (n:=n) h<|w.set ⟨d.E3,d.fw,d.more,m⟩;exact⟨((Sm.set _ a (by rfl)<|by rfl).ex n).trans e,f⟩
  |true=>
   rw[k]at h;have j:(N++[iD (iF g x) []])[p]? = some x:=by rw[mc m];exact a
   have q:=w.add<|iF g x;have c:=q.at j;obtain⟨e,f⟩:=X? (n:=n) h (q.set ⟨c.E3,c.fw,c.more,by show N.length<_;simp⟩);refine⟨Ex.trans ⟨by simp,fun i z _ o=>⟨z,by rw[mc<|pS o];exact o,rfl,rfl⟩⟩ (((Sm.set _ j (by rfl)<|by rfl).ex n).trans e),f⟩
def W?{g:Int}{n m:Nat}:∀{l:X Nat}{N:X PN}{c:Nat}{b:X PN},RY g n l N c=some b->m<=c->Wf N->Ex m N b/\Wf b/\b.length=N.length
 |[],N,c,b,h,_,w=>by obtain⟨_,h⟩:=bU h;obtain rfl:=sI h;exact⟨Ex.refl _ _,w,rfl⟩
 |p::l,N,c,b,h,j,w=>by
  obtain⟨x,E,h⟩:=aJ h;obtain⟨q,D,h⟩:=aJ h;cases f:Nat.beq q p with
  |true=>rw[f]at h;exact W? h j w|false=>rw[f]at h;obtain⟨y,s,h⟩:=aJ h;obtain⟨⟨rfl,_,_⟩,h⟩:=bU h;obtain⟨d,r,h⟩:=aJ h;obtain⟨B,k,h⟩:=aJ h;have e:=w.at s;obtain⟨u,v,A⟩:=W? (m:=m) h (Zu j) (w.set ⟨fun a o=>F! w r nofun a ((qyd k a).1 o),e.fw,e.more,e.cp⟩);refine⟨Ex.trans ⟨by simp,fun i z C t=>⟨z,?_,rfl,rfl⟩⟩ u,v,by rw[A];simp⟩;rw[ja,hF af];exact t
def qyb{g:Int}{n:Nat}{s:Int}{r:Nat×X PN×Int}(h:Lf g n N s i=some r)(w:Wf N):Ex N.length N r.2.1/\Wf r.2.1/\r.1<r.2.1.length:=by obtain⟨l,_,h⟩:=aJ h;obtain⟨u,k,h⟩:=aJ h;obtain⟨y,m,h⟩:=aJ h;obtain⟨v,o,h⟩:=aJ h;obtain⟨x,p,h⟩:=aJ h;obtain⟨q,t,h⟩:=aJ h;obtain rfl:=sI h;obtain⟨c,d⟩:=z8i k w;obtain⟨e,f⟩:=X? (n:=N.length) m d;obtain⟨j,a,_⟩:=W? o (zF _) f;refine⟨(c.ex _).trans (e.trans j),a,?_⟩;have:=(a.at p).cp;rw[(Va t).2]at this;exact this
end Go.Proofs
namespace Go.Proofs
open Go Go.Rx Go.Vx Tryz
def H7(n:Nat)(P:PP)(a b:Int):V (V Nat×PP):=
 cond (decide (a<0)) (some (none,P)) (cond (decide (b<0)) (some (none,P))<|cond (decide (a>=(P.roots.length:Int))) (some (none,P))<|cond (decide (b>=(P.roots.length:Int))) (some (none,P))<|a8 (aB P.roots a) fun c=>a8 (aB P.roots b) fun d=>a8 (MW P.H (i64.wrap<|P.gen+1) n n [(c,d)] P.N) fun r=>cond (!r.1) (some (none,{ P with N:=r.2,gen:=i64.wrap (P.gen+1) }))<|a8 (uX r.2 (i64.wrap<|P.gen+1) n c) fun q=>some (some q,{ P with N:=r.2,gen:=i64.wrap (P.gen+1) }))
section
variable{kp d st:Nat}{nm:Nat->Nat}{P:PP}{h:X (Nat×B)}{nx:Nat}
theorem PH.gr(p:PH kp d st nm P h):eK h d (.vec (P.roots.map<|eD nm).flatten 92 1 st):=⟨p.roots⟩
def zdq(p:PH kp d st nm P h)(n:Nat){a b:Nat}{r:FK×X PN}(O:MW P.H P.gen n n [(a,b)] P.N=some r):
  b7 prog 65 [.ptr kp 0 0,pt nm a,pt nm b] ⟨h,nx⟩ (fun u c=>u=.bool r.1/\c=⟨cH kp d st nm { P with N:=r.2 } h,nx⟩):=
 b7.wf fun l _=>(ZH p n O).gh fun u c ⟨H,N,e,f,g,i,q,j⟩ _ _=>by subst e;subst f;exact⟨_,_,OL p l g i (fun k m s t o=>j k m o) (by simp[aH,aW]),zF _,rfl,rfl⟩
def z7k(p:PH kp d st nm P h)(n:Nat){i:Nat}(o:i<P.N.length){r:Nat×X PN×Int}(O:Lf P.gen n P.N P.size i=some r):
  b7 prog 46 [.ptr kp 0 0,pt nm i] ⟨h,nx⟩ (fun u g=>u=pt (kI nm P.N.length nx) r.1/\g=⟨cH kp d st (kI nm P.N.length nx) { P with N:=r.2.1,size:=r.2.2 } h,nx+(r.2.1.length-P.N.length)⟩):=
 b7.wf fun f _=>(zby p n o O).gh fun u g ⟨H,M,c,l,m,b,v⟩ _ _=>by
  subst l;subst m;have e:(fun k=>if k<nx then k else c (P.N.length+(k-nx))) (kI nm P.N.length nx r.1)=c r.1:=by
   show(if _ then _ else _)=_;obtain a |a:=Zd r.1 P.N.length;rw[BT _ a,lr<|p.lt f a,b.l6 _ a];have j:kI nm P.N.length nx r.1=nx+(r.1-P.N.length):=by rw[kI,hF af]
   rw[j,hF af];congr 1;omega
  refine⟨pt (kI nm P.N.length nx) r.1,_,canon p f (b.ph.ph<|zF _) b.len b.l6 b.new (fun k q s w t=>b.fr k q s t) ?_ ?_,il _ _,rfl,rfl⟩;exact congrArg (fun z=>[U.ptr z 0 0]) e;simp only[pt,aH,aW,cO];show _<nx+(r.2.1.length-P.N.length);obtain a |a:=Zd r.1 P.N.length;rw[BT _ a];have:=p.lt f a;omega;rw[kI,hF af];omega
variable{a:Int}{b:Int}
def qxy(p:PH kp d st nm P h)(n:Nat){r:V Nat×PP}(O:H7 n P a b=some r):
  b7 prog 45 [.ptr kp 0 0,.i6 a,.i6 b] ⟨h,nx⟩ (fun u G=>∃H M,u=.a7 [po nm r.1,.bool r.1.isSome]/\G=⟨H,M⟩/\PH kp d st nm r.2 H/\r.2.N.length=P.N.length/\nx<=M/\∀k,k<nx->k≠kp->(∀i,i<P.N.length->nm i≠k)->gt H k=gt h k):=by
 haveI:=p.gp
 haveI:=p.gr
 refine w4 65 Iz ?_;refine goN ?_;unfold H7 at O;cases y:decide (a<0)with
 |true=>rw[y]at O;obtain rfl:=sI O;refine goN ?_;refine eE rfl (fun _=>?_) (fun h=>by cases h);refine goN ?_;exact Bi rfl rfl rfl rfl (zF _) ⟨h,nx,rfl,rfl,p,rfl,zF _,fun _ _ _ _=>rfl⟩
 |false=>
 rw[y]at O;cases z:decide (b<0)with
 |true=>rw[z]at O;obtain rfl:=sI O;refine goN ?_;refine eE rfl (fun _=>?_) (fun h=>by cases h);refine goN ?_;exact Bi rfl rfl rfl rfl (zF _) ⟨h,nx,rfl,rfl,p,rfl,zF _,fun _ _ _ _=>rfl⟩
 |false=>
 rw[z]at O;cases A:decide (a>=(P.roots.length:Int))with
 |true=>rw[A]at O;obtain rfl:=sI O;refine goN ?_;refine eE rfl (fun _=>?_) (fun h=>by cases h);refine goN ?_;exact Bi rfl rfl rfl rfl (zF _) ⟨h,nx,rfl,rfl,p,rfl,zF _,fun _ _ _ _=>rfl⟩
 |false=>
 rw[A]at O;cases o:decide (b>=(P.roots.length:Int))with
 |true=>rw[o]at O;obtain rfl:=sI O;refine goN ?_;refine eE rfl (fun _=>?_) (fun h=>absurd (o.symm.trans h) nofun);refine goN ?_;exact Bi rfl rfl rfl rfl (zF _) ⟨h,nx,rfl,rfl,p,rfl,zF _,fun _ _ _ _=>rfl⟩
 |false=>
 rw[o]at O;obtain⟨Q,m,R,x,l,j,O⟩:=nJ O;refine goN ?_;refine eE rfl (fun h=>absurd (o.symm.trans h) nofun) (fun _=>?_);refine goN ?_;have c:PH kp d st nm { P with gen:=i64.wrap (P.gen+1) } (ug h kp<|.row (tX d st { P with gen:=i64.wrap (P.gen+1) }) 83):=p.nR P.size _ (by rw[bV,lr rfl,p.b5];rfl) fun k b I t=>by rw[bV,hF<|WV t];exact I
 haveI:=c.gp
 haveI:=c.gr
 have F:∀k,k≠kp->gt (ug h kp<|.row (tX d st { P with gen:=i64.wrap (P.gen+1) }) 83) k=gt h k:=fun k t=>by rw[bV,hF<|WV t]
 change I6 _ _ _ _ (Sg.mk (ug h kp<|.row (tX d st { P with gen:=i64.wrap (P.gen+1) }) 83) nx) _;have C:pR (Sg.mk (ug h kp<|.row (tX d st { P with gen:=i64.wrap (P.gen+1) }) 83) nx) d st=some ((P.roots.map<|eD nm).flatten,92,1):=by simp[pR,c.roots,B.bv]
 refine dE [] ?_;refine cC ?_;refine aQ rfl (cV rfl rfl (gP (eD nm) iQ.h (aV jI.h) bF (fun _=>rfl) C m)) ?_;refine aQ rfl (o8 (eD nm) (pt nm) iP.h rfl (fun _=>rfl) rfl c.roots m) ?_;refine cC ?_;refine aQ rfl (cV rfl rfl (gP (eD nm) iQ.h (aV jI.h) bF (fun _=>rfl) C x)) ?_;refine aQ rfl (o8 (eD nm) (pt nm) iP.h rfl (fun _=>rfl) rfl c.roots x) (FD rfl (hJ rfl yb rfl).2 (zdq c n j) rfl rfl ?_);have g:=ct j c.wf;have f:PH kp d st nm { P with N:=l.2,gen:=i64.wrap (P.gen+1) } (cH kp d st nm { P with N:=l.2,gen:=i64.wrap (P.gen+1) } (ug h kp<|.row (tX d st { P with gen:=i64.wrap (P.gen+1) }) 83)):=qsk c g.1.len g.2 (fun r S=>by show r<l.2.length;rw[g.1.len];exact p.rt r S);have D:∀k,k<nx->k≠kp->(∀i,i<P.N.length->nm i≠k)->gt (cH kp d st nm { P with N:=l.2,gen:=i64.wrap (P.gen+1) } (ug h kp<|.row (tX d st { P with gen:=i64.wrap (P.gen+1) }) 83)) k=gt h k:=fun k _ E L=>by by_cases e:k=d;subst e;rw[f.roots,p.roots];rw[sn E e fun i J=>L i (by have:=g.1.len;show i<P.N.length;exact this ▸ J),F k E]
 refine cC ?_;refine bB ⟨by kernel_rfl,trivial,?_⟩;refine goN ?_;refine eE rfl (fun s=>?_) (fun s=>?_);rw[s]at O;obtain rfl:=sI O;refine goN ?_;exact Bi rfl rfl rfl rfl (zF _) ⟨_,nx,rfl,rfl,f,g.1.len,zF _,D⟩;rw[s]at O;obtain⟨q,K,O⟩:=aJ O;obtain rfl:=sI O;have v:pR (Sg.mk (cH kp d st nm { P with N:=l.2,gen:=i64.wrap (P.gen+1) } (ug h kp<|.row (tX d st { P with gen:=i64.wrap (P.gen+1) }) 83)) nx) d st=some ((P.roots.map<|eD nm).flatten,92,1):=by simp[pR,f.roots,B.bv]
 haveI:=f.gp
 haveI:=f.gr
 refine goN ?_;refine RS.w rfl (cV rfl rfl (gP (eD nm) iQ.h (aV jI.h) bF (fun _=>rfl) v m)) ?_;refine RS.w rfl (o8 (eD nm) (pt nm) iP.h rfl (fun _=>rfl) rfl f.roots m) (aM rfl (Ut f n K) B6 ?_);refine goN ?_;exact Bi rfl rfl rfl rfl (zF _) ⟨_,nx,rfl,rfl,f,g.1.len,zF _,D⟩
def yY(n:Nat)(P:PP)(a b:Int):V (FK×PP):=a8 (H7 n P a b) fun r=>some (r.1.isSome,r.2)
def Ur{n:Nat}{P:PP}{r:V Nat×PP}(h:H7 n P a b=some r)(w:Wf P.N):Sm P.N r.2.N/\Wf r.2.N/\r.2.H=P.H/\r.2.roots=P.roots/\r.2.size=P.size/\∀q,r.1=some q->q<r.2.N.length:=by
 unfold H7 at h;have key:∀{c:FK}{z:V (V Nat×PP)},cond c (some (none,P)) z=some r->(r=(none,P))\/z=some r:=fun{c z} h=>by obtain _|_:=c;exact .inr h;exact .inl (sI h).symm
 have f:r=(none,P)->Sm P.N r.2.N/\Wf r.2.N/\r.2.H=P.H/\r.2.roots=P.roots/\r.2.size=P.size/\∀q,r.1=some q->q<r.2.N.length:=fun e=>by subst e;exact⟨Sm.refl _,w,rfl,rfl,rfl,nofun⟩
 obtain e |h:=key h;exact f e;obtain e |h:=key h;exact f e;obtain e |h:=key h;exact f e;obtain e |h:=key h;exact f e;obtain⟨p,_,h⟩:=aJ h;obtain⟨s,_,h⟩:=aJ h;obtain⟨m,k,h⟩:=aJ h;obtain⟨i,j⟩:=ct k w;cases g : !m.1 with
 |true=>rw[g]at h;obtain rfl:=sI h;exact⟨i,j,rfl,rfl,rfl,nofun⟩
 |false=>rw[g]at h;obtain⟨q,l,h⟩:=aJ h;obtain rfl:=sI h;refine⟨i,j,rfl,rfl,rfl,fun o e=>?_⟩;cases e;exact tw l
def zdk(p:PH kp d st nm P h)(n:Nat){r:FK×PP}(O:yY n P a b=some r):
  b7 prog 22 [.ptr kp 0 0,.i6 a,.i6 b] ⟨h,nx⟩ (fun u c=>u=.bool r.1/\c=⟨cH kp d st nm r.2 h,nx⟩):=by
 refine b7.wf fun v _=>?_;obtain⟨l,q,s⟩:=aJ O;obtain rfl:=sI s;have t:b7 prog 22 [.ptr kp 0 0,.i6 a,.i6 b] ⟨h,nx⟩ (fun u c=>∃H M,u=.bool l.1.isSome/\c=⟨H,M⟩/\PH kp d st nm l.2 H/\l.2.N.length=P.N.length/\nx<=M/\∀k,k<nx->k≠kp->(∀i,i<P.N.length->nm i≠k)->gt H k=gt h k):=by refine w4 17 DW ?_;refine goN ?_;refine j8 rfl (hJ rfl Iz rfl).2 (qxy p n q) rfl rfl ?_;rintro _ _ ⟨H,M,rfl,rfl,e,f,g,j⟩;refine goN ?_;exact EB rfl rfl rfl g ⟨H,M,rfl,rfl,e,f,g,j⟩
 exact t.gh fun u c ⟨H,M,m,o,e,f,g,j⟩ _ _=>by subst m;subst o;exact⟨_,_,OL p v e f (fun k w x z y=>j k w x y) (by simp[aH,aW]),zF _,rfl,rfl⟩
def zdc(p:PH kp d st nm P h):b7 prog 16 [.ptr kp 0 0] ⟨h,nx⟩ (fun u c=>u=.i6 P.size/\c=⟨h,nx⟩):=by
 haveI:=p.gp
 refine mJ 7 T7 ?_;refine goN ?_;exact EB rfl rfl rfl (zF _) ⟨rfl,rfl⟩
def vP(n:Nat)(P:PP)(a b:Int):V ((Int×FK)×PP):=
 a8 (H7 n P a b) fun r=>match r.1 with
  |none=>some ((0,false),r.2)|some root=>a8 (Lf r.2.gen n r.2.N r.2.size root) fun c=>aE (r.2.roots.length<=1000000) (some ((r.2.roots.length,true),{ r.2 with N:=c.2.1,size:=c.2.2,roots:=r.2.roots++[c.1] }))
def z9d(p:PH kp d st nm P h)(n:Nat){r:(Int×FK)×PP}(O:vP n P a b=some r):
  b7 prog 21 [.ptr kp 0 0,.i6 a,.i6 b] ⟨h,nx⟩ (fun u Y'=>∃bL,u=.a7 [.i6 r.1.1,.bool r.1.2]/\Y'=⟨cH kp d bL (kI nm P.N.length nx) r.2 h,nx+(r.2.N.length-P.N.length)⟩):=by
 refine b7.wf fun V _=>?_;obtain⟨g,Q,o⟩:=aJ O;obtain⟨I,Y,s3,s4,s5,s6⟩:=Ur Q p.wf;refine w4 37 DX ?_;refine goN ?_;refine j8 rfl (hJ rfl Iz rfl).2 (qxy p n Q) rfl rfl ?_;rintro _ _ ⟨H,M,rfl,rfl,m,y,h5,R⟩;cases hr:g.1 with
 |none=>rw[hr]at o;obtain rfl:=sI o;refine goN ?_;refine eE rfl (fun _=>?_) (fun h=>by cases h);refine goN ?_;refine W2 (Y2:=⟨cH kp d st nm g.2 h,nx⟩) rfl rfl rfl rfl (zF _) (OL p V m y (fun k w t E F=>R k w t F)<|by simp[aH,aW]) ⟨st,rfl,?_⟩;show Sg.mk _ _=Sg.mk _ _;rw[qwx (nm:=nm) (fun k D=>BT k (by rw[<-I.len];exact D)) Y (fun r hr=>by rw[s4]at hr;rw[I.len];exact p.rt r hr),I.len,mi,eT]
 |some root=>
  rw[hr]at o;obtain⟨c,U,o⟩:=aJ o;obtain⟨y8,o⟩:=bU o;obtain rfl:=sI o;refine goN ?_;refine eE rfl (fun h=>by cases h) (fun _=>?_);refine I6.wf fun A _=>?_
  haveI:=m.gp
  haveI:=m.gr
  refine goN ?_;refine dE [(0,7),(0,8),(0,9),(1,7),(1,8),(2,7),(2,8),(3,7),(3,8),(4,7),(4,8)] ?_;refine cC ?_;refine FD rfl (hJ rfl yj rfl).2 (z7k m n (s6 root hr) U) rfl rfl ?_;obtain⟨L,e2,e3⟩:=qyb U Y
  let f:=kI nm g.2.N.length M
  let j:=M+(c.2.1.length-g.2.N.length)
  let P2:PP:={ g.2 with N:=c.2.1,size:=c.2.2 }
  have l:PH kp d st f P2 (cH kp d st f P2 H):=z7b m A e2 fun r hr=>YR (m.rt r hr) L.len;have vA:kp<j:=YR (show kp<M from(A _ _ m.b5).1)<|il _ _;have EV:d<j:=YR (show d<M from(A _ _ m.roots).1) (il _ _)
  haveI:=l.gp
  haveI:=l.gr
  haveI:Nq j kp:=⟨by rw[beq_eq];simp;omega⟩
  haveI:Nq j d:=⟨by rw[beq_eq];simp;omega⟩
  haveI:ca j (j+1):=⟨rfl⟩
  change RH _ _ _ _ _ (Sg.mk (cH kp d st f P2 H) j) _ _;refine dM ?_;have Z:gt ((j,.row [pt f c.1] 92)::cH kp d st f P2 H) d=some (.vec (g.2.roots.map<|eD f).flatten 92 1 st):=by rw[aR,hF af];exact l.roots
  have fO:rowOf (Sg.mk ((j,.row [pt f c.1] 92)::cH kp d st f P2 H)<|j+1) j=some [pt f c.1]:=by simp[rowOf,aR]
  refine RD.act rfl (qV rfl rfl rfl rfl (ED (eD f) [c.1] iQ.h iQ.h jI.h rfl (fun _=>rfl) Z (FU (eD f) [c.1] (q:=[pt f c.1]) fO rfl rfl rfl) ⟨by simp;omega,by simp;omega⟩)) rfl rfl ?_;have xw:eK (ug ((j,.row [pt f c.1] 92)::cH kp d st f P2 H) d<|.vec (List.map (eD f)<|g.2.roots++[c.1]).flatten 92 1 (st+1)) kp (.row [.iM hZ P2.H.Types,.iM jC P2.H.E6,.vl d st 0 P2.roots.length,.i6 P2.size,.i6 P2.gen] 83):=⟨by rw[bV,hF l.mY,aR,hF af];exact l.b5⟩
  haveI:=xw
  refine cC ?_;refine qB ?_;refine bB ⟨by kernel_rfl,⟨L6,L6,L6,L6,L6,L6,L6,L6,L6,L6,L6,trivial⟩,?_⟩
  let J:B:=.vec (List.map (eD f)<|g.2.roots++[c.1]).flatten 92 1 (st+1)
  let z:PP:={ g.2 with N:=c.2.1,size:=c.2.2,roots:=g.2.roots++[c.1] }
  let T:X (Nat×B):=(j,.row [pt f c.1] 92)::cH kp d st f P2 H
  let v:X (Nat×B):=ug (ug T d J) kp (.row (tX d (st+1) z) 83)
  have S:∀k,k≠kp->k≠d->k<j->gt v k=gt (cH kp d st f P2 H) k:=fun k w t E=>by simp only[v,T];rw[bV,hF<|WV w,bV,hF<|WV t,aR,hF af]
  have G:PH kp d (st+1) f z v:=by
   refine⟨?_,?_,fun i x W=>?_,l.inj,l.wf,fun r hr=>?_⟩;simp only[v];rw[bV,lr rfl,xw.h];rfl;simp only[v];rw[bV,hF<|WV l.mY,bV,lr rfl];simp only[T];rw[Z];rfl;have C:=pS W;have h7:f i<j:=by obtain s |s:=Zd i g.2.N.length;simp only[f];rw[BT i s];have:=m.lt A s;omega;simp only[f];rw[kI,hF af];have:i<c.2.1.length:=C;omega
   rw[S _ (l.jO C) (l.rF C) h7];exact l.node i x W;obtain hr |hr:=yD.1 hr;exact l.rt r hr;simp at hr;subst hr;exact e3
  change I6 _ _ _ _ (Sg.mk v<|j+1) _
  haveI:=G.gp
  haveI:=G.gr
  refine goN ?_;have kW:i64.wrap (((g.2.roots++[c.1]).length:Int)-1)=g.2.roots.length:=by rw[zU,oX aZ (by simp;omega)];simp
  have hM:nx<=M:=h5;have K:∀k,g.2.N.length<=k->f k=M+(k-g.2.N.length):=fun k D=>by simp only[f];rw[kI,hF af]
  have oP:P.N.length<=z.N.length:=by rw[<-y];exact L.len
  refine W2 rfl rfl rfl rfl (il _ _) (canon (P1:=z) (nm1:=f) (tm':=[.a7 [.i6 g.2.roots.length,.bool true]]) p V G oP (fun k D=>?_) (fun k a b=>?_) (fun k w t E F=>?_) ?_<|by simp[aH,aW]) ⟨st+1,rfl,rfl⟩;exact BT k (by rw[y];exact D);rw[K k (by rw[y];exact a)];show nx<=_;omega;have k1':k<nx:=w;rw[S k t E (by show k<M+_;omega),sn t E fun i C e=>?_];exact R k w t F;obtain s |s:=Zd i g.2.N.length;simp only[f]at e;rw[BT i s]at e;exact F i (by rw[<-y];exact s) e;rw[K i s]at e;omega;simp only[fP,rU];rw[<-kW]
end
def VZ(q:Nat):X Nat->Nat->V Nat
 |[],_=>none|k::out,s=>cond (Nat.beq k q) (some s) (VZ q out<|s+1)
def NM(F:X aK)(k:Nat)(l:X aI):X aK:=match F[k]? with
 |some x=>F.set k ⟨x.R,l⟩|none=>F
def Bh(g:Nat->X Nat×X aK->V (Nat×X Nat×X aK)):X eN->X Nat×X aK->X aI->V (X aI×X Nat×X aK)
 |[],s,b=>some (b,s)|a::l,s,b=>aE (b.length<=1000000) (a8 (g a.to s) fun r=>Bh g l r.2<|b++[⟨a.f,r.1⟩])
def E8(N:X PN):Nat->Nat->X Nat×X aK->V (Nat×X Nat×X aK)
 |0,_,_=>none|m+1,p,s=>match VZ p s.1 0 with
  |some k=>some (k,s)|none=>a8 N[p]? fun x=>aE (s.2.length<=1000000/\x.E3.length<=1000000) (a8 (Bh (E8 N m) x.E3 (s.1++[p],s.2++[⟨x.kind,[]⟩]) []) fun r=>some (s.2.length,r.2.1,NM r.2.2 s.2.length r.1))
def IF(nm:Nat->Nat)(s:Nat)(out:X Nat):X (Nat×U×Nat):=(out.zipIdx s).map fun p=>(nm p.1,.i6 (p.2:Nat),p.2)
def zc2(nm:Nat->Nat)(s:Nat)(out:X Nat)(q:Nat):IF nm s (out++[q])=IF nm s out++[(nm q,.i6 ((s+out.length:Nat):Int),s+out.length)]:=by simp[IF,zipIdx_append]
def cz{nm:Nat->Nat}{n:Nat}(a:∀i j,i<n->j<n->nm i=nm j->i=j){q:Nat}(b:q<n):∀(out:X Nat)(s:Nat),(∀k∈out,k<n)->y6 (nm q) (IF nm s out)=(VZ q out s).map fun k=>.i6 (k:Nat)
 |[],s,_=>rfl|k::out,s,h=>by have c:=cz a b out (s+1) fun k f=>h k (by simp[f]);simp only[IF,E',zQ,y6,VZ]at c ⊢;rw[c];by_cases e:k=q;subst e;simp[beq_eq];have:nm k≠nm q:=fun d=>e<|a k q (h k aZ) b d;simp[beq_eq,this,e]
def qv2{nm:Nat->Nat}{h:X (Nat×B)}{n:Nat}(d:∀i,i<n->cA h (nm i)):∀(out:X Nat)(s:Nat),(∀k∈out,k<n)->∀e∈IF nm s out,cA h e.1:=fun out s b e a=>by
 simp only[IF,fA]at a;obtain⟨p,c,rfl⟩:=a;exact d _ (b _<|Jk c)
structure VI(nm:Nat->Nat)(N:X PN)(K6 Km K7 Kv K8:Nat)(s:X Nat×X aK)(h:X (Nat×B)):Prop where
 k6:gt h K6=some (.row [.map Km] 108)
 km:gt h Km=some (.map ((IF nm 0 s.1).map pE) s.1.length)
 k7:gt h K7=some (.row [.vl Kv s.2.length 0 s.2.length] 39)
 kv:gt h Kv=some (.bv bA s.2 79 2 s.2.length)
 k8:gt h K8=some (.row [.fn (.func 43) [] [.ptr K6 0 0,.ptr K7 0 0,.ptr K8 0 0]] 109)
 nd:∀(i:Nat)(x:PN),N[i]? = some x->gt h (nm i)=some (.row (pZ nm x) 103)
 inj:∀i j,i<N.length->j<N.length->nm i=nm j->i=j
 lt:∀p∈s.1,p<N.length
 eq:s.1.length=s.2.length
def vH(nm:Nat->Nat)(c b a:Nat)(s:X Nat×X aK)(h:X (Nat×B)):X (Nat×B):=
 (c,.map ((IF nm 0 s.1).map pE) s.1.length)::(b,.row [.vl a s.2.length 0 s.2.length] 39)::(a,.bv bA s.2 79 2 s.2.length)::h
section
variable{nm:Nat->Nat}{N:X PN}{d o t z A:Nat}{s s':X Nat×X aK}{h:X (Nat×B)}{nx:Nat}
def VI.ne(v:VI nm N d o t z A s h):o≠t/\o≠z/\t≠z/\d≠o/\d≠t/\d≠z/\A≠o/\A≠t/\A≠z/\∀i,i<N.length->nm i≠o/\nm i≠t/\nm i≠z:=by refine⟨fun e=>?_,fun e=>?_,fun e=>?_,fun e=>?_,fun e=>?_,fun e=>?_,fun e=>?_,fun e=>?_,fun e=>?_,fun i b=>?_⟩;have:=v.km;rw[e,v.k7]at this;cases this;have:=v.km;rw[e,v.kv]at this;cases this;have:=v.k7;rw[e,v.kv]at this;cases this;have:=v.k6;rw[e,v.km]at this;cases this;have:=v.k6;rw[e,v.k7]at this;simp at this;have:=v.k6;rw[e,v.kv]at this;cases this;have:=v.k8;rw[e,v.km]at this;cases this;have:=v.k8;rw[e,v.k7]at this;simp at this;have:=v.k8;rw[e,v.kv]at this;cases this;have a:=v.nd i _<|lq b;refine⟨fun e=>?_,fun e=>?_,fun e=>?_⟩;rw[e,v.km]at a;cases a;rw[e,v.k7]at a;simp at a;rw[e,v.kv]at a;cases a
def Ky{k:Nat}(a:k≠o)(b:k≠t)(c:k≠z):gt (vH nm o t z s h) k=gt h k:=by rw[vH,aR,hF<|WV a,aR,hF<|WV b,aR,hF<|WV c]
variable{H:X (Nat×B)}
def VI.to(v:VI nm N d o t z A s h)(e:∀k,k≠o->k≠t->k≠z->∀b,gt h k=some b->gt H k=some b)(f:gt H o=some (.map ((IF nm 0 s'.1).map pE) s'.1.length))(g:gt H t=some (.row [.vl z s'.2.length 0 s'.2.length] 39))(j:gt H z=some (.bv bA s'.2 79 2 s'.2.length))(lt:∀p∈s'.1,p<N.length)(eq:s'.1.length=s'.2.length):VI nm N d o t z A s' H:=by obtain⟨n1,w,y,l,m,n,q,r,u,c⟩:=v.ne;exact⟨e _ l m n _ v.k6,f,g,j,e _ q r u _ v.k8,fun i x a=>e _ (c i<|pS a).1 (c i<|pS a).2.1 (c i<|pS a).2.2 _ (v.nd i x a),v.inj,lt,eq⟩
def VI.vh(v:VI nm N d o t z A s h)(lt:∀p∈s'.1,p<N.length)(eq:s'.1.length=s'.2.length):VI nm N d o t z A s' (vH nm o t z s' h):=by obtain⟨g,i,j,m,n,q,r,u,w,l⟩:=v.ne;refine v.to (fun k c e f b a=>by rw[Ky c e f];exact a) ?_ ?_ ?_ lt eq;rw[vH,aR,lr rfl];rw[vH,aR,hF g,aR,lr rfl];rw[vH,aR,hF i,aR,hF j,aR,lr rfl]
def VI.row(v:VI nm N d o t z A s h):∀i,i<N.length->cA h (nm i):=fun i a=>⟨_,_,v.nd i _<|lq a⟩
def TW(v:VI nm N d o t z A s h)(c:qA ⟨h,nx⟩){M:Nat}{m:X U}(P:nx<=M)(r:VI nm N d o t z A s' H)(L:∀k,k<nx->k≠o->k≠t->k≠z->gt H k=gt h k)(F:aH nx m):Gh nx m ⟨H,M⟩ m ⟨vH nm o t z s' h,nx⟩:=by
 have w:o<nx:=(c _ _ v.km).1;have u:t<nx:=(c _ _ v.k7).1;have y:z<nx:=(c _ _ v.kv).1;have D:∀i,i<N.length->nm i<nx:=fun i I=>(c _ _<|v.nd i _<|lq I).1;refine Gh.CH id (fun _ _=>rfl) (zF _) (fun k b a=>?_) (fun k Q b O _ _ e=>e) (P5 m) F;have key:k<nx/\cc nx b/\gt H k=some b:=by rw[vH,aR]at a;by_cases g:o=k;rw[lr g]at a;cases a;subst g;refine⟨w,fun e G=>?_,r.km⟩;obtain⟨q,K,rfl⟩:=mem_map.1 G;obtain⟨p,J,rfl⟩:=mem_map.1 K;exact⟨D _<|r.lt _<|Jk J,trivial⟩;rw[hF g,aR]at a;by_cases j:t=k;rw[lr j]at a;cases a;subst j;exact⟨u,⟨y,trivial⟩,r.k7⟩;rw[hF j,aR]at a;by_cases l:z=k;rw[lr l]at a;cases a;subst l;exact⟨y,QM nx (fun x=>y5 nx x) _,r.kv⟩;rw[hF l]at a;obtain⟨C,E⟩:=c k b a;exact⟨C,E,by rw[L k C (WV g) (WV j)<|WV l];exact a⟩
 refine⟨key.1,key.2.1,?_⟩;rw[zb2 (f:=id) (n:=nx) (fun _ _=>rfl) b key.2.1];exact key.2.2
def Tw(v:VI nm N d o t z A s h)(f:qA ⟨h,nx⟩)(c:VI nm N d o t z A s' H)(w:∀k,k<nx->k≠o->k≠t->k≠z->gt H k=gt h k):∀k b,k<nx->gt H k=some b->cc nx b:=fun k b n a=>by
 have l:z<nx:=(f _ _ v.kv).1;by_cases g:k=o;rw[g,c.km]at a;cases a;intro e m;obtain⟨q,u,rfl⟩:=mem_map.1 m;obtain⟨p,r,rfl⟩:=mem_map.1 u;exact⟨(f _ _<|v.nd _ _<|lq<|c.lt _<|Jk r).1,trivial⟩;by_cases i:k=t;rw[i,c.k7]at a;cases a;exact⟨l,trivial⟩;by_cases j:k=z;rw[j,c.kv]at a;cases a;exact QM nx (fun x=>y5 nx x) _;rw[w k n g i j]at a;exact(f k b a).2
def vfz(v:VI nm N d o t z A s h)(g:qA ⟨h,nx⟩)(i:VI nm N d o t z A s' H)(f:∀k,k<nx->k≠o->k≠t->k≠z->gt H k=gt h k){Ka sz:Nat}{b:B}(a:nx<=Ka):∀k,k<nx->gt (dd Ka b sz H) k=gt H k:=fun k c=>by
 rw[D0,hF af];rcases e:gt H k with _|b';rfl;simp only[zM];rw[Mr _ _<|Mu a<|Tw v g i f k b' c e]
def VI.low(v:VI nm N d o t z A s h)(g:qA ⟨h,nx⟩){e:X (Nat×B)}(a:VI nm N d o t z A s' H)(c:∀k,k<nx->gt e k=gt H k):VI nm N d o t z A s' e:=by have lt:∀{k b},gt h k=some b->k<nx:=fun{k b} hk=>(g k b hk).1;exact⟨by rw[c _<|lt v.k6];exact a.k6,by rw[c _<|lt v.km];exact a.km,by rw[c _<|lt v.k7];exact a.k7,by rw[c _<|lt v.kv];exact a.kv,by rw[c _<|lt v.k8];exact a.k8,fun i x f=>by rw[c _<|lt<|v.nd i x f];exact a.nd i x f,a.inj,a.lt,a.eq⟩
def S'(F:X aK)(k:Nat)(l:X aI):(NM F k l).length=F.length:=by unfold NM;split<;>simp
def SP(N:X PN)(s s':X Nat×X aK):Prop:=(∀q∈s'.1,q<N.length)/\s'.1.length=s'.2.length/\s.2.length<=s'.2.length
def qyf{N:X PN}{g:Nat->X Nat×X aK->V (Nat×X Nat×X aK)}(j:∀p s r,g p s=some r->p<N.length->(∀q∈s.1,q<N.length)->s.1.length=s.2.length->SP N s r.2):∀(l:X eN)(s:X Nat×X aK)(c:X aI)(r:X aI×X Nat×X aK),Bh g l s c=some r->(∀a∈l,a.to<N.length)->(∀q∈s.1,q<N.length)->s.1.length=s.2.length->SP N s r.2
 |[],s,c,r,h,_,e,f=>by obtain rfl:=sI h;exact⟨e,f,zF _⟩
 |a::l,s,c,r,h,k,e,f=>by obtain⟨_,h⟩:=bU h;obtain⟨C,i,h⟩:=aJ h;obtain⟨n,u,v⟩:=j _ _ _ i (k a aZ) e f;obtain⟨w,x,y⟩:=qyf j l _ _ _ h (fun b m=>k b<|by simp[m]) n u;exact⟨w,x,Zt v y⟩
def qvs{N:X PN}(wf:∀x∈N,lQ N.length x):∀(m p:Nat)(s:X Nat×X aK)(r:Nat×X Nat×X aK),E8 N m p s=some r->p<N.length->(∀q∈s.1,q<N.length)->s.1.length=s.2.length->SP N s r.2
 |0,_,_,_,h,_,_,_=>by cases h
 |m+1,p,s,r,h,g,b,c=>by
  cases e:VZ p s.1 0 with
  |some k=>rw[E8,e]at h;obtain rfl:=sI h;exact⟨b,c,zF _⟩
  |none=>rw[E8,e]at h;obtain⟨x,i,h⟩:=aJ h;obtain⟨_,h⟩:=bU h;obtain⟨u,f,h⟩:=aJ h;obtain rfl:=sI h;obtain⟨j,l,n⟩:=qyf (qvs wf m) _ _ _ _ f (wf x<|zX i).E3 (fun q a=>by obtain a |a:=yD.1 a;exact b q a;simp at a;subst a;exact g) (by simp[c]);refine⟨j,by simp only[S'];exact l,?_⟩;simp only[S'];simp at n;omega
def qz9:∀(m:Nat){s:X Nat×X aK}{h:X (Nat×B)}{nx p:Nat}{r:Nat×X Nat×X aK},VI nm N d o t z A s h->(∀x∈N,lQ N.length x)->p<N.length->E8 N m p s=some r->
  b7 prog 43 [pt nm p,.ptr d 0 0,.ptr t 0 0,.ptr A 0 0] ⟨h,nx⟩ (fun u Y'=>u=.i6 (r.1:Nat)/\Y'=⟨vH nm o t z r.2 h,nx⟩)
 |0,_,_,_,_,_,_,_,_,O=>by cases O
 |m+1,s,h,nx,p,r,v,wf,K,O=>by
  haveI:eK h d (.row [.map o] 108):=⟨v.k6⟩
  cases Z:VZ p s.1 0 with
  |some k=>rw[E8,Z]at O;obtain rfl:=sI O;refine b7.wf fun n _=>?_;refine Kd 63 T4 ?_;refine goN ?_;refine DY rfl (fY.lO bQ (zu:=.i6 0) rfl J2.h iP.h (aV nW.h) eP.h rfl (dY rfl) (dY rfl) v.km (v.row p K) (qv2 v.row s.1 0 v.lt)) ?_;rintro _ _ ⟨rfl,rfl⟩;rw[cz v.inj K s.1 0 v.lt,Z];refine goN ?_;refine eE rfl (fun V=>?_) (fun V=>by cases V);refine goN ?_;exact se (w:=.i6 (k:Nat)) (Y2:=⟨vH nm o t z s h,nx⟩) rfl rfl rfl (zF _) (TW v n (zF _) v (fun _ _ _ _ _=>rfl)<|by simp[aH,aW]) ⟨rfl,rfl⟩
  |none=>
   rw[E8,Z]at O;obtain⟨x,hx,O⟩:=aJ O;obtain⟨⟨yF,S9⟩,O⟩:=bU O;obtain⟨e,hA,O⟩:=aJ O;obtain rfl:=sI O;have gN:=wf x<|zX hx;have:b7 prog 43 [pt nm p,.ptr d 0 0,.ptr t 0 0,.ptr A 0 0] ⟨h,nx⟩ (fun u Y'=>u=.i6 (s.2.length:Nat)/\Y'=⟨vH nm o t z (e.2.1,NM e.2.2 s.2.length e.1) h,nx⟩):=by
    refine b7.wf fun n _=>?_;obtain⟨n1,n2,n3,n4,n5,n6,n7,n8,n9,Py⟩:=v.ne;have hkm:o<nx:=(n _ _ v.km).1;have hk7:t<nx:=(n _ _ v.k7).1;have Qr:z<nx:=(n _ _ v.kv).1;have hk8:A<nx:=(n _ _ v.k8).1;have hnp:nm p<nx:=(n _ _<|v.nd p x hx).1
    haveI:eK h t (.row [.vl z s.2.length 0 s.2.length] 39):=⟨v.k7⟩
    haveI:eK h z (.vec (s.2.map bA).flatten 79 2 s.2.length):=⟨v.kv⟩
    refine Kd 63 T4 ?_;refine goN ?_;refine DY rfl (fY.lO bQ (zu:=.i6 0) rfl J2.h iP.h (aV nW.h) eP.h rfl (dY rfl) (dY rfl) v.km (v.row p K) (qv2 v.row s.1 0 v.lt)) ?_;rintro _ _ ⟨rfl,rfl⟩;rw[cz v.inj K s.1 0 v.lt,Z];refine goN ?_;refine eE rfl (fun V=>by cases V) (fun V=>?_);refine goN ?_;refine RS.lS rfl (fY.pins bQ (v:=.i6 (s.2.length:Nat)) (.inl rfl) J2.h iP.h (aV nW.h) (dY rfl) (dY rfl) (dY rfl) v.km (v.row p K) (qv2 v.row s.1 0 v.lt) (by rw[cz v.inj K s.1 0 v.lt,Z];rfl)) ?_;rintro _ _ ⟨rfl,rfl⟩
    let I:B:=.map ((IF nm 0 s.1++[(nm p,U.i6 (s.2.length:Nat),s.1.length)]).map pE) (s.1.length+1)
    change RU _ _ _ _ _ (Sg.mk (ug h o I) nx) _
    haveI:ca nx (nx+1):=⟨rfl⟩
    haveI:eK (ug h o I) t (.row [.vl z s.2.length 0 s.2.length] 39):=⟨by rw[bV,hF n1];exact v.k7⟩
    haveI:eK (ug h o I) (nm p) (.row [.i6 x.kind,.iM (bZ nm) x.E3,po nm x.fw,.i6 x.c3,.i6 x.mt,.i6 x.b8,.iM (bZ nm) x.more,.i6 x.K2,po nm x.cp,.i6 x.c6,.bool x.ch,.i6 x.c4] 103):=⟨by rw[bV,hF<|WV (Py p K).1];exact v.nd p x hx⟩
    haveI:Nq nx t:=⟨by rw[beq_eq];simp;omega⟩
    refine goN ?_;refine dE [(0,7),(1,7)] ?_;refine cC ?_;refine dM ?_;have wW:gt ((nx,.row [.i6 x.kind,.J] 79)::ug h o I) z=some (.vec (s.2.map bA).flatten 79 2 s.2.length):=by rw[aR,hF af,bV,hF n2];exact v.kv
    have fO:rowOf (Sg.mk ((nx,.row [.i6 x.kind,.J] 79)::ug h o I)<|nx+1) nx=some [.i6 x.kind,.J]:=by simp[rowOf,aR]
    refine RD.act rfl (qV rfl rfl rfl rfl (ED bA [⟨x.kind,[]⟩] iR.h iR.h nL.h rfl (fun _=>rfl) wW (FU bA [⟨x.kind,[]⟩] (q:=[.i6 x.kind,.J]) fO rfl rfl rfl) ⟨by simp;omega,by simp;omega⟩)) rfl rfl ?_
    haveI:eK (ug ((nx,.row [.i6 x.kind,.J] 79)::ug h o I) z<|.vec (List.map bA<|s.2++[⟨x.kind,[]⟩]).flatten 79 2 (s.2.length+1)) t (.row [.vl z s.2.length 0 s.2.length] 39):=⟨by rw[bV,hF<|WV n3,aR,hF af,bV,hF n1];exact v.k7⟩
    refine cC ?_;refine qB ?_;refine bB ⟨by kernel_rfl,⟨L6,L6,trivial⟩,?_⟩
    let Q:X Nat×X aK:=(s.1++[p],s.2++[⟨x.kind,[]⟩])
    let V1:B:=.vec (List.map bA<|s.2++[⟨x.kind,[]⟩]).flatten 79 2 (s.2.length+1)
    let R1:B:=.row [.vl z (s.2.length+1) 0 (s.2++[(⟨x.kind,[]⟩:aK)]).length] 39
    let G:X (Nat×B):=ug (ug ((nx,.row [.i6 x.kind,.J] 79)::ug h o I) z V1) t R1
    change BP _ _ _ _ (Sg.mk G<|nx+1);have g7:gt (ug ((nx,.row [.i6 x.kind,.J] 79)::ug h o I) z V1) t=some (.row [.vl z s.2.length 0 s.2.length] 39):=by rw[bV,hF<|WV n3,aR,hF af,bV,hF n1];exact v.k7
    have W:∀k,k<nx->k≠o->k≠t->k≠z->gt G k=gt h k:=fun k F C D i=>by simp only[G];rw[bV,hF<|WV D,bV,hF<|WV i,aR,hF af,bV,hF<|WV C]
    have v1:VI nm N d o t z A Q G:=by refine v.to (fun k C D i b hb=>by rw[W k (n k b hb).1 C D i];exact hb) ?_ ?_ ?_ (fun q R=>?_) (by simp[Q,v.eq]);simp only[G];rw[bV,hF<|WV n1,bV,hF<|WV n2,aR,hF af,bV,lr rfl,v.km];simp only[I,Q,zM,zc2,v.eq,Ty,zU,zO,zS];simp only[G];rw[bV,lr rfl,g7];simp[R1,Q];simp only[G];rw[bV,hF n3,bV,lr rfl,wW];simp[V1,Q,B.bv];obtain R |R:=yD.1 R;exact v.lt q R;simp at R;subst R;exact K
    haveI:eK G (nm p) (.row [.i6 x.kind,.iM (bZ nm) x.E3,po nm x.fw,.i6 x.c3,.i6 x.mt,.i6 x.b8,.iM (bZ nm) x.more,.i6 x.K2,po nm x.cp,.i6 x.c6,.bool x.ch,.i6 x.c4] 103):=⟨v1.nd p x hx⟩
    refine goN ?_;refine gV 9 105 2 (nx+2) ?_ (h0:=MD _);have ID:∀k,k<nx->gt ((nx+1,.vec [] 105 2 0)::G) k=gt G k:=fun k hk=>by rw[aR,hF af]
    refine gL (fun m' tm Y=>∃(j st:Nat)(E:X aI)(s2:X Nat×X aK)(H:X (Nat×B))(M:Nat),m'=x.E3.length-j/\j<=x.E3.length/\Bh (E8 N m) (x.E3.drop j) s2 E=some e/\tm=fr 63 [(2,.ptr t 0 0),(3,.ptr A 0 0),(8,.i6 (s.2.length:Nat)),(9,.vl (nx+1) st 0 E.length),(39,.iM (bZ nm) x.E3),(40,.i6 x.E3.length),(41,.i6 j)]/\Y=⟨H,M⟩/\nx+1<M/\VI nm N d o t z A s2 H/\s.2.length<s2.2.length/\gt H (nx+1)=some (.bv aU E 105 2 st)/\∀k,k<nx->k≠o->k≠t->k≠z->gt H k=gt h k) (fun tm Y=>∃(H:X (Nat×B))(M:Nat),tm=fr 63 [(2,.ptr t 0 0),(8,.i6 (s.2.length:Nat)),(9,.iM aU e.1)]/\Y=⟨H,M⟩/\nx+1<M/\VI nm N d o t z A e.2 H/\s.2.length<e.2.2.length/\∀k,k<nx->k≠o->k≠t->k≠z->gt H k=gt h k) x.E3.length
     ⟨0,0,[],Q,_,nx+2,rfl,qq _,hA,rfl,rfl,zN _,v.low n v1 ID,by simp[Q],by simp[aR],fun k F C D i=>by rw[ID k F];exact W k F C D i⟩ ?_ ?_ (by show nx<=nx+2;omega)
    rintro _ _ ⟨H,M,rfl,rfl,hM,g,aG,T⟩;have hKk:∃nd,e.2.2[s.2.length]? = some nd:=⟨_,lq aG⟩;obtain⟨nd,pD⟩:=hKk;have DJ:NM e.2.2 s.2.length e.1=e.2.2.set s.2.length ⟨nd.R,e.1⟩:=by unfold NM;rw[pD]
    haveI:eK H t (.row [.vl z e.2.2.length 0 e.2.2.length] 39):=⟨g.k7⟩
    have hv:pR (Sg.mk H M) z e.2.2.length=some ((e.2.2.map bA).flatten,79,2):=by simp[pR,g.kv,B.bv]
    have m6:aB e.2.2 ((s.2.length:Nat):Int)=some nd:=by rw[aB,lr ⟨by omega,by omega⟩];simpa using pD
    refine goN ?_;refine RS.w rfl (cV rfl rfl (gP bA iR.h (aV nL.h) bF (fun _=>rfl) hv m6)) ?_;refine RS.w rfl (oW uS.h rfl (aV iG.h) rfl (EC g.kv) rfl) ?_;have m5:gU e.2.2 0 e.2.2.length ((s.2.length:Nat):Int)=some nd:=by rw[gU,lr ⟨by omega,by omega⟩];simpa using pD
    refine RS.wn rfl (sa (Y:=⟨H,M⟩) (y:=(⟨nd.R,e.1⟩:aK)) bA (aV iG.h) (fun _=>rfl) rfl rfl rfl rfl rfl g.kv m5 rfl rfl) ?_;refine goN ?_;have SA:∀k,k≠z->gt (ug H z<|.vec ((e.2.2.set (0+((s.2.length:Nat):Int).toNat) ⟨nd.R,e.1⟩).map bA).flatten 79 2 e.2.2.length) k=gt H k:=fun k hk=>by rw[bV,hF<|WV hk]
    have v4:VI nm N d o t z A (e.2.1,NM e.2.2 s.2.length e.1) (ug H z<|.vec ((e.2.2.set (0+((s.2.length:Nat):Int).toNat) ⟨nd.R,e.1⟩).map bA).flatten 79 2 e.2.2.length):=by refine g.to (fun k C D i b hb=>by rw[SA k i];exact hb) (by rw[SA _ n2];exact g.km) (by rw[SA _ n3,g.k7];simp only[S']) ?_ g.lt (by simp only[S'];exact g.eq);rw[bV,lr rfl,g.kv];simp[B.bv,DJ]
    exact se (w:=.i6 (s.2.length:Nat)) (Y2:=⟨vH nm o t z (e.2.1,NM e.2.2 s.2.length e.1) h,nx⟩) rfl rfl rfl (zF _) (TW v n (by show nx<=M;omega) v4 (fun k F C D i=>by rw[SA k i];exact T k F C D i)<|by simp[aH,aW]) ⟨rfl,rfl⟩;rintro _ _ _ ⟨j,st,E,s2,H,M,rfl,hj,J,rfl,rfl,hM,g,aG,Hl,T⟩;refine I6.wf fun nM _=>?_
    haveI:ca M (M+1):=⟨rfl⟩
    refine goN ?_;refine eE rfl (fun h9=>?_) (fun h9=>?_)
    ·have S:j<x.E3.length:=by simpa using h9
     obtain⟨a,ha⟩:∃a,x.E3[j]? = some a:=⟨_,lq S⟩;have DP:aB x.E3 (j:Int)=some a:=by rw[aB,lr ⟨by omega,by omega⟩];simpa using ha
     have LH:x.E3.drop j=a::x.E3.drop (j+1):=by rw[Zq S];rw[lq S]at ha;cases ha;rfl
     have DF:i64.wrap ((j:Int)+1)=((j+1:Nat):Int):=by rw[oX af af];rfl
     rw[LH]at J;obtain⟨mX,J⟩:=bU J;obtain⟨l,GG,J⟩:=aJ J;have lJ:=gN.E3 a<|zX ha;obtain⟨t1,t2,t3⟩:=qvs wf m _ _ _ GG lJ g.lt g.eq;have v3:VI nm N d o t z A s2 ((M,.row (bZ nm a) 107)::H):=v.low n g fun k hk=>by rw[aR,hF af]
     haveI:eK ((M,.row (bZ nm a) 107)::H) A (.row [.fn (.func 43) [] [.ptr d 0 0,.ptr t 0 0,.ptr A 0 0]] 109):=⟨v3.k8⟩
     refine goN ?_;apply cK;refine goN ?_;refine c8 DP ?_;refine goN ?_;refine dE [(0,6),(0,8),(1,6),(2,6)] ?_;refine cC ?_;refine FD rfl (qW rfl rfl T4 rfl rfl aZ) (qz9 m v3 wf lJ GG) rfl rfl ?_;have L:M≠o/\M≠t/\M≠z:=⟨by omega,by omega,by omega⟩;have P:nx+1≠o/\nx+1≠t/\nx+1≠z:=⟨by omega,by omega,by omega⟩
     haveI:eK (vH nm o t z l.2 ((M,.row (bZ nm a) 107)::H)) M (.row (bZ nm a) 107):=⟨by rw[Ky L.1 L.2.1 L.2.2,aR,lr rfl]⟩
     haveI:ca (M+1) (M+2):=⟨rfl⟩
     haveI:Nq (M+1) M:=⟨by rw[beq_eq];simp⟩
     refine cC ?_;refine dM ?_;have xy:gt ((M+1,.row [.i6 a.f,.i6 (l.1:Nat)] 105)::vH nm o t z l.2 ((M,.row (bZ nm a) 107)::H)) (nx+1)=some (.vec (E.map aU).flatten 105 2 st):=by rw[aR,hF af,Ky P.1 P.2.1 P.2.2,aR,hF af];exact Hl
     have hro5:rowOf (Sg.mk ((M+1,.row [.i6 a.f,.i6 (l.1:Nat)] 105)::vH nm o t z l.2 ((M,.row (bZ nm a) 107)::H))<|M+2) (M+1)=some [.i6 a.f,.i6 (l.1:Nat)]:=by simp[rowOf,aR]
     refine RD.act rfl (qV rfl rfl rfl rfl (ED aU [⟨a.f,(l.1:Nat)⟩] dL.h dL.h dI.h rfl (fun _=>rfl) xy (FU aU [⟨a.f,(l.1:Nat)⟩] (q:=[.i6 a.f,.i6 (l.1:Nat)]) hro5 rfl rfl rfl) ⟨by simp;omega,by simp;omega⟩)) rfl rfl ?_;refine cC ?_;refine bB ⟨by kernel_rfl,⟨jA rfl,jA rfl,L6,L6,trivial⟩,?_⟩;refine goN ?_;have rW:∀k,k<nx->gt (ug ((M+1,.row [.i6 a.f,.i6 (l.1:Nat)] 105)::vH nm o t z l.2 ((M,.row (bZ nm a) 107)::H)) (nx+1)<|.vec ((E++[(⟨a.f,(l.1:Nat)⟩:aI)]).map aU).flatten 105 2 (st+1)) k=gt (vH nm o t z l.2 ((M,.row (bZ nm a) 107)::H)) k:=fun k hk=>by rw[bV,hF af,aR,hF af]
     refine⟨x.E3.length-(j+1),_,_,by omega,⟨j+1,st+1,E++[⟨a.f,(l.1:Nat)⟩],l.2,_,M+2,rfl,S,J,rfl,rfl,by omega,v.low n (v3.vh t1 t2) rW,by omega,?_,fun k F C D i=>?_⟩,by show nx<=M+2;omega,Gh.sub ?_⟩;rw[bV,lr rfl,xy];rfl;rw[rW k F,Ky C D i,aR,hF af];exact T k F C D i
     ·rw[<-DF];(repeat refine⟨rfl,?_⟩);exact trivial
    ·refine goN ?_;have S:j=x.E3.length:=by
      have:¬ (j:Int)<x.E3.length:=by simpa using h9
      omega
     subst S;rw[pw]at J;obtain rfl:=sI J;have hz:=vfz v n g T (Ka:=nx+1) (sz:=2) (b:=.bv aU E 105 2 st)<|MD _;refine⟨_,⟨_,M⟩,⟨_,M,rfl,rfl,hM,v.low n g hz,aG,fun k F C D i=>by rw[hz k F];exact T k F C D i⟩,by show nx<=M;omega,Gh.trans (Gh.sub (l':=[(2,.ptr t 0 0),(8,.i6 (s.2.length:Nat)),(9,.vl (nx+1) st 0 E.length)])<|by((repeat refine⟨rfl,?_⟩);exact trivial))<|Gh.iJ (Y:=⟨H,M⟩) (nx+1) (.bv aU E 105 2 st) 2 Hl nofun ?_ rfl⟩;have e1:=HL (c:=aU) (sz:=2) (fun _=>rfl) E (nx+1) 2 105 st;simp only[Vx.iJ];rw[e1,Q5 _ _ _ (show aW (nx+1) (.ptr t 0 0) by show t<nx+1;omega)];rfl
   exact this
end
def P7{h:X (Nat×B)}{N k:Nat}{l:X U}{e:TypeId}(a:gt h k=some (.row l e)):cellsOf (Sg.mk h N) k 0=some l:=by simp[cellsOf,a]
def CW(n:Nat)(P:PP)(k:Int):V (az×FK):=
 cond (decide (k<0)) (some (⟨[]⟩,false)) (cond (decide (k>=(P.roots.length:Int))) (some (⟨[]⟩,false))<|a8 (aB P.roots k) fun r=>a8 (E8 P.N n r ([],[])) fun s=>some (⟨s.2.2⟩,true))
section
variable{kp d st:Nat}{nm:Nat->Nat}{P:PP}{h:X (Nat×B)}{nx:Nat}
def qw3(p:PH kp d st nm P h)(n:Nat){k:Int}{r:az×FK}(O:CW n P k=some r):
  b7 prog 19 [.ptr kp 0 0,.i6 k] ⟨h,nx⟩ (fun u Y'=>u=.a7 [.agg<|eY r.1,.bool r.2]/\Y'=⟨h,nx⟩):=by
 refine b7.wf fun o _=>?_;have M:kp<nx:=(o _ _ p.b5).1;have C:d<nx:=(o _ _ p.roots).1
 haveI:ca nx (nx+1):=⟨rfl⟩
 haveI:ca (nx+1) (nx+2):=⟨rfl⟩
 haveI:ca (nx+2) (nx+3):=⟨rfl⟩
 haveI:ca (nx+3) (nx+4):=⟨rfl⟩
 haveI:ca (nx+4) (nx+5):=⟨rfl⟩
 have I:∀{a b:Nat},b<a->Nq a b:=fun h=>⟨by rw[beq_eq];simp;omega⟩
 haveI:Nq nx kp:=I M
 haveI:Nq nx d:=I C
 haveI:=p.gp
 haveI:=p.gr
 have early:∀{H:X (Nat×B)}{N:Nat},(∀k,k<nx->gt H k=gt h k)->nx<=N->Gh nx [.a7 [.agg [.J],.bool false]] ⟨H,N⟩ [.a7 [.agg<|eY ⟨[]⟩,.bool false]] ⟨h,nx⟩:=fun A S=>(Gh.wk<|.cons (.a7<|.cons (.agg<|.cons (.nil false) .nil)<|.cons (.refl _) .nil) .nil).trans (Gh.back o A S (by simp[eY,aH,aW,lU])<|zF _);refine eO 33 GP ?_;refine goN ?_;unfold CW at O;cases F:decide (k<0)with
 |true=>rw[F]at O;obtain rfl:=sI O;refine goN ?_;refine eE rfl (fun _=>?_) (fun h=>by cases h);refine goN ?_;exact⟨.inr rfl,_,nK (kR fH.h rfl (aV fZ.h) rfl (P7<|by rw[aR,lr rfl]) rfl)<|dP rfl dU,_,⟨h,nx⟩,zF _,early (fun k g=>by rw[aR,hF af])<|MD _,rfl,rfl⟩
 |false=>
 rw[F]at O;cases z:decide (k>=(P.roots.length:Int))with
 |true=>rw[z]at O;obtain rfl:=sI O;refine goN ?_;refine eE rfl (fun _=>?_) (fun h=>absurd (z.symm.trans h) nofun);refine goN ?_;exact⟨.inr rfl,_,nK (kR fH.h rfl (aV fZ.h) rfl (P7<|by rw[aR,lr rfl]) rfl)<|dP rfl dU,_,⟨h,nx⟩,zF _,early (fun k g=>by rw[aR,hF af])<|MD _,rfl,rfl⟩
 |false=>
 rw[z]at O;obtain⟨J,y,s,A,O⟩:=bO O;obtain rfl:=sI O;refine goN ?_;refine eE rfl (fun h=>absurd (z.symm.trans h) nofun) (fun _=>?_);refine goN ?_;refine RS.w rfl z3t ?_;refine goN ?_;refine RS.w rfl (Lx rfl rfl) ?_;refine gnN ?_
 let t:B:=.row [.fn (.func 43) [] [.ptr (nx+2) 0 0,.ptr (nx+3) 0 0,.ptr (nx+4) 0 0]] 109
 let j:X (Nat×B):=(nx+4,t)::(nx+3,.row [.J] 39)::(nx+2,.row [.map<|nx+1] 108)::(nx+1,.map [] 0)::(nx,.row [.J] 39)::h
 change I6 _ _ _ _ (Sg.mk j<|nx+5) _;have V:gt j (nx+3)=some (.row [.J] 39):=by simp[j,aR]
 refine cD (xK (Y:=⟨j,nx+5⟩) (nx+3) 0 79 2 bF (by show nx<=nx+5;omega) V rfl) (by show nx<=nx+6;omega) ?_
 let f:X (Nat×B):=(nx+5,.vec [] 79 2 0)::(nx+4,t)::(nx+3,.row [.vl (nx+5) 0 0 0] 39)::(nx+2,.row [.map<|nx+1] 108)::(nx+1,.map [] 0)::(nx,.row [.J] 39)::h
 refine I6.eqv rfl (Y':=⟨f,nx+6⟩) (by simp[j,f,bE,ug,beq_eq]) ?_;have q:∀k,k<nx->gt f k=gt h k:=fun k g=>by simp only[f];rw[aR,hF af,aR,hF af,aR,hF af,aR,hF af,aR,hF af,aR,hF af]
 have v:VI nm P.N (nx+2) (nx+1) (nx+3) (nx+5) (nx+4) ([],[]) f:=⟨by simp[f,aR],by simp[f,aR,IF],by simp[f,aR],by simp[f,aR,B.bv],by simp[f,aR,t],fun i x G=>by rw[q _<|p.lt o<|pS G];exact p.node i x G,p.inj,nofun,rfl⟩
 haveI:eK f (nx+4) t:=⟨v.k8⟩
 haveI:eK f kp (.row [.iM hZ P.H.Types,.iM jC P.H.E6,.vl d st 0 P.roots.length,.i6 P.size,.i6 P.gen] 83):=⟨by rw[q kp M];exact p.b5⟩
 have T:pR (Sg.mk f<|nx+6) d st=some ((P.roots.map<|eD nm).flatten,92,1):=by simp only[pR,q d C,p.roots,B.bv];simp
 have l:gt f d=some (.vec (P.roots.map<|eD nm).flatten 92 1 st):=by rw[q d C];exact p.roots
 obtain⟨t1,t2,t3⟩:=qvs p.wf n _ _ _ A (p.rt J<|zX (QH y).2.2) nofun rfl;refine dE [] ?_;refine cC ?_;refine aQ rfl (cV rfl rfl (gP (eD nm) iQ.h (aV jI.h) bF (fun _=>rfl) T y)) ?_;refine aQ rfl (o8 (eD nm) (pt nm) iP.h rfl (fun _=>rfl) rfl l y) ?_;have m:=p.rt J<|zX (QH y).2.2;refine FD rfl (qW rfl rfl T4 rfl rfl aZ) (qz9 n v p.wf m A) rfl rfl ?_;have L:VI nm P.N (nx+2) (nx+1) (nx+3) (nx+5) (nx+4) s.2 (vH nm (nx+1) (nx+3) (nx+5) s.2 f):=v.vh t1 t2;have E:gt (vH nm (nx+1) (nx+3) (nx+5) s.2 f) nx=some (.row [.J] 39):=by rw[Ky af af af];simp[f,aR]
 haveI:eK (vH nm (nx+1) (nx+3) (nx+5) s.2 f) (nx+3) (.row [.vl (nx+5) s.2.2.length 0 s.2.2.length] 39):=⟨L.k7⟩
 haveI:eK (vH nm (nx+1) (nx+3) (nx+5) s.2 f) nx (.row [.J] 39):=⟨E⟩
 refine bB ⟨by kernel_rfl,trivial,?_⟩;refine goN ?_;have D:gt (ug (vH nm (nx+1) (nx+3) (nx+5) s.2 f) nx<|.row [.vl (nx+5) s.2.2.length 0 s.2.2.length] 39) nx=some (.row [.vl (nx+5) s.2.2.length 0 s.2.2.length] 39):=by rw[bV,lr rfl,E];rfl
 refine⟨.inr rfl,_,nK (kR fH.h rfl (aV fZ.h) rfl (P7 D) rfl)<|dP rfl dU,_,⟨h,nx⟩,zF _,Rm (c:=bA) (xs:=s.2.2) (e:=79) (sz:=2) (K:=nx+5) (st:=s.2.2.length) o (il _ _) (by rw[bV,hF af];exact L.kv) (fun k g=>?_) (by show nx<=nx+6;omega) (tm':=[.a7 [.agg<|eY ⟨s.2.2⟩,.bool true]]) ?_ ?_<|zF _,rfl,rfl⟩;have g:k<nx:=g;rw[bV,hF af,Ky af af af,q k g];have Q:=HL (c:=bA) (sz:=2) (fun _=>rfl) s.2.2 (nx+5) 2 79 s.2.2.length;have R:∀(b:B)(u v:U),fz (nx+5) b 2 u=v->iO (nx+5) b 2 [U.a7 [U.agg [u],U.bool true]]=[U.a7 [U.agg [v],U.bool true]]:=fun b u v e=>by simp only[iO,fz,e]
 exact R _ _ _ Q;simp only[aH,aW,cO];exact Vk nx ⟨s.2.2⟩
end
def wH(H:cR):PP:=⟨H,[],[],0,1⟩
def IN(H:cR)(nx:Nat)(h:X (Nat×B)):X (Nat×B):=(nx+2,.vec [] 92 1 0)::(nx+1,.row (tX (nx+2) 0<|wH H) 83)::(nx,.row (fK H) 27)::h
def zck(H:cR)(nx:Nat)(h:X (Nat×B))(nm:Nat->Nat):PH (nx+1) (nx+2) 0 nm (wH H) (IN H nx h):=
 ⟨by simp[IN,aR],by simp[IN,aR,wH],fun i x b=>by simp[wH]at b,fun i j a=>by simp[wH]at a,nofun,nofun⟩
def zao(H:cR)(h:X (Nat×B))(nx:Nat):b7 prog 12 [.agg<|fK H] ⟨h,nx⟩ (fun u a=>u=.ptr (nx+1) 0 0/\a=⟨IN H nx h,nx+3⟩):=by
 haveI:ca nx (nx+1):=⟨rfl⟩
 haveI:ca (nx+1) (nx+2):=⟨rfl⟩
 refine mJ 6 Jc ?_;refine goN ?_;refine RS.w (u:=.agg [.iM hZ H.Types,.iM jC H.E6,.J,.i6 0,.i6 1]) rfl (JM (qs:=[(0,.agg<|fK H),(3,.i6 1)]) rfl ag) ?_;refine goN ?_;have b:gt ((nx+1,.row [.iM hZ H.Types,.iM jC H.E6,.J,.i6 0,.i6 1] 83)::(nx,.row (fK H) 27)::h) (nx+1)=some (.row [.iM hZ H.Types,.iM jC H.E6,.J,.i6 0,.i6 1] 83):=by rw[aR,lr rfl]
 refine se (w:=.ptr (nx+1) 0 0) (Y2:=⟨IN H nx h,nx+3⟩) rfl rfl rfl (by show nx<=nx+3;omega) (Gh.trans (xK (Y:=⟨(nx+1,.row [.iM hZ H.Types,.iM jC H.E6,.J,.i6 0,.i6 1] 83)::(nx,.row (fK H) 27)::h,nx+2⟩) (nx+1) 2 92 1 bF (by show nx<=nx+2;omega) b rfl)<|Gh.eqv rfl ?_) ⟨rfl,rfl⟩;simp[bE,ug,beq_eq,IN,tX,wH]
end Go.Proofs
