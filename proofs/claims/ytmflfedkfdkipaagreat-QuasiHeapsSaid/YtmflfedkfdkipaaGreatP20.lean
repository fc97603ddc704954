import Derived.WalkKit
import Derived.Sort.Grow
import Derived.Test.YtmflfedkfdkipaaGreatP19
set_option linter.all false
set_option maxRecDepth 100000
set_option maxHeartbeats 4000000
set_option synthInstance.maxSize 4000
set_option synthInstance.maxHeartbeats 200000
open List Go.IntKind
open Nat hiding beq_eq
namespace Go.Proofs
open Go Go.Rx Go.Vx Go.Shelf Go.RowKit Go.Sort Tryz
def z4x(Y:Sg):aT prog 110 [.int .u64 0] Y (fun u a=>u=.int .i64 0/\a=Y):=by refine aT.of_same (vs:=[.int .u64 0]) (cv:=.int .i64 0) rfl (fun m=>by simp[aF,G0]) rfl (fun m=>by simp[G0]) (fun w=>?_) Y;exact Any.bits_Len (SlLaysF0.n15.bits (P:=prog) (ρ:=Tryz.gU) { Tryz.oU with }) 0 w ag ag
def Im(a c:Int)(v g:I)(w:Jb):Calls prog 74 #[.agg #[.int .i64 a,v],.agg #[.int .i64 c,g]] w fun e i=>e=.returned (.int .i64<|wrap64<|a-c)/\∃q f,i=grow (w.drewN q) f:=by
 go_enter Tryz.func74,Tryz.ntmps74
 go_wp2
 all_goals go_ret
 refine⟨rfl,0,#[.cells #[.int .i64 a,v] 107,.cells #[.int .i64 c,g] 107],?_⟩;cases w with
 |mk b d drawn f output=>
  have e:∀v11 B:Obj,(b.push v11).push B=b++ #[v11,B]:=fun v11 B=>by apply qW;simp
  exact congrArg (fun h=>(⟨h,d,drawn,f,output⟩:Jb)) (e _ _)
def In(nm:Nat->Nat)(a b:dZ):Jt prog 74 [.agg<|bW nm a,.agg<|bW nm b] (wrap64<|a.f-b.f):=fun q h x o g m c w n=>by
 obtain⟨v0,l,rfl,d,g⟩:=g.inv;obtain⟨v1,p,rfl,e,g⟩:=g.inv;have:=g.L7;subst this;simp only[aD,bW]at d e;obtain⟨p0,rfl,d,i,_⟩:=d;obtain⟨k,rfl,e,j,_⟩:=e;obtain _ |⟨r,_ |⟨t,_ |_⟩⟩:=p0<;>simp at i;obtain _ |⟨s,_ |⟨u,_ |_⟩⟩:=k<;>simp at j;simp only[c7,aD,X1]at d e;obtain⟨rfl,_⟩:=d;obtain⟨rfl,_⟩:=e;rw[<-c.at];simp only[aF,G0,uS,List.map];exact Im _ _ _ _ w
def ZT:z7m prog 73 74 2:=fun m _ b e k f h c a off cap d w j g i l=>
 AnyQ.slices_SortFunc Tryz.oU 2 Tryz.isAgg107 Tryz.sizeOf107 b k f e h 74 c a off cap d w (enters_of Tryz.func74 bD rfl) j g i l
def Rh{Y:Sg}{u:U}(g:wP tb Y 93 u=some (.i6 0)):aT prog 73 [u,.fn (.func 74) [] []] Y (fun e a=>e=.a7 []/\a=Y):=by
 have f:aT prog 143 [u,.i6 0,.i6 0,.fn (.func 74) [] []] Y (fun e a=>e=.a7 []/\a=Y):=by refine vi 53 X2 ?_;refine goN ?_;refine gL (fun m b a=>b=fr 53 [(2,.i6 0),(8,.i6 1)]/\a=Y) (fun b a=>b=fr 53 []/\a=Y) 0 ⟨rfl,rfl⟩ ?_ ?_<|zF _;rintro _ _ ⟨rfl,rfl⟩;refine⟨.inl rfl,[],rfl,.a7 [],_,zF _,Gh.refl _ _ _,rfl,rfl⟩;rintro m _ _ ⟨rfl,rfl⟩;refine goN ?_;refine eD rfl (fun c=>by cases c) (fun c=>?_);refine goN ?_;exact⟨_,_,⟨rfl,rfl⟩,zF _,Gh.sub trivial⟩
 have d:aT prog 109 [u,.i6 0,.i6 0,.i6 0,.fn (.func 74) [] []] Y (fun e a=>e=.a7 []/\a=Y):=by refine bg5 148 XE ?_;refine goN ?_;refine gL (fun m b a=>b=fr 148 [(0,u),(1,.i6 0),(2,.i6 0),(4,.fn (.func 74) [] [])]/\a=Y) (fun b a=>False) 0 ⟨rfl,rfl⟩ (fun _ _ h=>h.elim) ?_<|zF _;rintro m _ _ ⟨rfl,rfl⟩;refine goN ?_;apply eX;refine goN ?_;refine eD rfl (fun c=>?_) (fun c=>by cases c);refine goN ?_;refine aM rfl f X2 ?_;refine goN ?_;refine⟨.inr rfl,[],rfl,.a7 [],_,zF _,Gh.refl _ _ _,rfl,rfl⟩
 refine eO 14 xz ?_;refine goN ?_;refine RS.w rfl (H3 rfl rfl rfl g) ?_;refine goN ?_;refine RS.w rfl (by exact rfl) ?_;refine aM rfl (z4x _) jw ?_;refine goN ?_;refine aM rfl d XE ?_;refine goN ?_;refine⟨.inl rfl,[],rfl,.a7 [],_,zF _,Gh.refl _ _ _,rfl,rfl⟩
end Go.Proofs
namespace Go.Proofs
open Go Go.Rx Go.Vx Go.Shelf Go.RowKit Go.Sort Tryz
def LW(a b:dZ):Rl:=a.f==b.f&&a.to==b.to
def qzr(a b:dZ)(h:LW a b=true):a=b:=by cases a;cases b;simpa[LW]using h
def JI(l:X dZ):A (X dZ):=yt LW (fun a b=>some<|wrap64<|a.f-b.f) l
variable{K:Nat}
def ZR{nm:Nat->Nat}{Y:Sg}{t:Nat}{c g:X dZ}(h:JI c=some g)(d:gt Y.h K=some (.vec (c.map<|bW nm).flatten 107 2 t)):
  aT prog 73 [.vl K t 0 c.length,.fn (.func 74) [] []] Y (fun u i=>∃H,u=.a7 []/\i=⟨H,Y.nx⟩/\gt H K=some (.bv (bW nm) g 107 2 t)/\∀k,k≠K->gt H k=gt Y.h k):=by
 obtain⟨m,j,rfl⟩:=L! h;cases c with
 |nil=>exact(Rh<|uh ES.h d).mono fun u s ⟨e,f⟩=>⟨Y.h,e,f,d,fun _ _=>rfl⟩
 |cons x c=>refine aT.mono (aT.rF (encU:=bW nm) (fun _=>rfl) cg (fun _=>rfl) ZT (x::c) (qog qzr j) (fun a b r h=>by cases h;exact In nm a b) nofun ag d) fun u s ⟨e,f⟩=>⟨_,e,f,by rw[bT,kh rfl,d];rfl,fun k l=>by rw[bT,iy<|Wv l]⟩
def qwn{b c:X dZ}(h:JI b=some c):∀a,a∈c↔a∈b:=by obtain⟨d,e,rfl⟩:=L! h;intro a;exact(PE _ b).mem_iff
def rW(nm:Nat->Nat)(x:PN)(u:U):X U:=[.i6 x.kind,u,po nm x.fw,.i6 x.c3,.i6 x.mt,.i6 x.b9,.iM (bW nm) x.more,.i6 x.L8,po nm x.cp,.i6 x.c8,.bool x.ch,.i6 x.c4]
structure PF(kp kr st:Nat)(nm:Nat->Nat)(P:PP)(h:X (Nat×B)):Prop where
 b5:gt h kp=some (.row (sY kr st P) 83)
 node:∀i x,P.N[i]? = some x->∃u,gt h (nm i)=some (.row (rW nm x u) 103)
section
variable{kp a st:Nat}{nm:Nat->Nat}{P:PP}{h:X (Nat×B)}{nx:Nat}
theorem PF.gp(p:PF kp a st nm P h):fP h kp (.row [.iM jV P.H.Types,.iM mQ P.H.E3,.vl a st 0 P.roots.length,.i6 P.size,.i6 P.gen] 83):=⟨p.b5⟩
def PF.gn(p:PF kp a st nm P h){i:Nat}{x:PN}(b:P.N[i]? = some x):∃u,fP h (nm i) (.row [.i6 x.kind,u,po nm x.fw,.i6 x.c3,.i6 x.mt,.i6 x.b9,.iM (bW nm) x.more,.i6 x.L8,po nm x.cp,.i6 x.c8,.bool x.ch,.i6 x.c4] 103):=(p.node i x b).imp fun u h=>⟨h⟩
def z5n(p:PF kp a st nm P h)(n:Nat){i r:Nat}(O:u9 P.N P.gen n i=some r):aT prog 66 [.ptr kp 0 0,pt nm i] ⟨h,nx⟩ (fun u d=>u=pt nm r/\d=⟨h,nx⟩):=by
 haveI:=p.gp
 refine eO 23 zR ?_;refine goN ?_;refine gL (fun m j Y=>∃i,u9 P.N P.gen m i=some r/\j=fr 23 [(0,.ptr kp 0 0),(1,pt nm i)]/\Y=⟨h,nx⟩) (fun _ _=>False) n ⟨i,O,rfl,rfl⟩ (fun _ _ h=>h.elim) ?_<|zF _;rintro(_ |m) _ _ ⟨i,O,rfl,rfl⟩;cases O;obtain⟨x,g,O⟩:=aK O;obtain⟨u,f⟩:=p.gn g
 haveI:=f
 refine goN ?_;apply eX;refine goN ?_;refine dE [] ?_;refine cX ?_;cases c:x.c3 != P.gen with
 |true=>rw[c]at O;obtain rfl:=sI O;refine eA rfl (Ai c rfl) zE ?_;refine cX ?_;refine bC ⟨by kernel_rfl,trivial,?_⟩;refine goN ?_;refine eD rfl (fun b=>?_) (fun b=>by cases b);refine goN ?_;exact DJ rfl rfl rfl (zF _) ⟨rfl,rfl⟩
 |false=>rw[c]at O;obtain⟨q,e,O⟩:=aK O;refine eA rfl (Ai (v:=pt nm q) c (by rw[e];rfl)) zE ?_;refine cX ?_;refine bC ⟨by kernel_rfl,trivial,?_⟩;refine goN ?_;refine eD rfl (fun b=>by cases b) (fun b=>?_);refine goN ?_;exact⟨m,_,_,zN _,⟨q,O,rfl,rfl⟩,zF _,Gh.sub<|by((repeat refine⟨rfl,?_⟩);exact trivial)⟩
end
def gX(k:Int)(l:X dZ):PN:=⟨k,l,none,0,0,0,[],0,none,0,false,0⟩
section
variable{nm nm':Nat->Nat}{n:Nat}
def Tx(h:∀k,k<n->nm' k=nm k){l:X dZ}(c:∀a∈l,a.to<n):l.map (bW nm')=l.map (bW nm):=Wu fun a b=>by simp only[bW,pt,h _<|c a b]
def qr7(h:∀k,k<n->nm' k=nm k){l:X Nat}(c:∀a∈l,a<n):l.map (dQ nm')=l.map (dQ nm):=Wu fun a b=>by simp only[dQ,pt,h _<|c a b]
def Te(h:∀k,k<n->nm' k=nm k):∀{o:A Nat},GC n o->po nm' o=po nm o
 |none,_=>rfl|some i,a=>by simp only[po,pt,h i a]
def qr6(h:∀k,k<n->nm' k=nm k){x:PN}(w:lJ n x):oV nm' x=oV nm x:=by simp only[oV,U.iM];rw[Tx h w.D8,Tx h w.more,Te h w.fw,Te h w.cp]
def GC.le{m:Nat}(h:n<=m):∀{o:A Nat},GC n o->GC m o
 |none,_=>trivial|some i,a=>Xj a h
def lJ.le{m:Nat}(h:n<=m){x:PN}(w:lJ n x):lJ m x:=⟨fun a b=>Xj (w.D8 a b) h,w.fw.le h,fun a b=>Xj (w.more a b) h,w.cp.le h⟩
end
section
variable{kp a st:Nat}{nm:Nat->Nat}{P:PP}{h:X (Nat×B)}{nx:Nat}
def PH.kC(p:PH kp a st nm P h){i:Nat}(b:i<P.N.length):nm i≠kp:=fun e=>by
 have:=p.node i _<|hF b;rw[e,p.b5]at this;simp at this
def PH.rL(p:PH kp a st nm P h){i:Nat}(b:i<P.N.length):nm i≠a:=fun e=>by
 have:=p.node i _<|hF b;rw[e,p.roots]at this;cases this
def PH.oB(p:PH kp a st nm P h):a≠kp:=fun e=>by
 have:=p.roots;rw[e,p.b5]at this;cases this
def PH.oG(p:PH kp a st nm P h)(s g:Int){H:X (Nat×B)}(e:gt H kp=some (.row (sY a st { P with size:=s,gen:=g }) 83))(c:∀k b,gt h k=some b->k≠kp->gt H k=some b):PH kp a st nm { P with size:=s,gen:=g } H :=
 ⟨e,c _ _ p.roots p.oB,fun i x d=>c _ _ (p.node i x d)<|p.kC (zG.1 d).1,p.inj,p.wf,p.rt⟩
def vT(nm:Nat->Nat)(n K:Nat):Nat->Nat:=fun k=>if k=n then K else nm k
def xE{n:Nat}:∀k,k<n->vT nm n K k=nm k:=fun k b=>by rw[vT,iy ag]
def Au{n:Nat}:vT nm n K n=K:=by rw[vT,kh rfl]
end
structure PQ(kp kr st:Nat)(nm:Nat->Nat)(P:PP)(c:Nat)(h:X (Nat×B)):Prop where
 b5:gt h kp=some (.row (sY kr st P) 83)
 roots:gt h kr=some (.vec (P.roots.map (dQ nm)).flatten 92 1 st)
 node:∀i x,P.N[i]? = some x->i<c->gt h (nm i)=some (.row (oV nm x) 103)
 l5:∀i x,P.N[i]? = some x->c<=i->gt h (nm i)=some (.row (rW nm x .J) 103)/\x.D8=[]
 inj:∀i j,i<P.N.length->j<P.N.length->nm i=nm j->i=j
 wf:∀x∈P.N,lJ P.N.length x
 rt:∀r∈P.roots,r<P.N.length
section
variable{kp d st c:Nat}{nm:Nat->Nat}{P:PP}{h:X (Nat×B)}{nx:Nat}
def PH.pq(p:PH kp d st nm P h):PQ kp d st nm P P.N.length h:=⟨p.b5,p.roots,fun i x a _=>p.node i x a,fun i x a b=>absurd (zG.1 a).1 ag,p.inj,p.wf,p.rt⟩
def PQ.ph(p:PQ kp d st nm P c h)(b:P.N.length<=c):PH kp d st nm P h:=⟨p.b5,p.roots,fun i x a=>p.node i x a (by have:=(zG.1 a).1;omega),p.inj,p.wf,p.rt⟩
def PQ.row(p:PQ kp d st nm P c h){i:Nat}{x:PN}(b:P.N[i]? = some x):∃u,gt h (nm i)=some (.row (rW nm x u) 103):=by obtain a |a:=XL i c;exact⟨_,p.node i x b a⟩;exact⟨_,(p.l5 i x b a).1⟩
variable{i:Nat}
def PQ.nV(p:PQ kp d st nm P c h)(a:i<P.N.length):∃q,gt h (nm i)=some (.row q 103):=by obtain⟨u,b⟩:=p.row<|hF a;exact⟨_,b⟩
def PQ.pf(p:PQ kp d st nm P c h):PF kp d st nm P h:=⟨p.b5,fun i x a=>p.row a⟩
variable{H:X (Nat×B)}
def PQ.more(p:PQ kp d st nm P c h)(a:∀k b,gt h k=some b->gt H k=some b):PQ kp d st nm P c H :=
 ⟨a _ _ p.b5,a _ _ p.roots,fun i x f e=>a _ _<|p.node i x f e,fun i x f e=>⟨a _ _ (p.l5 i x f e).1,(p.l5 i x f e).2⟩,p.inj,p.wf,p.rt⟩
def PQ.kC(p:PQ kp d st nm P c h)(b:i<P.N.length):nm i≠kp:=fun e=>by
 obtain⟨q,a⟩:=p.nV b;rw[e,p.b5]at a;simp at a
def PQ.rL(p:PQ kp d st nm P c h)(b:i<P.N.length):nm i≠d:=fun e=>by
 obtain⟨q,a⟩:=p.nV b;rw[e,p.roots]at a;cases a
def PQ.oB(p:PQ kp d st nm P c h):d≠kp:=fun e=>by
 have:=p.roots;rw[e,p.b5]at this;cases this
def PQ.lt(p:PQ kp d st nm P c h)(e:oY ⟨h,nx⟩)(a:i<P.N.length):nm i<nx:=by obtain⟨q,b⟩:=p.nV a;exact(e _ _ b).1
def PQ.oG(p:PQ kp d st nm P c h)(s:Int):PQ kp d st nm { P with size:=s } c (ug h kp<|.row (sY d st { P with size:=s }) 83):=by
 have b:∀k,k≠kp->gt (ug h kp<|.row (sY d st { P with size:=s }) 83) k=gt h k:=fun k f=>by rw[bT,iy<|Wv f]
 refine⟨by rw[bT,kh rfl,p.b5];rfl,by rw[b _ p.oB];exact p.roots,fun i x a e=>?_,fun i x a e=>?_,p.inj,p.wf,p.rt⟩;rw[b _<|p.kC (zG.1 a).1];exact p.node i x a e;rw[b _<|p.kC (zG.1 a).1];exact p.l5 i x a e
def PQ.rE(p:PQ kp d st nm P c h){c':Nat}{x y:PN}(C:P.N[i]? = some x)(E:i<c')(s:∀j,j≠i->(j<c↔j<c'))(D:lJ P.N.length y)(u:gt H (nm i)=some (.row (oV nm y) 103))(l:∀k b,gt h k=some b->k≠nm i->gt H k=some b):PQ kp d st nm { P with N:=P.N.set i y } c' H:=by
 have m:i<P.N.length:=(zG.1 C).1;have key:∀j z,(P.N.set i y)[j]? = some z->j≠i->P.N[j]? = some z/\nm j≠nm i:=fun j z f g=>by rw[mi,iy<|Wv g]at f;exact⟨f,fun e=>g<|p.inj _ _ (zG.1 f).1 m e⟩
 refine⟨l _ _ p.b5<|Wv<|p.kC m,l _ _ p.roots<|Wv<|p.rL m,fun j z f g=>?_,fun j z f g=>?_,fun a b v w=>p.inj a b (by simpa using v) (by simpa using w),fun z f=>?_,fun r A=>by simpa using p.rt r A⟩;by_cases e:j=i;subst e;have f:(P.N.set j y)[j]? = some z:=f;rw[mi,kh rfl,kh m]at f;cases f;exact u;obtain⟨n,o⟩:=key j z f e;exact l _ _ (p.node j z n<|(s j e).2 g) o;have e:j≠i:=by omega
 obtain⟨n,o⟩:=key j z f e;have q:=p.l5 j z n (by have:=s j e;omega);exact⟨l _ _ q.1 o,q.2⟩;have t:(P.N.set i y).length=P.N.length:=by simp
 show lJ (P.N.set i y).length z;rw[t];obtain f |rfl:=Gv f;exact p.wf z f;exact D
def qxv{a:Nat->Nat}{n:Nat}(h:∀k,k<n->a k=nm k){x:PN}(w:lJ n x)(u:U):rW a x u=rW nm x u:=by simp only[rW,U.iM];rw[Tx h w.more,Te h w.fw,Te h w.cp]
def PQ.add(p:PQ kp d st nm P c h)(u:oY ⟨h,nx⟩)(v:c<=P.N.length)(k:Int)(s:gt H nx=some (.row (rW (vT nm P.N.length nx) (gX k []) .J) 103))(m:∀k b,gt h k=some b->gt H k=some b):PQ kp d st (vT nm P.N.length nx) { P with N:=P.N++[gX k []] } c H:=by
 have q:∀i,i<P.N.length->nm i<nx:=fun i a=>p.lt u a;have n:(P.N++[gX k []]).length=P.N.length+1:=by simp
 have key:∀i x,(P.N++[gX k []])[i]? = some x->(i<P.N.length/\P.N[i]? = some x)\/(i=P.N.length/\x=gX k []):=fun i x f=>by
  obtain a |a:=XL i P.N.length;rw[kl a]at f;exact .inl ⟨a,f⟩;have w:=(zG.1 f).1;have:i=P.N.length:=by omega
  subst this;rw[kq<|zF _]at f;simp at f;exact .inr ⟨rfl,f.symm⟩
 refine⟨m _ _ p.b5,?_,fun i x f a=>?_,fun i x f a=>?_,fun i j a g e=>?_,fun x f=>?_,fun r t=>?_⟩;rw[m _ _ p.roots];show some (B.vec (P.roots.map _).flatten _ _ _)=some (B.vec (P.roots.map _).flatten _ _ _);rw[qr7 (nm:=nm) (xE (nm:=nm)) p.rt];obtain⟨o,l⟩|⟨rfl,rfl⟩:=key i x f;rw[xE i o,m _ _<|p.node i x l a,qr6 xE<|p.wf x<|zX l];omega;obtain⟨o,l⟩|⟨rfl,rfl⟩:=key i x f;rw[xE i o,m _ _ (p.l5 i x l a).1,qxv xE<|p.wf x<|zX l];exact⟨rfl,(p.l5 i x l a).2⟩;rw[Au];exact⟨s,rfl⟩;have a:i<(P.N++[gX k []]).length:=a;have g:j<(P.N++[gX k []]).length:=g;rw[n]at a g;obtain a |rfl:=Nat.lt_succ_iff_lt_or_eq.1 a<;>obtain g |rfl:=Nat.lt_succ_iff_lt_or_eq.1 g;rw[xE i a,xE j g]at e;exact p.inj i j a g e;rw[xE i a,Au]at e;have:=q i a;omega;rw[xE j g,Au]at e;have:=q j g;omega;rfl;show lJ (P.N++[gX k []]).length x;rw[n];obtain f |f:=yD.1 f;exact(p.wf x f).le (Wt _);simp at f;subst f;exact⟨nofun,trivial,nofun,trivial⟩;show r<(P.N++[gX k []]).length;rw[n];exact Xm (p.rt r t)
end
end Go.Proofs
namespace Go.Proofs
open Go Go.Rx Go.Vx Tryz
def V9(g:Int):X Nat->X PN->Int->A (X PN×Int)
 |[],N,s=>some (N,s)|p::l,N,s=>a8 N[p]? fun x=>cond (BC g x)
   (V9 g l ((N++[gX (hX g x) []]).set p { x with cp:=some N.length,c8:=g })<|i64.wrap<|s+1)
   (V9 g l (N.set p { x with cp:=some p,c8:=g }) s)
def I0(g:Int)(x:PN):A Nat:=cond (x.c8 != g) none x.cp
def zf(N:X PN)(g:Int)(n:Nat):X dZ->X dZ->A (X dZ)
 |[],d=>some d|a::l,d=>a8 (u9 N g n a.to) fun r=>a8 N[r]? fun y=>a8 (I0 g y) fun q=>aE (d.length<=1000000) (zf N g n l<|d++[⟨a.f,q⟩])
def QH(g:Int)(n:Nat):X Nat->X PN->Nat->A (X PN)
 |[],N,c=>aE (c=N.length) (some N)|p::l,N,c=>a8 N[p]? fun x=>a8 (I0 g x) fun q=>cond (Nat.beq q p) (QH g n l N c)
   (a8 N[q]? fun y=>aE (q=c/\p<c/\(bV g x).length<=1000000)<|a8 (zf N g n (bV g x) []) fun d=>a8 (JI d) fun a=>QH g n l (N.set q { y with D8:=a })<|c+1)
def Kn(g:Int)(n:Nat)(N:X PN)(s:Int)(i:Nat):A (Nat×X PN×Int):=
 a8 (zo N g n n 0 [i]) fun l=>a8 (Pm g n l N) fun b=>a8 (V9 g l b s) fun r=>a8 (QH g n l r.1 N.length) fun a=>a8 a[i]? fun x=>a8 (I0 g x) fun q=>some (q,a,r.2)
section
variable{kp A st c:Nat}{nm:Nat->Nat}{P:PP}{h:X (Nat×B)}{nx:Nat}{i:Nat}{x:PN}
def z5w(p:PF kp A st nm P h)(f:P.N[i]? = some x):aT prog 70 [.ptr kp 0 0,pt nm i] ⟨h,nx⟩ (fun u d=>u=.i6 (hX P.gen x)/\d=⟨h,nx⟩):=by
 haveI:=p.gp
 obtain⟨u,e⟩:=p.gn f
 haveI:=e
 refine eO 25 zP ?_;refine goN ?_;refine dE [] ?_;refine cX ?_;refine eA rfl (fun s=>xf s x.mt x.b9 P.gen) LU ?_;refine cX ?_;refine bC ⟨by kernel_rfl,trivial,?_⟩;refine goN ?_;refine eD rfl (fun a=>?_) (fun a=>?_);refine goN ?_;have b:(x.b9 != P.gen)=false:=by simpa using a
 exact DJ rfl rfl rfl (zF _) ⟨by rw[hX,b];rfl,rfl⟩;refine goN ?_;have b:(x.b9 != P.gen)=true:=by simpa using a
 exact DJ rfl rfl rfl (zF _) ⟨by rw[hX,b];rfl,rfl⟩
def z4t(p:PQ kp A st nm P c h)(d:P.N[i]? = some x)(m:i<c)(q:(bV P.gen x).length<=1000000):aT prog 72 [.ptr kp 0 0,pt nm i] ⟨h,nx⟩ (fun u j=>u=.iM (bW nm) (bV P.gen x)/\j=⟨h,nx⟩):=by
 refine aT.wf fun b _=>?_;have f:=Mn (nm:=nm) (n:=nx) _ fun a l=>p.lt b<|PD (g:=P.gen) (p.wf x<|zX d) a l;rw[bV,zU]at q
 haveI:=p.pf.gp
 haveI:fP h (nm i) (.row [.i6 x.kind,.iM (bW nm) x.D8,po nm x.fw,.i6 x.c3,.i6 x.mt,.i6 x.b9,.iM (bW nm) x.more,.i6 x.L8,po nm x.cp,.i6 x.c8,.bool x.ch,.i6 x.c4] 103):=⟨p.node i x d m⟩
 refine eO 26 G5 ?_;refine goN ?_;refine dE [] ?_;refine cX ?_;refine eA rfl (fun s=>S2 s nm x.more x.L8 P.gen) AA ?_;refine cX ?_;refine bC ⟨by kernel_rfl,trivial,?_⟩;refine goN ?_;refine lT rfl (iE rfl EK rfl).2 (qp2 h nx nm x.D8 ag) rfl rfl ?_;rintro _ _ ⟨rfl,rfl⟩;refine goN ?_;refine RS.w rfl (vS (c:=bW nm) (xs:=x.D8) (ys:=gW P.gen x) rfl rfl rfl rfl rfl rfl rfl rfl ⟨by omega,by omega⟩) ?_;refine goN ?_;refine⟨.inr rfl,_,eL rfl eB,_,⟨h,nx⟩,zF _,yp (c:=bW nm) (xs:=bV P.gen x) (e:=107) (sz:=2) (K:=nx) (st:=1) b (zF _) (by simp[aV,bV]) (fun k o=>jU o) (Wt _) (tm':=[.iM (bW nm)<|bV P.gen x]) ?_ (by simp only[aG,aS,X1];exact f)<|zF _,rfl,rfl⟩;exact congrArg (fun u=>[u]) (J1 (c:=bW nm) (sz:=2) (fun _=>rfl) (bV P.gen x) nx 2 107 1)
structure rC(kp A st:Nat)(nm:Nat->Nat)(P:PP)(h:X (Nat×B))(nx:Nat)(nm1:Nat->Nat)(N:X PN)(s:Int)(c:Nat)(H:X (Nat×B))(M:Nat):Prop where
 ph:PQ kp A st nm1 { P with N:=N,size:=s } c H
 l7:∀k,k<P.N.length->nm1 k=nm k
 new:∀k,P.N.length<=k->k<N.length->nx<=nm1 k
 fr:∀k,k<nx->k≠kp->(∀i,i<P.N.length->nm i≠k)->gt H k=gt h k
 le:nx<=M
 len:P.N.length<=N.length
 cl:P.N.length<=c
def Tf{g:Int}{q:Nat}(h:I0 g x=some q):(x.c8 != g)=false/\x.cp=some q:=by unfold I0 at h;rcases a:x.c8 != g with _|_;rw[a]at h;exact⟨rfl,h⟩;rw[a]at h;cases h
def qmh{N:X PN}{g:Int}{n:Nat}:∀{l:X dZ}{o e:X Nat},TV N g n l o=some e->(∀k∈o,k<N.length)->∀k∈e,k<N.length
 |[],o,e,h,d=>by obtain rfl:=sI h;exact d
 |a::l,o,e,h,d=>by
  obtain⟨q,j,h⟩:=aK h;cases f:o.contains q with
  |true=>rw[f]at h;exact qmh h d|false=>
   rw[f]at h;obtain⟨_,h⟩:=bY h;refine qmh h fun k b=>?_;obtain b |b:=yD.1 b
   exact d k b;simp at b;subst b;exact pe j
def z2f{N:X PN}{g:Int}{n:Nat}:∀{m i:Nat}{o a:X Nat},zo N g n m i o=some a->(∀k∈o,k<N.length)->∀k∈a,k<N.length
 |0,i,o,a,h,b=>by cases h
 |m+1,i,o,a,h,b=>by
  change cond (decide (i<o.length)) _ _=some a at h;cases d:decide (i<o.length)with
  |false=>rw[d]at h;obtain rfl:=sI h;exact b
  |true=>rw[d]at h;obtain⟨p,_,h⟩:=aK h;obtain⟨x,_,h⟩:=aK h;obtain⟨_,h⟩:=bY h;obtain⟨f,e,h⟩:=aK h;exact z2f h (qmh e b)
def qua{N:X PN}{g:Int}{n m:Nat}(k:∀x∈N,lJ m x):∀{l d f:X dZ},zf N g n l d=some f->(∀a∈d,a.to<m)->∀a∈f,a.to<m
 |[],d,f,h,j=>by obtain rfl:=sI h;exact j
 |a::l,d,f,h,j=>by
  obtain⟨r,_,h⟩:=aK h;obtain⟨y,p,h⟩:=aK h;obtain⟨q,o,h⟩:=aK h;obtain⟨_,h⟩:=bY h;refine qua k h fun b e=>?_;obtain e |e:=yD.1 e
  exact j b e;simp at e;subst e;have:=(k y<|zX p).cp;rw[(Tf o).2]at this;exact this
def z9v(p:PH kp A st nm P h)(n:Nat)(hi:i<P.N.length){r:Nat×X PN×Int}(O:Kn P.gen n P.N P.size i=some r):
  aT prog 46 [.ptr kp 0 0,pt nm i] ⟨h,nx⟩ (fun u Y'=>∃H M g,u=pt g r.1/\Y'=⟨H,M⟩/\rC kp A st nm P h nx g r.2.1 r.2.2 r.2.1.length H M/\r.1<r.2.1.length):=by
 refine aT.wf fun xH _=>?_;obtain⟨l,h1,N1,h2,r1,h3,N3,h4,O⟩:=F3 O;obtain⟨J,h5,q3,h6,O⟩:=c6 O;obtain rfl:=sI O;have hl:∀i∈l,i<P.N.length:=z2f h1 (by simpa using hi);obtain⟨sN,_⟩:=bY h2;refine eO 146 jm ?_;refine goN ?_;refine aM rfl (z6v p n hi h1) jb ?_;refine goN ?_;refine lT rfl (iE rfl ja rfl).2 (zac p n hl h2) rfl rfl ?_;rintro _ _ ⟨H1,M1,rfl,rfl,jN,nH,yP,yU⟩;refine goN ?_;have c1:rC kp A st nm P h nx nm N1 P.size P.N.length H1 M1:=⟨by have:=jN.pq;rw[show({ P with N:=N1 }:PP).N.length=P.N.length from nH]at this;exact this,fun _ _=>rfl,fun k a b=>ag,fun k a _ b=>yU k a b,yP,by omega,zF _⟩;refine gL (fun m W Y=>∃(t:Nat)(g:Nat->Nat)(N:X PN)(s:Int)(H:X (Nat×B))(M:Nat),m=l.length-t/\t<=l.length/\V9 P.gen (l.drop t) N s=some r1/\W=fr 146 [(0,.ptr kp 0 0),(1,pt nm i),(5,.iM (dQ nm) l),(27,.iM (dQ nm) l),(28,.i6 l.length),(29,.i6 t)]/\Y=⟨H,M⟩/\rC kp A st nm P h nx g N s P.N.length H M)
  (fun W Y=>∃(g:Nat->Nat)(H:X (Nat×B))(M:Nat),W=fr 146 [(0,.ptr kp 0 0),(1,pt nm i),(5,.iM (dQ nm) l)]/\Y=⟨H,M⟩/\rC kp A st nm P h nx g r1.1 r1.2 P.N.length H M) l.length
  ⟨0,nm,N1,P.size,H1,M1,rfl,qq _,h3,rfl,rfl,c1⟩ ?_ ?_ yP
 ·rintro _ _ ⟨g,H,M,rfl,rfl,hm⟩;refine goN ?_;refine gL (fun m W Y=>∃(t:Nat)(N:X PN)(c:Nat)(H:X (Nat×B))(M:Nat),m=l.length-t/\t<=l.length/\QH P.gen n (l.drop t) N c=some N3/\W=fr 146 [(0,.ptr kp 0 0),(1,pt nm i),(69,.iM (dQ nm) l),(70,.i6 l.length),(71,.i6 t)]/\Y=⟨H,M⟩/\rC kp A st nm P h nx g N r1.2 c H M) (fun W Y=>∃(H:X (Nat×B))(M:Nat),W=fr 146 [(0,.ptr kp 0 0),(1,pt nm i)]/\Y=⟨H,M⟩/\rC kp A st nm P h nx g N3 r1.2 N3.length H M) l.length
   ⟨0,r1.1,P.N.length,H,M,rfl,qq _,h4,rfl,rfl,hm⟩ ?_ ?_ hm.le
  rintro _ _ ⟨H,M,rfl,rfl,hm⟩;obtain⟨nj,ni⟩:=Tf h6;have nJ:i<N3.length:=(zG.1 h5).1;have Z:=hm.ph.node i J h5 nJ
  haveI:fP H (g i) (.row [.i6 J.kind,.iM (bW g) J.D8,po g J.fw,.i6 J.c3,.i6 J.mt,.i6 J.b9,.iM (bW g) J.more,.i6 J.L8,po g J.cp,.i6 J.c8,.bool J.ch,.i6 J.c4] 103):=⟨Z⟩
  haveI:=hm.ph.pf.gp
  rw[show pt nm i=pt g i by rw[pt,pt,hm.l7 i hi]];refine goN ?_;refine dE [] ?_;refine cX ?_;refine eA rfl (Ai (v:=pt g q3) nj (by rw[ni];rfl)) zE ?_;refine cX ?_;refine bC ⟨by kernel_rfl,trivial,?_⟩;refine goN ?_;refine DJ rfl rfl rfl hm.le ⟨H,M,g,rfl,rfl,hm,?_⟩;have:=(hm.ph.wf J<|zX h5).cp;rw[ni]at this;exact this;rintro _ _ _ ⟨t,N,c,H,M,rfl,ht,w,rfl,rfl,hm⟩;refine goN ?_;refine eD rfl (fun h7=>?_) (fun h7=>?_)
  ·have G:t<l.length:=by simpa using h7
   obtain⟨q,V⟩:∃a,l[t]? = some a:=⟨_,hF G⟩;have m5:aC l (t:Int)=some q:=by rw[aC,kh ⟨by omega,by omega⟩];simpa using V
   have tS:l.drop t=q::l.drop (t+1):=by rw[Xk G];rw[hF G]at V;cases V;rfl
   have mG:i64.wrap ((t:Int)+1)=((t+1:Nat):Int):=by rw[wrap_i64 ag ag];rfl
   rw[tS]at w;obtain⟨x,I,w⟩:=aK w;obtain⟨q2,sH,w⟩:=aK w;obtain⟨hca,RM⟩:=Tf sH;have L:=hl q<|zX V;have W6:q<c:=Xj L hm.cl;have uE:dQ nm q=dQ g q:=by simp only[dQ,pt,hm.l7 q L]
   have Z:=hm.ph.node q x I W6;have R:lJ N.length x:=hm.ph.wf x<|zX I;have KP:q2<N.length:=by have:=R.cp;rw[RM]at this;exact this
   have Fk:q<N.length:=(zG.1 I).1;obtain⟨w1,hw1r⟩:=hm.ph.nV Fk;obtain⟨w2,hw2r⟩:=hm.ph.nV KP
   haveI:fP H (g q) (.row [.i6 x.kind,.iM (bW g) x.D8,po g x.fw,.i6 x.c3,.i6 x.mt,.i6 x.b9,.iM (bW g) x.more,.i6 x.L8,po g x.cp,.i6 x.c8,.bool x.ch,.i6 x.c4] 103):=⟨Z⟩
   haveI:=hm.ph.pf.gp
   refine goN ?_;apply eX;refine goN ?_;refine dO m5 ?_;rw[uE];refine goN ?_;refine dE [] ?_;refine cX ?_;refine eA rfl (Ai (v:=pt g q2) hca (by rw[RM];rfl)) zE ?_;refine cX ?_;refine bC ⟨by kernel_rfl,trivial,?_⟩;refine goN ?_;refine EP rfl (fI.peq cf rfl (.inl rfl) i9.h (bG nF.h) (dF rfl) (dF rfl) hw2r hw1r) ?_;rintro _ _ ⟨rfl,rfl⟩;have yY:Nat.beq (g q2) (g q)=Nat.beq q2 q:=by rw[beq_eq,beq_eq];by_cases e:q2=q;simp[e];have:g q2≠g q:=fun h=>e<|hm.ph.inj q2 q KP Fk h;simp[e,this]
   rw[kh rfl,yY];refine goN ?_;refine eD rfl (fun h8=>?_) (fun h8=>?_)
   ·rw[h8]at w;refine goN ?_;refine⟨l.length-(t+1),_,_,by omega,⟨t+1,_,_,_,M,rfl,G,w,rfl,rfl,hm⟩,hm.le,Gh.sub ?_⟩;rw[<-mG];(repeat refine⟨rfl,?_⟩);exact trivial
   rw[h8]at w;obtain⟨y,hy,w⟩:=aK w;obtain⟨⟨rfl,_,qF⟩,w⟩:=bY w;obtain⟨d,hd,w⟩:=aK w;obtain⟨d',bF,w⟩:=aK w;obtain⟨O1,VZ⟩:=hm.ph.l5 q2 y hy<|zF _;refine goN ?_;refine aM rfl (z4t hm.ph I W6 qF) G5 ?_;refine goN ?_;refine I6.wf fun S b_=>?_;refine dJ (AG (g q2) 1 107 2 cg hm.le O1 rfl) (XK hm.le) ?_;have uF:kp<M:=(S _ _ hm.ph.b5).1;have hyM:g q2<M:=(S _ _ O1).1;have hkq:g q2≠kp:=hm.ph.kC KP;refine gL (fun m W Y=>∃(j:Nat)(d1:X dZ)(s:Nat)(C:X (Nat×B))(o:Nat),m=(bV P.gen x).length-j/\j<=(bV P.gen x).length/\zf N P.gen n ((bV P.gen x).drop j) d1=some d/\W=fr 146 [(0,.ptr kp 0 0),(1,pt nm i),(13,pt g q2),(69,.iM (dQ nm) l),(70,.i6 l.length),(71,.i6 t),(92,.iM (bW g)<|bV P.gen x),(93,.i6 (bV P.gen x).length),(94,.i6 j)]/\Y=⟨C,o⟩/\M<o/\gt C M=some (.bv (bW g) d1 107 2 s)/\gt C (g q2)=some (.row (rW g y<|.vl M s 0 d1.length) 103)/\∀k,k<M->k≠g q2->gt C k=gt H k)
    (fun W Y=>∃(s:Nat)(C:X (Nat×B))(o:Nat),W=fr 146 [(0,.ptr kp 0 0),(1,pt nm i),(13,pt g q2),(69,.iM (dQ nm) l),(70,.i6 l.length),(71,.i6 t)]/\Y=⟨C,o⟩/\M<o/\gt C M=some (.bv (bW g) d 107 2 s)/\gt C (g q2)=some (.row (rW g y<|.vl M s 0 d.length) 103)/\∀k,k<M->k≠g q2->gt C k=gt H k) (bV P.gen x).length
    ⟨0,[],0,_,M+1,rfl,qq _,hd,rfl,rfl,zN _,by rw[bT,iy ag];simp[cc,aV],by rw[bT,kh rfl];simp only[cc];rw[aV,iy ag,O1];rfl,fun k F nI=>by rw[bT,iy<|Wv nI];simp only[cc];rw[aV,iy ag]⟩ ?_ ?_ (XK hm.le)
   ·rintro _ _ ⟨s,C,o,rfl,rfl,wg,hv,BG,eP⟩
    haveI:fP C (g q2) (.row [.i6 y.kind,.vl M s 0 d.length,po g y.fw,.i6 y.c3,.i6 y.mt,.i6 y.b9,.iM (bW g) y.more,.i6 y.L8,po g y.cp,.i6 y.c8,.bool y.ch,.i6 y.c4] 103):=⟨BG⟩
    refine goN ?_;refine lT rfl (iE rfl xz rfl).2 (ZR (nm:=g) bF hv) rfl rfl ?_;rintro _ _ ⟨H2,rfl,rfl,vO,RB⟩;refine goN ?_;have xL:d.length=d'.length:=by obtain⟨_,_,rfl⟩:=L! bF;exact(PE _ d).length_eq.symm
    have EF:∀k,k<N.length->g k<M:=fun k F=>hm.ph.lt S F;have FR:lJ N.length y:=hm.ph.wf y<|zX hy;have gtfz:∀k,k<M->k≠g q2->gt (dA M (.bv (bW g) d' 107 2 s) 2 H2) k=gt H k:=fun k F nI=>by rw[J7,iy ag,RB k ag];show Option.map _ (gt C k)=_;rw[eP k F nI];rcases V:gt H k with _|b';rfl;simp only[zM];rw[Lx _ _ (S k b' V).2]
    have HR:rC kp A st nm P h nx g (N.set q2 { y with D8:=d' }) r1.2 (q2+1) (dA M (.bv (bW g) d' 107 2 s) 2 H2) o:=by refine⟨hm.ph.rE hy (zN _) (fun j hj=>ag) ⟨fun a E=>?_,FR.fw,FR.more,FR.cp⟩ ?_ fun k b D F=>by rw[gtfz k (S k b D).1 F];exact D,hm.l7,fun k a b=>hm.new k a (by simpa using b),fun k a b e=>?_,by have:=hm.le;omega,by simpa using hm.len,XK hm.cl⟩;exact qua hm.ph.wf hd nofun a ((qwn bF a).1 E);rw[J7,iy ag,RB _ ag];show Option.map _ (gt C<|g q2)=_;rw[BG];have e1:=J1 (c:=bW g) (sz:=2) (fun _=>rfl) d' M 2 107 s;rw[<-xL]at e1;simp only[zM,fv,rW,F9,JB,J9,J8,JA,N6 _ _ _<|Lm EF FR.fw,N6 _ _ _<|Lm EF FR.cp];rw[e1];rfl;rw[gtfz k (by have:=hm.le;omega) fun e2=>by have:=hm.new q2 hm.cl KP;omega];exact hm.fr k a b e
    refine⟨l.length-(t+1),_,_,by omega,⟨t+1,_,q2+1,_,o,rfl,G,w,rfl,rfl,HR⟩,by have:=hm.le;show nx<=o;omega,Gh.trans (Gh.sub ?_)<|Gh.fz (Y:=⟨H2,o⟩) M (.bv (bW g) d' 107 2 s) 2 vO nofun (sA _ _ _<|Sy ?_) rfl⟩
    ·rw[<-mG];(repeat refine⟨rfl,?_⟩);exact trivial
    simp only[ej,aS,X1,di];refine⟨uF,?_,?_⟩;rw[<-hm.l7 i hi];exact EF i<|Xj hi hm.len;rw[Mp];intro c hc;obtain⟨a,E,rfl⟩:=mem_map.1 hc;simp only[dQ,pt,aG,aS,X1];rw[<-hm.l7 a (hl a E)];exact EF a (Xj (hl a E) hm.len)
   rintro _ _ _ ⟨j,d1,s,C,o,rfl,hj,Q,rfl,rfl,wg,hv,BG,eP⟩;refine I6.wf fun o7 hbt2=>?_
   haveI:ck o (o+1):=⟨rfl⟩
   haveI:ck (o+1) (o+2):=⟨rfl⟩
   have hpf:PF kp A st g { P with N:=N,size:=r1.2 } C:=⟨by rw[eP kp uF<|Wv hkq];exact hm.ph.b5,fun k z hz=>by
    by_cases e:k=q2;subst e;have:y=z:=by rw[show N[k]? = some z from hz]at hy;cases hy;rfl
    subst this;exact⟨_,BG⟩;have W9:k<N.length:=(zG.1 hz).1;rw[eP _ (hm.ph.lt S W9) fun e2=>e<|hm.ph.inj _ _ W9 KP e2];exact hm.ph.row hz⟩
   refine goN ?_;refine eD rfl (fun h9=>?_) (fun h9=>?_)
   ·have iV:j<(bV P.gen x).length:=by simpa using h9
    obtain⟨a,E⟩:∃a,(bV P.gen x)[j]? = some a:=⟨_,hF iV⟩;have D0:aC (bV P.gen x) (j:Int)=some a:=by rw[aC,kh ⟨by omega,by omega⟩];simpa using E
    have L0:(bV P.gen x).drop j=a::(bV P.gen x).drop (j+1):=by rw[Xk iV];rw[hF iV]at E;cases E;rfl
    have CN:i64.wrap ((j:Int)+1)=((j+1:Nat):Int):=by rw[wrap_i64 ag ag];rfl
    rw[L0]at Q;obtain⟨r,hr,Q⟩:=aK Q;obtain⟨z,hz,Q⟩:=aK Q;obtain⟨q4,hq4,Q⟩:=aK Q;obtain⟨xL,Q⟩:=bY Q;obtain⟨nj,ni⟩:=Tf hq4;have Fl:PF kp A st g { P with N:=N,size:=r1.2 } ((o,.row (bW g a) 107)::C):=⟨by rw[jU ag];exact hpf.b5,fun k z hz=>by obtain⟨u,hu⟩:=hpf.node k z hz;exact⟨u,by rw[jU (o7 _ _ hu).1];exact hu⟩⟩
    haveI:=Fl.gp
    obtain⟨u5,hu5⟩:=Fl.gn hz
    haveI:=hu5
    refine goN ?_;apply eX;refine goN ?_;refine dO D0 ?_;refine goN ?_;refine dE [] ?_;refine cX ?_;refine RD.call rfl (iE rfl zR rfl).2 (z5n Fl n hr) rfl rfl ?_;refine cX ?_;refine eA rfl (Ai (v:=pt g q4) nj (by rw[ni];rfl)) zE ?_;refine cX ?_;refine bC ⟨by kernel_rfl,trivial,?_⟩;have hyM2:g q2<o:=by omega
    haveI:Nq o (g q2):=⟨by rw[beq_eq];simp;omega⟩
    haveI:Nq (o+1) (g q2):=⟨by rw[beq_eq];simp;omega⟩
    haveI:Nq (o+1) o:=⟨by rw[beq_eq];simp⟩
    haveI:fP C (g q2) (.row [.i6 y.kind,.vl M s 0 d1.length,po g y.fw,.i6 y.c3,.i6 y.mt,.i6 y.b9,.iM (bW g) y.more,.i6 y.L8,po g y.cp,.i6 y.c8,.bool y.ch,.i6 y.c4] 103):=⟨BG⟩
    refine goN ?_;refine dE [(0,9),(0,10),(1,9),(2,9),(3,9),(4,9)] ?_;refine cX ?_;refine dS ?_;have wC:gt ((o+1,.row [.i6 a.f,pt g q4] 107)::(o,.row (bW g a) 107)::C) M=some (.vec (d1.map<|bW g).flatten 107 2 s):=by rw[aV,iy ag,aV,iy ag];exact hv
    refine RD.act rfl (rG rfl rfl rfl rfl (CE (bW g) [⟨a.f,q4⟩] ES.h ES.h DY.h rfl (fun _=>rfl) wC (DM (bW g) [⟨a.f,q4⟩] (q:=[.i6 a.f,pt g q4]) (by simp[rowOf,aV]) rfl rfl rfl) ⟨by simp;omega,by simp;omega⟩)) rfl rfl ?_
    let v09:B:=.vec (List.map (bW g)<|d1++[⟨a.f,q4⟩]).flatten 107 2 (s+1)
    let T:X (Nat×B):=(o+1,.row [.i6 a.f,pt g q4] 107)::(o,.row (bW g a) 107)::C
    haveI:fP (ug T M v09) (g q2) (.row [.i6 y.kind,.vl M s 0 d1.length,po g y.fw,.i6 y.c3,.i6 y.mt,.i6 y.b9,.iM (bW g) y.more,.i6 y.L8,po g y.cp,.i6 y.c8,.bool y.ch,.i6 y.c4] 103):=⟨by rw[bT,iy ag];simp only[T];rw[aV,iy ag,aV,iy ag];exact BG⟩
    refine cX ?_;refine tC ?_;refine bC ⟨by kernel_rfl,⟨P0,P0,P0,P0,P0,P0,trivial⟩,?_⟩;refine goN ?_;refine⟨(bV P.gen x).length-(j+1),_,_,by omega,⟨j+1,d1++[⟨a.f,q4⟩],s+1,_,o+2,rfl,iV,Q,rfl,rfl,by omega,?_,?_,fun k F nI=>?_⟩,by have:=hm.le;show nx<=o+2;omega,Gh.sub ?_⟩;rw[bT,iy ag,bT,kh rfl];show Option.map _ (gt ((o+1,_)::(o,_)::C) M)=_;rw[wC];rfl;rw[bT,kh rfl,bT,iy ag];show Option.map _ (gt ((o+1,_)::(o,_)::C)<|g q2)=_;rw[aV,iy ag,aV,iy ag,BG];rfl;rw[bT,iy<|Wv nI,bT,iy ag];show gt ((o+1,_)::(o,_)::C) k=_;rw[aV,iy ag,aV,iy ag];exact eP k F nI
    ·rw[<-CN];(repeat refine⟨rfl,?_⟩);exact trivial
   ·refine goN ?_;have iV:j=(bV P.gen x).length:=by
     have:¬ (j:Int)<(bV P.gen x).length:=by simpa using h9
     omega
    subst iV;rw[uO]at Q;obtain rfl:=sI Q;exact⟨_,_,⟨s,C,o,rfl,rfl,wg,hv,BG,eP⟩,by have:=hm.le;show nx<=o;omega,Gh.sub<|by((repeat refine⟨rfl,?_⟩);exact trivial)⟩
  ·refine goN ?_;have G:t=l.length:=by
    have:¬ (t:Int)<l.length:=by simpa using h7
    omega
   subst G;rw[uO]at w;obtain⟨hc,w⟩:=bY w;obtain rfl:=sI w;subst hc;exact⟨_,_,⟨H,M,rfl,rfl,hm⟩,hm.le,Gh.sub<|by((repeat refine⟨rfl,?_⟩);exact trivial)⟩
 rintro _ _ _ ⟨t,g,N,s,H,M,rfl,ht,w,rfl,rfl,hm⟩;refine goN ?_;refine eD rfl (fun h7=>?_) (fun h7=>?_)
 ·have G:t<l.length:=by simpa using h7
  obtain⟨q,V⟩:∃a,l[t]? = some a:=⟨_,hF G⟩;have m5:aC l (t:Int)=some q:=by rw[aC,kh ⟨by omega,by omega⟩];simpa using V
  have tS:l.drop t=q::l.drop (t+1):=by rw[Xk G];rw[hF G]at V;cases V;rfl
  have mG:i64.wrap ((t:Int)+1)=((t+1:Nat):Int):=by rw[wrap_i64 ag ag];rfl
  rw[tS]at w;obtain⟨x,I,w⟩:=aK w;have L:=hl q<|zX V;have uE:dQ nm q=dQ g q:=by simp only[dQ,pt,hm.l7 q L]
  have Z:=hm.ph.node q x I L
  haveI:fP H (g q) (.row [.i6 x.kind,.iM (bW g) x.D8,po g x.fw,.i6 x.c3,.i6 x.mt,.i6 x.b9,.iM (bW g) x.more,.i6 x.L8,po g x.cp,.i6 x.c8,.bool x.ch,.i6 x.c4] 103):=⟨Z⟩
  have ol:g q≠kp:=hm.ph.kC (zG.1 I).1
  haveI:Nq (g q) kp:=⟨by rw[beq_eq];simpa using ol⟩
  haveI:Nq kp (g q):=⟨by rw[beq_eq];simpa using ol.symm⟩
  haveI:=hm.ph.pf.gp
  refine goN ?_;apply eX;refine goN ?_;refine dO m5 ?_;rw[uE];refine goN ?_;refine dE [] ?_;refine cX ?_;refine eA rfl (fun s=>Hg s x.ch x.c4 P.gen) S5 ?_;refine cX ?_;refine bC ⟨by kernel_rfl,trivial,?_⟩;refine goN ?_;refine eD rfl (fun h8=>?_) (fun h8=>?_)
  ·rw[show BC P.gen x=true from h8]at w;refine I6.wf fun S b_=>?_;have R:lJ N.length x:=hm.ph.wf x (zX I)
   haveI:ck M (M+1):=⟨rfl⟩
   have uF:kp<M:=(S _ _ hm.ph.b5).1;have hqM:g q<M:=(S _ _ Z).1
   haveI:Nq M kp:=⟨by rw[beq_eq];simp;omega⟩
   haveI:Nq M (g q):=⟨by rw[beq_eq];simp;omega⟩
   refine goN ?_;refine aM rfl (z5w hm.ph.pf I) zP ?_;refine goN ?_
   let s':=i64.wrap (s+1)
   let R0:B:=.row [.i6<|hX P.gen x,.J,.b8,.i6 0,.i6 0,.i6 0,.J,.i6 0,.b8,.i6 0,.bool false,.i6 0] 103
   let R1:B:=.row (sY A st { P with N:=N,size:=s' }) 83
   let x':PN:={ x with cp:=some N.length,c8:=P.gen }
   change RU _ _ _ _ _ (Sg.mk ((M,R0)::ug H kp R1)<|M+1) _
   haveI:fP (ug H kp R1) kp (.row [.iM jV P.H.Types,.iM mQ P.H.E3,.vl A st 0 P.roots.length,.i6 s',.i6 P.gen] 83):=⟨by rw[bT,kh rfl,hm.ph.b5];rfl⟩
   haveI:fP (ug H kp R1) (g q) (.row [.i6 x.kind,.iM (bW g) x.D8,po g x.fw,.i6 x.c3,.i6 x.mt,.i6 x.b9,.iM (bW g) x.more,.i6 x.L8,po g x.cp,.i6 x.c8,.bool x.ch,.i6 x.c4] 103):=⟨by rw[bT,iy<|Wv ol];exact Z⟩
   refine goN ?_;have HR:rC kp A st nm P h nx (vT g N.length M) ((N++[gX (hX P.gen x) []]).set q x') s' P.N.length ((M,.row (rW (vT g N.length M) (gX (hX P.gen x) []) .J) 103)::ug (ug H kp R1) (g q) (.row (oV (vT g N.length M) x') 103)) (M+1):=by
    have yJ:(N++[gX (hX P.gen x) []])[q]? = some x:=by rw[kl (zG.1 I).1];exact I
    have hql2:q<N.length:=(zG.1 I).1;have q1:=hm.ph.add (H:=(M,.row (rW (vT g N.length M) (gX (hX P.gen x) []) .J) 103)::H) S hm.len (hX P.gen x) (by simp[aV]) fun k b D=>by rw[jU (S k b D).1];exact D
    have q2:=q1.oG s';have e0:vT g N.length M q=g q:=xE q hql2;have q3:=q2.rE (i:=q) (c':=P.N.length) (y:=x') (H:=(M,.row (rW (vT g N.length M) (gX (hX P.gen x) []) .J) 103)::ug (ug H kp R1) (g q) (.row (oV (vT g N.length M) x') 103)) yJ L (fun _ _=>Iff.rfl) ⟨fun a E=>?_,?_,fun a E=>?_,?_⟩ ?_ ?_;refine⟨q3,fun k F=>by rw[xE k<|Xj F hm.len];exact hm.l7 k F,fun k E D=>?_,fun k E D hc=>?_,XK hm.le,by simp;exact XK hm.len,zF _⟩;rw[lu,zU]at D;obtain h9 |h9:=XL k N.length;rw[xE k h9];exact hm.new k E h9;have:k=N.length:=by simp at D;omega
    subst this;rw[Au];exact hm.le;rw[aV,iy (by have:=hm.le;omega),bT,iy fun e=>hc q L (by rw[<-hm.l7 q L];exact e),bT,iy<|Wv D];exact hm.fr k E D hc;show a.to<(N++[gX (hX P.gen x) []]).length;simp;exact Xm<|R.D8 a E;show GC (N++[gX (hX P.gen x) []]).length x.fw;exact R.fw.le ca;show a.to<(N++[gX (hX P.gen x) []]).length;simp;exact Xm<|R.more a E;show N.length<(N++[gX (hX P.gen x) []]).length;simp;rw[e0,aV,iy ag,bT,kh rfl,bT,iy<|Wv ol,Z];rfl;intro k b D F;rw[e0]at F;by_cases e1:M=k;subst e1;rw[bT,iy ag,aV,kh rfl]at D;rw[aV,kh rfl];exact D;rw[aV,iy e1,bT,iy<|Wv F,bT];rw[bT]at D;have e3:=aV M (.row (rW (vT g N.length M) (gX (hX P.gen x) []) .J) 103) H k;rw[iy e1]at e3;rw[e3,aV,iy (by omega:¬ M=kp)]at D;exact D
   refine⟨l.length-(t+1),_,_,by omega,⟨t+1,_,_,_,_,M+1,rfl,G,w,rfl,rfl,HR⟩,HR.le,Gh.trans (Gh.sub (l':=[(0,.ptr kp 0 0),(1,pt nm i),(5,.iM (dQ nm) l),(27,.iM (dQ nm) l),(28,.i6 l.length),(29,.i6 ((t+1:Nat):Int))]) ?_) ?_⟩
   ·rw[<-mG];(repeat refine⟨rfl,?_⟩);exact trivial
   have e2:oV (vT g N.length M) x'=[.i6 x.kind,.iM (bW g) x.D8,po g x.fw,.i6 x.c3,.i6 x.mt,.i6 x.b9,.iM (bW g) x.more,.i6 x.L8,.ptr M 0 0,.i6 P.gen,.bool x.ch,.i6 x.c4]:=by simp only[oV,U.iM,x'];rw[Tx xE R.D8,Tx xE R.more,Te xE R.fw];simp only[po,pt,Au]
   rw[e2];have hgM:∀T:X (Nat×B),gt ((M,R0)::T) M=some R0:=fun T=>by simp[aV]
   have hug:∀(T:X (Nat×B))(b:B),ug ((M,R0)::T) M b=(M,b)::T:=fun T b=>by simp[ug,beq_eq]
   refine(Gh.qJ (Y:=⟨_,M+1⟩) (K:=M) (hgM _) (q':=rW (vT g N.length M) (gX (hX P.gen x) []) .J) rfl ?_).trans (Gh.eqv rfl ?_);exact .cons (.refl _)<|.cons (.refl _)<|.cons (.refl _)<|.cons (.refl _)<|.cons (.refl _)<|.cons (.refl _)<|.cons (.nil false)<|pQ.refl _;exact congrArg (fun T=>(⟨T,M+1⟩:Sg)) (hug _ _)
  ·rw[show BC P.gen x=false from h8]at w;refine goN ?_;have R:lJ N.length x:=hm.ph.wf x<|zX I;have HR:rC kp A st nm P h nx g (N.set q { x with cp:=some q,c8:=P.gen }) s P.N.length (ug H (g q)<|.row (oV g { x with cp:=some q,c8:=P.gen }) 103) M:=by refine⟨hm.ph.rE I L (fun _ _=>Iff.rfl) ⟨R.D8,R.fw,R.more,Xj L hm.len⟩ (by rw[bT,kh rfl,Z];rfl) fun k b D F=>by rw[bT,iy<|Wv F];exact D,hm.l7,fun k a b=>hm.new k a (by simpa using b),fun k a b d=>?_,hm.le,by simpa using hm.len,zF _⟩;rw[bT,iy fun e=>d q L (by rw[<-hm.l7 q L];exact e)];exact hm.fr k a b d
   refine⟨l.length-(t+1),_,_,by omega,⟨t+1,_,_,_,_,M,rfl,G,w,rfl,rfl,HR⟩,HR.le,Gh.sub ?_⟩;rw[<-mG];(repeat refine⟨rfl,?_⟩);exact trivial
 ·refine goN ?_;have G:t=l.length:=by
   have:¬ (t:Int)<l.length:=by simpa using h7
   omega
  subst G;rw[uO]at w;obtain rfl:=sI w;exact⟨_,_,⟨g,H,M,rfl,rfl,hm⟩,hm.le,Gh.sub<|by((repeat refine⟨rfl,?_⟩);exact trivial)⟩
end
end Go.Proofs
namespace Go.Vx
open Go Go.Rx
variable{Y:Sg}
def Gh.CT{q N:Nat}{J g:X U}{o:X (Nat×B)}(f:Nat->Nat)(L:∀k,k<q->f k=k)(Q:q<=N)(key:∀k b,gt o k=some b->k<N/\cV N b/\gt Y.h (f k)=some (rB f b))(inj:∀k j b t,gt o k=some b->gt o j=some t->f k=f j->k=j)(hl:eR f g=J)(a:aG N g):Gh q J Y g ⟨o,N⟩:=fun F x tv hx H G T=>by
 subst hx
 let y:Cx:=⟨fun k=>x.Z<|f k,⟨o,N⟩,x.s⟩
 have D:U4 N f x y:=⟨fun k st off v d h=>by
   simp only[aD,Ref]at h ⊢;refine⟨h.1,d,fun b a=>?_⟩;have:=h.2.2 _ (key k b a).2.2
   rwa [TN]at this,fun k off m c v d h=>by
   simp only[aD,Ref]at h ⊢;refine⟨h.1,d,fun b a=>?_⟩;have:=h.2.2 _ (key k b a).2.2
   rwa [TN]at this,fun k st off m v d h=>by
   simp only[aD]at h ⊢;refine⟨h.1,d,fun b a=>?_⟩;have C:=h.2.2 _ (key k b a).2.2;rw[TN]at C;refine⟨C.1,fun e=>?_⟩;obtain⟨l,e',sz,p,R⟩:=C.2 e;cases b with
   |vec l' P s2 st2=>simp only[rB,B.vec.injEq]at p;exact⟨l',P,s2,by rw[p.2.2.2],by rw[p.2.2.1];exact R⟩|row=>simp[rB]at p|map=>simp[rB]at p,fun k v d h=>by
   simp only[aD,Ref]at h ⊢;refine⟨h.1,d,fun b a=>?_⟩;have:=h.2.2 _ (key k b a).2.2
   rwa [TN]at this,fun _ _ _ h=>h⟩
 have K:∀u,aS q u->rU f u=u:=fun u r=>by
  have:=sb (V:=id) (κ:=f) (n:=q) (fun k d=>L k d) u r
  rwa [Rn]at this
 refine⟨y,fun m w G=>bJ.refl G,rfl,⟨fun k b a=>?_,fun k j b t i a I z A=>?_,H.bd⟩,fun i b O=>?_,?_,fun u v r hv=>?_⟩;obtain⟨M,E,W⟩:=key k b a;obtain⟨g1,g2⟩:=H.ok _ _ W;exact⟨M,o8.I9 D E rfl (fun _ _ _ h=>h) g2⟩;exact inj k j b t a I<|H.inj _ _ _ _ i (key k b a).2.2 (key j t I).2.2 z A;obtain⟨z,A⟩:=G i b O;exact⟨z,fun k c S=>A _ _ (key k c S).2.2⟩;exact aZ.I9 D a (by rw[hl];exact T);exact aD.I9 D u v (aS.le Q u r) (by rw[K u r];exact hv)
variable{R:U->Sg->Prop}
def aT.gh{P:Ib}{f:FuncId}{args:X U}{k:U->Sg->Prop}(h:aT P f args Y R)(M:∀u d,R u d->oY d->Y.nx<=d.nx->∃j g,Gh Y.nx [u] d [j] g/\Y.nx<=g.nx/\k j g):aT P f args Y k:=fun F x W m w a i L B K t b=>
 (h F x W m w a i L B K t b).mono fun e c ⟨y,l,u,v,s,D,E,o,G,p,H,I,q,J⟩=>by obtain⟨j,g,g1,g2,C⟩:=M _ _ E p.wf (by rw[<-i];exact J);obtain⟨z,N,r,O,Q,S,T⟩:=g1 F y [v] rfl p H ⟨⟨I,trivial⟩,rfl⟩;have n:=N l c o.fits;obtain⟨v2,Z,A,V,r2⟩:=S.inv;cases A;refine⟨z,l,j,v,s,D,by rw[r];exact C,o.trans n,?_,O,Q,V,?_,by rw[r,i];exact g2⟩;exact G.ext (aJ.refl _ _) n.nx;rw[i]at q ⊢;exact q.trans T
variable{n:Nat}{f:Nat->Nat}
def z90(h:∀k,k<n->f k=k)(u:U)(a:aS n u):rU f u=u:=by
 have:=sb (V:=id) (κ:=f) (n:=n) h u a
 rwa [Rn]at this
def I!(h:∀k,k<n->f k=k)(l:X U)(a:aG n l):eR f l=l:=by
 have:=UC (V:=id) (κ:=f) (n:=n) h l a
 rwa [OH]at this
def z31(h:∀k,k<n->f k=k)(l:X (X U))(a:lL n l):uP f l=l:=by
 have:=Ps (V:=id) (κ:=f) (n:=n) h l a
 rwa [ZX]at this
def z8z(h:∀k,k<n->f k=k)(b:B)(a:cV n b):rB f b=b:=by
 cases b with
 |row l e=>simp only[rB];rw[I! h l a]|vec l e s st=>simp only[rB];rw[I! h l a]
 |map j i=>simp only[rB,B.map.injEq,X1];refine(Wu (g:=id) fun e d=>?_).trans ca;have c:=a e d;simp only[rM,id];rw[z90 h _ c.1,z90 h _ c.2]
section
variable{T:Tb}{n:Nat}{l:X (Nat×U)}{rs:X ResultVar}
def Pn{a:Tmp}{t:X ResultVar}{b Y2:Sg}{u w:U}(m:rs=.tmp a::t)(h:bM n l (.tmp a)=some u)(g:t=[])(i:b.nx<=Y2.nx)(k:Gh b.nx [u] Y [w] Y2)(j:R w Y2):
  (Exit.ret=.normal\/Exit.ret=.ret)/\∃d,lB T Y (fr n l) rs=some d/\∃e c,b.nx<=c.nx/\Gh b.nx [mC d] Y [e] c/\R e c:=by subst m;subst g;exact⟨.inr rfl,_,eL h eB,w,Y2,i,k,j⟩
def VA{a b:Tmp}{t:X ResultVar}{c Y2:Sg}{u v w:U}(p:rs=.tmp a :: .tmp b::t)(h:bM n l (.tmp a)=some u)(i:bM n l (.tmp b)=some v)(j:t=[])(k:c.nx<=Y2.nx)(o:Gh c.nx [.a7 [u,v]] Y [w] Y2)(m:R w Y2):
  (Exit.ret=.normal\/Exit.ret=.ret)/\∃e,lB T Y (fr n l) rs=some e/\∃g d,c.nx<=d.nx/\Gh c.nx [mC e] Y [g] d/\R g d:=by subst p;subst j;exact⟨.inr rfl,_,eL h<|eL i eB,w,Y2,k,o,m⟩
end
def fI.wf{C:PG}{Y:Sg}{c:X U}{o:Oper}{R:U->Sg->Prop}(h:oY Y->aG Y.nx c->fI C Y c o R):fI C Y c o R:=fun F x k m w a next Q b st g i j d=>h (b ▸ st.h.wf) (b ▸ st.e.L5) F x k m w a next Q b st g i j d
def fI.sV{C:PG}{T:Tb}(E:j0 C.prog T){h:X (Nat×B)}{nx:Nat}{l:X (Nat×U)}{o:Oper}{t e:TypeId}{k a b:Nat}{z:I}{r cs:X U}{rs:X (X U)}{p:Ie (Nat×Qo)}{q:X (Nat×U)}{d:Tmp}(L:o.op=.buildSlice t k p)(F:T.G4 t=some (.slice e))(J:T.inf e=some (a,b,z))(N:DH n l p.toList=some q)(w:ble (k*a) 16777216=true)(x:ble k 16777216=true)(y:Nat.beq z.cells.toList.length a=true)(O:qN z.cells.toList=some r)(H:rY (fun i=>some (i*a,a)) (y3 r k) q=some cs)(K:I5 cs=true)(S:cs.length=k*a)(M:bR a k cs=rs)(G:o.dst=some d)(g:blt d n=true)(Q:aG 0 cs):
  fI C ⟨h,nx⟩ (fr n l) o (fun u s=>u=.O false rs/\s=⟨h,nx+1⟩):=fI.wf fun m _=>by
 subst M;refine fI.fz E (s1:=⟨(nx,.row cs e)::h,nx+1⟩) (u1:=.sl nx 0 k k) (by rw[L];exact F2 F J N w x y O H K) ?_ (zF _) G g;have P:∀k,gt (dA nx (.row cs e) a ((nx,.row cs e)::h)) k=gt h k:=fun k=>by rw[J7];by_cases c:k=nx;rw[kh c];subst c;rcases j:gt h k with _|b;rfl;have:k<k:=(m k b j).1;omega;rw[iy c,aV,iy<|Wv c];rcases j:gt h k with _|b;rfl;simp only[zM];rw[Lx _ _ (m k b j).2]
 have v:k9 nx (.row cs e) a [.sl nx 0 k k]=[.O false<|bR a k cs]:=by
  have A:Nat.beq nx nx=true:=by simp
  have D:0+k*a<=cs.length:=by omega
  simp only[k9,Vx.fz,A,zC,D,It,Xl]
 exact(Gh.fz (Y:=⟨(nx,.row cs e)::h,nx+1⟩) nx (.row cs e) a (by simp[aV]) nofun v rfl).trans (Gh.same (Y:=⟨_,nx+1⟩) h fun k=>(P k).symm)
end Go.Vx
namespace Go.Proofs
open Go Go.Rx Go.Vx Tryz
def HD(nm:Nat->Nat):X PN->Nat->X (Nat×B)
 |[],_=>[]|x::N,i=>(nm i,.row (oV nm x) 103)::HD nm N (i+1)
def cH(kp a st:Nat)(nm:Nat->Nat)(P:PP)(h:X (Nat×B)):X (Nat×B):=(kp,.row (sY a st P) 83)::(a,.bv (dQ nm) P.roots 92 1 st)::(HD nm P.N 0++h)
def jW(nm:Nat->Nat)(n nx:Nat):Nat->Nat:=fun i=>if i<n then nm i else nx+(i-n)
variable{n:Nat}
def B1{nm:Nat->Nat}{nx:Nat}:∀k,k<n->jW nm n nx k=nm k:=fun k a=>by rw[jW,kh a]
def z88{nm:Nat->Nat}{h:X (Nat×B)}:∀{N:X PN}{s k:Nat}{b:B},gt (HD nm N s++h) k=some b->(∃i x,N[i]? = some x/\nm (s+i)=k/\b=.row (oV nm x) 103)\/((∀i,i<N.length->nm (s+i)≠k)/\gt h k=some b)
 |[],s,k,b,a=>.inr ⟨fun i f=>by simp at f,a⟩|x::N,s,k,b,a=>by
  simp only[HD,fV]at a;rw[aV]at a;by_cases e:nm s=k;rw[kh e]at a;cases a;exact .inl ⟨0,x,rfl,e,rfl⟩;rw[iy e]at a;obtain⟨i,y,c,d,g⟩|⟨c,d⟩:=z88 a;exact .inl ⟨i+1,y,c,by rw[<-d];congr 1;omega,g⟩;refine .inr ⟨fun i f=>?_,d⟩;cases i with
  |zero=>exact e|succ i=>have:=c i (by simpa using f);rwa [show s+1+i=s+(i+1) by omega]at this
def qrr{nm:Nat->Nat}{h:X (Nat×B)}:∀{N:X PN}{s i:Nat}{x:PN},(∀i j,i<N.length->j<N.length->nm (s+i)=nm (s+j)->i=j)->N[i]? = some x->gt (HD nm N s++h) (nm<|s+i)=some (.row (oV nm x) 103)
 |[],s,i,x,_,c=>by simp at c
 |y::N,s,0,x,d,c=>by simp at c;subst c;simp only[HD,fV,ek];rw[aV,kh rfl]
 |y::N,s,i+1,x,d,c=>by
  have c:N[i]? = some x:=by simpa using c
  have l:i<N.length:=(zG.1 c).1;have f:=qrr (h:=h) (s:=s+1) (fun a b g k e=>by have:=d (a+1) (b+1) (by simpa using g) (by simpa using k) (by rw[show s+(a+1)=s+1+a by omega,show s+(b+1)=s+1+b by omega];exact e);omega) c;simp only[HD,fV];rw[aV,iy fun e=>?_,show s+(i+1)=s+1+i by omega];exact f;have:=d 0 (i+1) ca (by simpa using l) e;omega
def qrs{nm:Nat->Nat}{h:X (Nat×B)}{k:Nat}:∀{N:X PN}{s:Nat},(∀i,i<N.length->nm (s+i)≠k)->gt (HD nm N s++h) k=gt h k
 |[],s,_=>rfl|x::N,s,a=>by
  simp only[HD,fV];rw[aV,iy (show ¬ nm s=k from a 0 ca),qrs fun i b=>?_];have:=a (i+1) (by simpa using b)
  rwa [show s+(i+1)=s+1+i by omega]at this
section
variable{kp d st:Nat}{nm:Nat->Nat}{P:PP}{h:X (Nat×B)}{nx:Nat}
def M_(o:kp≠d)(l:∀i,i<P.N.length->nm i≠kp)(m:∀i,i<P.N.length->nm i≠d)(inj:∀i j,i<P.N.length->j<P.N.length->nm i=nm j->i=j)(wf:∀x∈P.N,lJ P.N.length x)(rt:∀r∈P.roots,r<P.N.length):PH kp d st nm P (cH kp d st nm P h):=by refine⟨by rw[cH,aV,kh rfl],by rw[cH,aV,iy o,aV,kh rfl],fun i x f=>?_,inj,wf,rt⟩;have c:=(zG.1 f).1;rw[cH,aV,iy<|Wv<|l i c,aV,iy<|Wv<|m i c];have:=qrr (h:=h) (s:=0) (N:=P.N) (nm:=nm) (fun a b g k e=>inj a b g k<|by simpa using e) f;simpa using this
def lh{k:Nat}(a:k≠kp)(b:k≠d)(c:∀i,i<P.N.length->nm i≠k):gt (cH kp d st nm P h) k=gt h k:=by rw[cH,aV,iy<|Wv a,aV,iy<|Wv b];exact qrs (s:=0) fun i e=>by simpa using c i e
def R!(f:Nat->Nat)(nm c:Nat->Nat):∀(l:X dZ),(∀a∈l,f (c a.to)=nm a.to)->uP f (l.map<|bW c)=l.map (bW nm)
 |[],_=>rfl|a::l,e=>by simp only[zQ,uP,R! f nm c l fun b g=>e b (by simp[g]),bW,pt,eR,rU,e a ca]
def TG(f:Nat->Nat)(nm a:Nat->Nat)(b:∀i,i<n->f (a i)=nm i):∀{o:A Nat},GC n o->rU f (po a o)=po nm o
 |none,_=>rfl|some i,c=>by simp only[po,pt,rU,b i c]
def zb1(f:Nat->Nat)(nm b:Nat->Nat)(c:∀i,i<n->f (b i)=nm i){x:PN}(w:lJ n x):eR f (oV b x)=oV nm x:=by simp only[oV,eR,rU,U.iM,R! f nm b _ fun a e=>c _<|w.D8 a e,R! f nm b _ fun a e=>c _<|w.more a e,TG f nm b c w.fw,TG f nm b c w.cp]
def z2x(f:Nat->Nat):∀a b:X U,eR f (a++b)=eR f a++eR f b
 |[],b=>rfl|u::a,b=>by simp only[fV,eR,z2x f a b]
def z2z(f:Nat->Nat)(nm c:Nat->Nat):∀(l:X Nat),(∀a∈l,f (c a)=nm a)->eR f (l.map<|dQ c).flatten=(l.map<|dQ nm).flatten
 |[],_=>rfl|a::l,e=>by simp only[zQ,Wx,z2x,z2z f nm c l fun b g=>e b (by simp[g]),dQ,pt,eR,rU,e a ca]
variable{M:Nat}
def z4v{nm:Nat->Nat}(b:∀k,k<n->nm k<M){x:PN}(w:lJ n x):aG M (oV nm x):=by simp only[oV,aG,aS,X1,di];exact⟨Mn _ fun a c=>b _<|w.D8 a c,Lm b w.fw,Mn _ fun a c=>b _<|w.more a c,Lm b w.cp⟩
variable{g:Nat}
def canon{nm1:Nat->Nat}{P1:PP}{H:X (Nat×B)}{tm tm':X U}(p:PH kp d st nm P h)(D:oY ⟨h,nx⟩)(z:PH kp d g nm1 P1 H)(aP:P.N.length<=P1.N.length)(Q:∀k,k<P.N.length->nm1 k=nm k)(new:∀k,P.N.length<=k->k<P1.N.length->nx<=nm1 k)(fr:∀k,k<nx->k≠kp->k≠d->(∀i,i<P.N.length->nm i≠k)->gt H k=gt h k)
  (ht:eR (fun k=>if k<nx then k else nm1 (P.N.length+(k-nx))) tm'=tm) (hb:aG (nx+(P1.N.length-P.N.length)) tm'):
  Gh nx tm ⟨H,M⟩ tm' ⟨cH kp d g (jW nm P.N.length nx) P1 h,nx+(P1.N.length-P.N.length)⟩:=by
 let f:Nat->Nat:=fun k=>if k<nx then k else nm1 (P.N.length+(k-nx))
 have R:kp<nx:=(D _ _ p.b5).1;have G:d<nx:=(D _ _ p.roots).1;have F:∀i,i<P.N.length->nm i<nx:=fun i t=>p.lt D t;have y:∀i,i<P1.N.length->f (jW nm P.N.length nx i)=nm1 i:=fun i t=>by
  show(if _ then _ else _)=_;obtain l |l:=XL i P.N.length;rw[B1 i l,kh<|F i l,Q i l];have Y:jW nm P.N.length nx i=nx+(i-P.N.length):=by rw[jW,iy ag]
  rw[Y,iy ag];congr 1;omega
 have L:∀i,i<P1.N.length->jW nm P.N.length nx i<nx+(P1.N.length-P.N.length):=fun i t=>by obtain l |l:=XL i P.N.length;rw[B1 i l];have:=F i l;omega;rw[jW,iy ag];omega
 have K:∀k,k<nx->f k=k:=fun k O=>by show(if _ then _ else _)=_;rw[kh O]
 have V:∀k b,gt (cH kp d g (jW nm P.N.length nx) P1 h) k=some b->(k=kp/\b=.row (sY d g P1) 83)\/(k=d/\b=.bv (dQ<|jW nm P.N.length nx) P1.roots 92 1 g)\/(∃i x,P1.N[i]? = some x/\jW nm P.N.length nx i=k/\b=.row (oV (jW nm P.N.length nx) x) 103)\/(k≠kp/\k≠d/\(∀i,i<P.N.length->nm i≠k)/\gt h k=some b):=fun k b m=>by rw[cH,aV]at m;by_cases I:kp=k;rw[kh I]at m;cases m;exact .inl ⟨I.symm,rfl⟩;rw[iy I,aV]at m;by_cases w:d=k;rw[kh w]at m;cases m;exact .inr<|.inl ⟨w.symm,rfl⟩;rw[iy w]at m;obtain⟨i,x,l,o,s⟩|⟨l,o⟩:=z88 m;exact .inr (.inr<|.inl ⟨i,x,l,by simpa using o,s⟩);refine .inr<|.inr<|.inr ⟨Wv I,Wv w,fun i t=>?_,o⟩;have:=l i ag;rw[Wy,B1 i t]at this;exact this
 refine Gh.CT f (fun k O=>by show(if _ then _ else _)=_;rw[kh O]) (jG _ _) (fun k b m=>?_) (fun k k' b W m tR e=>?_) ht hb;obtain⟨rfl,rfl⟩|⟨rfl,rfl⟩|⟨i,x,E,rfl,rfl⟩|⟨l,o,s,v⟩:=V k b m;refine⟨by omega,?_,?_⟩;simp only[cV,sY,aG,aS,X1,di];exact⟨vA _ (fun q=>Ul _ q) _,vA _ (fun q=>O' _ q) _,by omega⟩;have e:f k=k:=by show(if _ then _ else _)=_;rw[kh R]
 have w:f d=d:=by show(if _ then _ else _)=_;rw[kh G]
 rw[e,z.b5];simp only[rB,sY,eR,rU,U.iM,w];rw[z31 K _<|vA _ (fun q=>Ul nx q) _,z31 K _<|vA _ (fun q=>O' nx q) _];refine⟨by omega,?_,?_⟩;show aG _ (P1.roots.map _).flatten;rw[DS];intro u J;obtain⟨c,hc,J⟩:=mem_flatten.1 J;obtain⟨r,hr,rfl⟩:=mem_map.1 hc;simp only[dQ,mq]at J;subst J;exact L r<|z.rt r hr;have w:f k=k:=by show(if _ then _ else _)=_;rw[kh G]
 rw[w,z.roots];simp only[rB,B.bv];rw[z2z f nm1 _ P1.roots fun a Z=>y a<|z.rt a Z];have t:=(zG.1 E).1;have S:=z.wf x<|zX E;refine⟨L i t,z4v L S,?_⟩;rw[y i t,z.node i x E];simp only[rB];rw[zb1 f nm1 _ y S];obtain⟨A,T⟩:=D k b v;refine⟨by show k<_;have:k<nx:=A;omega,Ma (jG _ _) T,?_⟩;have e:f k=k:=by show(if _ then _ else _)=_;rw[kh A]
 rw[e];show gt H k=_;rw[fr k A l o s,v,z8z K b T];have key:∀k b,gt (cH kp d g (jW nm P.N.length nx) P1 h) k=some b->(k<nx/\f k=k)\/∃i,i<P1.N.length/\P.N.length<=i/\jW nm P.N.length nx i=k:=fun k b m=>by obtain⟨rfl,rfl⟩|⟨rfl,rfl⟩|⟨i,x,E,rfl,rfl⟩|⟨l,o,s,v⟩:=V k b m;exact .inl ⟨R,by show(if _ then _ else _)=_;rw[kh R]⟩;exact .inl ⟨G,by show(if _ then _ else _)=_;rw[kh G]⟩;have t:=(zG.1 E).1;obtain C |C:=XL i P.N.length;rw[B1 i C];exact .inl ⟨F i C,by show(if _ then _ else _)=_;rw[kh<|F i C]⟩;exact .inr ⟨i,t,C,rfl⟩;have A:=(D k b v).1;exact .inl ⟨A,by show(if _ then _ else _)=_;rw[kh A]⟩
 obtain⟨l,o⟩|⟨i,l,o,rfl⟩:=key k b m<;>obtain⟨s,v⟩|⟨j,s,v,rfl⟩:=key k' W tR;rw[o,v]at e;exact e;rw[o,y j s]at e;have:=new j v s;omega;rw[v,y i l]at e;have:=new i o l;omega;rw[y i l,y j s]at e;rw[z.inj i j l s e]
def qs7{a:Nat->Nat}{n:Nat}(b:∀k,k<n->a k=nm k):∀{N:X PN}{s:Nat},s+N.length<=n->(∀x∈N,lJ n x)->HD a N s=HD nm N s
 |[],_,_,_=>rfl|x::N,s,c,e=>by simp only[HD];rw[b s (by simp at c;omega),qr6 b<|e x ca,qs7 b (by simp at c;omega) fun y f=>e y<|by simp[f]]
def qvd{a:Nat->Nat}{P1:PP}(b:∀k,k<P1.N.length->a k=nm k)(e:∀x∈P1.N,lJ P1.N.length x)(c:∀r∈P1.roots,r<P1.N.length):cH kp d g a P1 h=cH kp d g nm P1 h:=by simp only[cH,B.bv];rw[qs7 b ag e,qr7 b c]
def X?{P1:PP}{H:X (Nat×B)}{tm:X U}(p:PH kp d st nm P h)(m:oY ⟨h,nx⟩)(e:PH kp d g nm P1 H)(c:P1.N.length=P.N.length)(fr:∀k,k<nx->k≠kp->k≠d->(∀i,i<P.N.length->nm i≠k)->gt H k=gt h k)(j:aG nx tm):
  Gh nx tm ⟨H,M⟩ tm ⟨cH kp d g nm P1 h,nx⟩:=by have f:=canon (M:=M) (tm:=tm) (tm':=tm) p m e (la c.symm) (fun _ _=>rfl) (fun k a b=>ag) fr (I! (n:=nx) (fun k l=>by rw[kh l]) tm j) (by rw[c,mr];exact j);rw[c,mr,ek,qvd (nm:=nm) (fun k l=>B1 k ag) e.wf e.rt]at f;exact f
def z56{P1:PP}(p:PH kp d st nm P h)(k:oY ⟨h,nx⟩)(l:∀x∈P1.N,lJ P1.N.length x)(jO:∀r∈P1.roots,r<P1.N.length):PH kp d g (jW nm P.N.length nx) P1 (cH kp d g (jW nm P.N.length nx) P1 h):=by
 have t:kp<nx:=(k _ _ p.b5).1;have s:d<nx:=(k _ _ p.roots).1;have m:∀i,i<P.N.length->nm i<nx:=fun i q=>p.lt k q;have c:∀i,(i<P.N.length/\jW nm P.N.length nx i=nm i)\/(P.N.length<=i/\jW nm P.N.length nx i=nx+(i-P.N.length)):=fun i=>by obtain a |a:=XL i P.N.length;exact .inl ⟨a,B1 i a⟩;exact .inr ⟨a,by rw[jW,iy ag]⟩
 refine M_ (Wv p.oB) (fun i _=>?_) (fun i _=>?_) (fun i j _ _ e=>?_) l jO;obtain⟨a,b⟩|⟨a,b⟩:=c i;rw[b];exact p.kC a;omega;obtain⟨a,b⟩|⟨a,b⟩:=c i;rw[b];exact p.rL a;omega;obtain⟨a,b⟩|⟨a,b⟩:=c i<;>obtain⟨f,o⟩|⟨f,o⟩:=c j;rw[b,o]at e;exact p.inj i j a f e;have:=m i a;omega;have:=m j f;omega;omega
def qr9{P1:PP}(p:PH kp d st nm P h)(c:P1.N.length=P.N.length)(a:∀x∈P1.N,lJ P1.N.length x)(jO:∀r∈P1.roots,r<P1.N.length):PH kp d g nm P1 (cH kp d g nm P1 h):=
 M_ (Wv p.oB) (fun i b=>p.kC ag) (fun i b=>p.rL ag) (fun i j b f e=>p.inj i j ag ag e) a jO
end
end Go.Proofs
namespace Go.Proofs
open Go Go.Rx Go.Vx Tryz
def Wf(N:X PN):Prop:=∀x∈N,lJ N.length x
structure Sm(N N':X PN):Prop where
 len:N'.length=N.length
 st:∀(i:Nat)(x:PN),N[i]? = some x->∃x':PN,N'[i]? = some x'/\x'.kind=x.kind/\x'.D8=x.D8
def Sm.refl(N:X PN):Sm N N:=⟨rfl,fun i x h=>⟨x,h,rfl,rfl⟩⟩
def Sm.trans{N b a:X PN}(h:Sm N b)(h':Sm b a):Sm N a:=⟨h'.len.trans h.len,fun i x k=>by
 obtain⟨y,c,d,e⟩:=h.st i x k;obtain⟨z,f,g,j⟩:=h'.st i y c;exact⟨z,f,g.trans d,j.trans e⟩⟩
def Sm.set{N:X PN}{i:Nat}{x:PN}(y:PN)(b:N[i]? = some x)(c:y.kind=x.kind)(d:y.D8=x.D8):Sm N (N.set i y):=⟨by simp,fun j z a=>by
 rw[mi];by_cases e:i=j;subst e;rw[b]at a;cases a;exact⟨y,by rw[kh rfl,kh (zG.1 b).1],c,d⟩;exact⟨z,by rw[iy e];exact a,rfl,rfl⟩⟩
def Wf.set{N:X PN}(h:Wf N){i:Nat}{y:PN}(b:lJ N.length y):Wf (N.set i y):=fun x a=>by
 rw[lu];obtain a |rfl:=Gv a;exact h x a;exact b
variable{N:X PN}{i:Nat}
def Wf.at(h:Wf N){x:PN}(a:N[i]? = some x):lJ N.length x:=h x (zX a)
variable{b:X PN}
def Sm.lt(h:Sm N b):i<b.length↔i<N.length:=by rw[h.len]
def oT{x:PN}(h:N[i]? = some x):i<N.length:=(zG.1 h).1
def Y_{g:Int}{p:Nat}{c:X dZ}:∀{j:X dZ}{W:X (Nat×Nat)}{N:X PN}{s:X (Nat×Nat)×X PN},QF g p c j W N=some s->(∀a∈j,a.to<N.length)->Sm N s.2/\(Wf N->Wf s.2)
 |[],W,N,s,h,_=>by obtain rfl:=sI h;exact⟨Sm.refl _,id⟩
 |y::j,W,N,s,h,e=>by
  rw[QF]at h;cases l:decide (C3 (fun z=>z.f==y.f) c>=0)with
  |true=>rw[l]at h;obtain⟨z,_,h⟩:=aK h;obtain⟨_,h⟩:=bY h;exact Y_ h fun a h=>e a (by simp[h])
  |false=>
   rw[l]at h;obtain⟨x,m,h⟩:=aK h;obtain⟨_,h⟩:=bY h;have k:Sm N (N.set p { x with more:=gW g x++[y],L8:=g }):=Sm.set _ m rfl rfl;obtain⟨n,o⟩:=Y_ h fun a h=>by rw[k.len];exact e a (by simp[h])
   refine⟨k.trans n,fun w=>o<|w.set ?_⟩;have d:=w.at m;refine⟨d.D8,d.fw,fun a h=>?_,d.cp⟩;obtain h |h:=yD.1 h;exact QL d a h;simp at h;subst h;exact e a ca
def se{H:dK}{g:Int}{n:Nat}:∀{m:Nat}{W:X (Nat×Nat)}{N:X PN}{r:Rl×X PN},MC H g n m W N=some r->Wf N->Sm N r.2/\Wf r.2
 |0,_,_,_,h,_=>by cases h
 |m+1,[],N,r,h,w=>by obtain rfl:=sI h;exact⟨Sm.refl _,w⟩
 |m+1,a::W,N,r,h,w=>by
  obtain⟨p,L,h⟩:=aK h;obtain⟨q,M,h⟩:=aK h;cases l:Nat.beq p q with
  |true=>rw[l]at h;exact se h w|false=>
   rw[l]at h;obtain⟨x,D,h⟩:=aK h;obtain⟨y,E,h⟩:=aK h;obtain⟨c,B,h⟩:=aK h;cases o : !c.2 with
   |true=>rw[o]at h;obtain rfl:=sI h;exact⟨Sm.refl _,w⟩
   |false=>rw[o]at h;obtain⟨_,h⟩:=bY h;obtain⟨s,C,h⟩:=aK h;obtain⟨d,k,h⟩:=aK h;obtain⟨A,j,h⟩:=aK h;obtain⟨t,F⟩:=Y_ C<|PD<|w.at E;have v:=F w;have e:=v.at k;have u:Sm s.2 (s.2.set p { d with mt:=c.1,b9:=g }):=Sm.set _ k rfl rfl;have z:Wf (s.2.set p { d with mt:=c.1,b9:=g }):=v.set ⟨e.D8,e.fw,e.more,e.cp⟩;have f:=z.at j;have J:Sm (s.2.set p { d with mt:=c.1,b9:=g }) ((s.2.set p { d with mt:=c.1,b9:=g }).set q { A with fw:=some p,c3:=g }):=Sm.set _ j rfl rfl;have K:Wf ((s.2.set p { d with mt:=c.1,b9:=g }).set q { A with fw:=some p,c3:=g }):=z.set ⟨f.D8,by show p<_;rw[u.len,t.len];exact oT D,f.more,f.cp⟩;obtain⟨G,I⟩:=se h K;exact⟨t.trans<|u.trans<|J.trans G,I⟩
def z8r{g:Int}{n:Nat}:∀{l:X Nat}{N b:X PN},Dd g n l N=some b->Wf N->Sm N b/\Wf b
 |[],N,b,h,w=>by obtain rfl:=sI h;exact⟨Sm.refl _,w⟩
 |p::l,N,b,h,w=>by obtain⟨x,d,h⟩:=aK h;rcases c:Kq N g n x.D8 with _|_;rw[c]at h;cases h;rw[c]at h;obtain⟨_,h⟩:=bY h;have a:=w.at d;obtain⟨e,f⟩:=z8r h<|w.set ⟨a.D8,a.fw,a.more,a.cp⟩;exact⟨(Sm.set _ d (by rfl)<|by rfl).trans e,f⟩
def sf{g:Int}:∀{l:X Nat}{d:Rl}{N:X PN}{r:Rl×X PN},MD g l d N=some r->Wf N->Sm N r.2/\Wf r.2
 |[],d,N,r,h,w=>by obtain rfl:=sI h;exact⟨Sm.refl _,w⟩
 |p::l,d,N,r,h,w=>by
  obtain⟨x,f,h⟩:=aK h;cases e:BC g x with
  |true=>rw[e]at h;exact sf h w|false=>rw[e]at h;obtain⟨_,h⟩:=bY h;obtain⟨c,m,h⟩:=aK h;obtain _|_:=c;exact sf h w;have a:=w.at f;obtain⟨j,k⟩:=sf h<|w.set ⟨a.D8,a.fw,a.more,a.cp⟩;exact⟨(Sm.set _ f (by rfl)<|by rfl).trans j,k⟩
def z8s{g:Int}{l:X Nat}:∀{m:Nat}{N b:X PN},Dc g l m N=some b->Wf N->Sm N b/\Wf b
 |0,_,_,h,_=>by cases h
 |m+1,N,b,h,w=>by
  obtain⟨r,e,h⟩:=aK h;obtain⟨c,d⟩:=sf e w;cases a:r.1 with
  |true=>rw[a]at h;obtain⟨f,j⟩:=z8s h d;exact⟨c.trans f,j⟩
  |false=>rw[a]at h;obtain rfl:=sI h;exact⟨c,d⟩
def z6k{g:Int}{n:Nat}{l:X Nat}(h:Pm g n l N=some b)(w:Wf N):Sm N b/\Wf b:=by obtain⟨_,h⟩:=bY h;obtain⟨j,a,h⟩:=aK h;obtain⟨c,d⟩:=z8r a w;obtain⟨e,f⟩:=z8s h d;exact⟨c.trans e,f⟩
structure Ex(n:Nat)(N b:X PN):Prop where
 len:N.length<=b.length
 st:∀(i:Nat)(x:PN),i<n->N[i]? = some x->∃x':PN,b[i]? = some x'/\x'.kind=x.kind/\x'.D8=x.D8
def Ex.refl(n:Nat)(N:X PN):Ex n N N:=⟨zF _,fun i x _ h=>⟨x,h,rfl,rfl⟩⟩
def Ex.trans{n:Nat}{N b a:X PN}(h:Ex n N b)(h':Ex n b a):Ex n N a:=⟨eb h.len h'.len,fun i x c l=>by
 obtain⟨y,d,e,f⟩:=h.st i x c l;obtain⟨z,g,j,k⟩:=h'.st i y c d;exact⟨z,g,j.trans e,k.trans f⟩⟩
def Sm.ex(h:Sm N b)(n:Nat):Ex n N b:=⟨by rw[h.len];exact zF _,fun i x _ a=>h.st i x a⟩
def Wf.add(w:Wf N)(k:Int):Wf (N++[gX k []]):=fun x a=>by
 have c:(N++[gX k []]).length=N.length+1:=by simp
 rw[c];obtain a |a:=yD.1 a;exact(w x a).le (Wt _);simp at a;subst a;exact⟨nofun,trivial,nofun,trivial⟩
def b?{g:Int}{n:Nat}:∀{l:X Nat}{N:X PN}{s:Int}{r:X PN×Int},V9 g l N s=some r->Wf N->Ex n N r.1/\Wf r.1
 |[],N,s,r,h,w=>by obtain rfl:=sI h;exact⟨Ex.refl _ _,w⟩
 |p::l,N,s,r,h,w=>by
  obtain⟨x,a,h⟩:=aK h;have k:=oT a;have d:=w.at a;cases j:BC g x with
  |false=>rw[j]at h;obtain⟨e,f⟩:=b? (n:=n) h<|w.set ⟨d.D8,d.fw,d.more,k⟩;exact⟨((Sm.set _ a (by rfl)<|by rfl).ex n).trans e,f⟩
  |true=>
   rw[j]at h;have q:(N++[gX (hX g x) []])[p]? = some x:=by rw[kl k];exact a
   have o:=w.add<|hX g x;have c:=o.at q;obtain⟨e,f⟩:=b? (n:=n) h (o.set ⟨c.D8,c.fw,c.more,by show N.length<_;simp⟩);refine⟨Ex.trans ⟨by simp,fun i z _ m=>⟨z,by rw[kl<|oT m];exact m,rfl,rfl⟩⟩ (((Sm.set _ q (by rfl)<|by rfl).ex n).trans e),f⟩
def a?{g:Int}{n m:Nat}:∀{l:X Nat}{N:X PN}{c:Nat}{b:X PN},QH g n l N c=some b->m<=c->Wf N->Ex m N b/\Wf b/\b.length=N.length
 |[],N,c,b,h,_,w=>by obtain⟨_,h⟩:=bY h;obtain rfl:=sI h;exact⟨Ex.refl _ _,w,rfl⟩
 |p::l,N,c,b,h,j,w=>by
  obtain⟨x,E,h⟩:=aK h;obtain⟨q,D,h⟩:=aK h;cases f:Nat.beq q p with
  |true=>rw[f]at h;exact a? h j w|false=>rw[f]at h;obtain⟨y,s,h⟩:=aK h;obtain⟨⟨rfl,_,_⟩,h⟩:=bY h;obtain⟨d,r,h⟩:=aK h;obtain⟨B,k,h⟩:=aK h;have e:=w.at s;obtain⟨u,v,A⟩:=a? (m:=m) h (XK j) (w.set ⟨fun a o=>qua w r nofun a ((qwn k a).1 o),e.fw,e.more,e.cp⟩);refine⟨Ex.trans ⟨by simp,fun i z C t=>⟨z,?_,rfl,rfl⟩⟩ u,v,by rw[A];simp⟩;rw[mi,iy ag];exact t
def qwm{g:Int}{n:Nat}{s:Int}{r:Nat×X PN×Int}(h:Kn g n N s i=some r)(w:Wf N):Ex N.length N r.2.1/\Wf r.2.1/\r.1<r.2.1.length:=by obtain⟨l,_,h⟩:=aK h;obtain⟨u,k,h⟩:=aK h;obtain⟨y,m,h⟩:=aK h;obtain⟨v,o,h⟩:=aK h;obtain⟨x,p,h⟩:=aK h;obtain⟨q,t,h⟩:=aK h;obtain rfl:=sI h;obtain⟨c,d⟩:=z6k k w;obtain⟨e,f⟩:=b? (n:=N.length) m d;obtain⟨j,a,_⟩:=a? o (zF _) f;refine⟨(c.ex _).trans (e.trans j),a,?_⟩;have:=(a.at p).cp;rw[(Tf t).2]at this;exact this
end Go.Proofs
namespace Go.Proofs
open Go Go.Rx Go.Vx Tryz
def MF(n:Nat)(P:PP)(a b:Int):A (A Nat×PP):=
 cond (decide (a<0)) (some (none,P)) (cond (decide (b<0)) (some (none,P))<|cond (decide (a>=(P.roots.length:Int))) (some (none,P))<|cond (decide (b>=(P.roots.length:Int))) (some (none,P))<|a8 (aC P.roots a) fun c=>a8 (aC P.roots b) fun d=>a8 (MC P.H (i64.wrap<|P.gen+1) n n [(c,d)] P.N) fun r=>cond (!r.1) (some (none,{ P with N:=r.2,gen:=i64.wrap (P.gen+1) }))<|a8 (u9 r.2 (i64.wrap<|P.gen+1) n c) fun q=>some (some q,{ P with N:=r.2,gen:=i64.wrap (P.gen+1) }))
section
variable{kp d st:Nat}{nm:Nat->Nat}{P:PP}{h:X (Nat×B)}{nx:Nat}
theorem PH.gr(p:PH kp d st nm P h):fP h d (.vec (P.roots.map<|dQ nm).flatten 92 1 st):=⟨p.roots⟩
def zbj(p:PH kp d st nm P h)(n:Nat){a b:Nat}{r:Rl×X PN}(O:MC P.H P.gen n n [(a,b)] P.N=some r):
  aT prog 65 [.ptr kp 0 0,pt nm a,pt nm b] ⟨h,nx⟩ (fun u c=>u=.bool r.1/\c=⟨cH kp d st nm { P with N:=r.2 } h,nx⟩):=
 aT.wf fun l _=>(YL p n O).gh fun u c ⟨H,N,e,f,g,i,q,j⟩ _ _=>by subst e;subst f;exact⟨_,_,X? p l g i (fun k m s t o=>j k m o) (by simp[aG,aS]),zF _,rfl,rfl⟩
def z5d(p:PH kp d st nm P h)(n:Nat){i:Nat}(o:i<P.N.length){r:Nat×X PN×Int}(O:Kn P.gen n P.N P.size i=some r):
  aT prog 46 [.ptr kp 0 0,pt nm i] ⟨h,nx⟩ (fun u g=>u=pt (jW nm P.N.length nx) r.1/\g=⟨cH kp d st (jW nm P.N.length nx) { P with N:=r.2.1,size:=r.2.2 } h,nx+(r.2.1.length-P.N.length)⟩):=
 aT.wf fun f _=>(z9v p n o O).gh fun u g ⟨H,M,c,l,m,b,v⟩ _ _=>by
  subst l;subst m;have e:(fun k=>if k<nx then k else c (P.N.length+(k-nx))) (jW nm P.N.length nx r.1)=c r.1:=by
   show(if _ then _ else _)=_;obtain a |a:=XL r.1 P.N.length;rw[B1 _ a,kh<|p.lt f a,b.l7 _ a];have j:jW nm P.N.length nx r.1=nx+(r.1-P.N.length):=by rw[jW,iy ag]
   rw[j,iy ag];congr 1;omega
  refine⟨pt (jW nm P.N.length nx) r.1,_,canon p f (b.ph.ph<|zF _) b.len b.l7 b.new (fun k q s w t=>b.fr k q s t) ?_ ?_,jG _ _,rfl,rfl⟩;exact congrArg (fun z=>[U.ptr z 0 0]) e;simp only[pt,aG,aS,X1];show _<nx+(r.2.1.length-P.N.length);obtain a |a:=XL r.1 P.N.length;rw[B1 _ a];have:=p.lt f a;omega;rw[jW,iy ag];omega
variable{a:Int}{b:Int}
def qwd(p:PH kp d st nm P h)(n:Nat){r:A Nat×PP}(O:MF n P a b=some r):
  aT prog 45 [.ptr kp 0 0,.i6 a,.i6 b] ⟨h,nx⟩ (fun u I=>∃H M,u=.a7 [po nm r.1,.bool r.1.isSome]/\I=⟨H,M⟩/\PH kp d st nm r.2 H/\r.2.N.length=P.N.length/\nx<=M/\∀k,k<nx->k≠kp->(∀i,i<P.N.length->nm i≠k)->gt H k=gt h k):=by
 haveI:=p.gp
 haveI:=p.gr
 refine HV 65 Hw ?_;refine goN ?_;unfold MF at O;cases y:decide (a<0)with
 |true=>rw[y]at O;obtain rfl:=sI O;refine goN ?_;refine eD rfl (fun _=>?_) (fun h=>by cases h);refine goN ?_;exact Kr rfl rfl rfl rfl (zF _) ⟨h,nx,rfl,rfl,p,rfl,zF _,fun _ _ _ _=>rfl⟩
 |false=>
 rw[y]at O;cases z:decide (b<0)with
 |true=>rw[z]at O;obtain rfl:=sI O;refine goN ?_;refine eD rfl (fun _=>?_) (fun h=>by cases h);refine goN ?_;exact Kr rfl rfl rfl rfl (zF _) ⟨h,nx,rfl,rfl,p,rfl,zF _,fun _ _ _ _=>rfl⟩
 |false=>
 rw[z]at O;cases C:decide (a>=(P.roots.length:Int))with
 |true=>rw[C]at O;obtain rfl:=sI O;refine goN ?_;refine eD rfl (fun _=>?_) (fun h=>by cases h);refine goN ?_;exact Kr rfl rfl rfl rfl (zF _) ⟨h,nx,rfl,rfl,p,rfl,zF _,fun _ _ _ _=>rfl⟩
 |false=>
 rw[C]at O;cases o:decide (b>=(P.roots.length:Int))with
 |true=>rw[o]at O;obtain rfl:=sI O;refine goN ?_;refine eD rfl (fun _=>?_) (fun h=>absurd (o.symm.trans h) nofun);refine goN ?_;exact Kr rfl rfl rfl rfl (zF _) ⟨h,nx,rfl,rfl,p,rfl,zF _,fun _ _ _ _=>rfl⟩
 |false=>
 rw[o]at O;obtain⟨S,m,T,x,l,j,O⟩:=pH O;refine goN ?_;refine eD rfl (fun h=>absurd (o.symm.trans h) nofun) (fun _=>?_);refine goN ?_;have c:PH kp d st nm { P with gen:=i64.wrap (P.gen+1) } (ug h kp<|.row (sY d st { P with gen:=i64.wrap (P.gen+1) }) 83):=p.oG P.size _ (by rw[bT,kh rfl,p.b5];rfl) fun k b J t=>by rw[bT,iy<|Wv t];exact J
 haveI:=c.gp
 haveI:=c.gr
 have G:∀k,k≠kp->gt (ug h kp<|.row (sY d st { P with gen:=i64.wrap (P.gen+1) }) 83) k=gt h k:=fun k t=>by rw[bT,iy<|Wv t]
 change I6 _ _ _ _ (Sg.mk (ug h kp<|.row (sY d st { P with gen:=i64.wrap (P.gen+1) }) 83) nx) _;have D:oR (Sg.mk (ug h kp<|.row (sY d st { P with gen:=i64.wrap (P.gen+1) }) 83) nx) d st=some ((P.roots.map<|dQ nm).flatten,92,1):=by simp[oR,c.roots,B.bv]
 refine dE [] ?_;refine cX ?_;refine aQ rfl (eM rfl rfl (jS (dQ nm) iA.h (bG jC.h) cg (fun _=>rfl) D m)) ?_;refine aQ rfl (CF (dQ nm) (pt nm) i9.h rfl (fun _=>rfl) rfl c.roots m) ?_;refine cX ?_;refine aQ rfl (eM rfl rfl (jS (dQ nm) iA.h (bG jC.h) cg (fun _=>rfl) D x)) ?_;refine aQ rfl (CF (dQ nm) (pt nm) i9.h rfl (fun _=>rfl) rfl c.roots x) (D7 rfl (iE rfl jd rfl).2 (zbj c n j) rfl rfl ?_);have g:=se j c.wf;have f:PH kp d st nm { P with N:=l.2,gen:=i64.wrap (P.gen+1) } (cH kp d st nm { P with N:=l.2,gen:=i64.wrap (P.gen+1) } (ug h kp<|.row (sY d st { P with gen:=i64.wrap (P.gen+1) }) 83)):=qr9 c g.1.len g.2 (fun r Q=>by show r<l.2.length;rw[g.1.len];exact p.rt r Q);have F:∀k,k<nx->k≠kp->(∀i,i<P.N.length->nm i≠k)->gt (cH kp d st nm { P with N:=l.2,gen:=i64.wrap (P.gen+1) } (ug h kp<|.row (sY d st { P with gen:=i64.wrap (P.gen+1) }) 83)) k=gt h k:=fun k _ E R=>by by_cases e:k=d;subst e;rw[f.roots,p.roots];rw[lh E e fun i K=>R i (by have:=g.1.len;show i<P.N.length;exact this ▸ K),G k E]
 refine cX ?_;refine bC ⟨by kernel_rfl,trivial,?_⟩;refine goN ?_;refine eD rfl (fun s=>?_) (fun s=>?_);rw[s]at O;obtain rfl:=sI O;refine goN ?_;exact Kr rfl rfl rfl rfl (zF _) ⟨_,nx,rfl,rfl,f,g.1.len,zF _,F⟩;rw[s]at O;obtain⟨q,L,O⟩:=aK O;obtain rfl:=sI O;have v:oR (Sg.mk (cH kp d st nm { P with N:=l.2,gen:=i64.wrap (P.gen+1) } (ug h kp<|.row (sY d st { P with gen:=i64.wrap (P.gen+1) }) 83)) nx) d st=some ((P.roots.map<|dQ nm).flatten,92,1):=by simp[oR,f.roots,B.bv]
 haveI:=f.gp
 haveI:=f.gr
 refine goN ?_;refine RS.w rfl (eM rfl rfl (jS (dQ nm) iA.h (bG jC.h) cg (fun _=>rfl) v m)) ?_;refine RS.w rfl (CF (dQ nm) (pt nm) i9.h rfl (fun _=>rfl) rfl f.roots m) (aM rfl (U9 f n L) zR ?_);refine goN ?_;exact Kr rfl rfl rfl rfl (zF _) ⟨_,nx,rfl,rfl,f,g.1.len,zF _,F⟩
def Af(n:Nat)(P:PP)(a b:Int):A (Rl×PP):=a8 (MF n P a b) fun r=>some (r.1.isSome,r.2)
def sg{n:Nat}{P:PP}{r:A Nat×PP}(h:MF n P a b=some r)(w:Wf P.N):Sm P.N r.2.N/\Wf r.2.N/\r.2.H=P.H/\r.2.roots=P.roots/\r.2.size=P.size/\∀q,r.1=some q->q<r.2.N.length:=by
 unfold MF at h;have key:∀{c:Rl}{z:A (A Nat×PP)},cond c (some (none,P)) z=some r->(r=(none,P))\/z=some r:=fun{c z} h=>by obtain _|_:=c;exact .inr h;exact .inl (sI h).symm
 have f:r=(none,P)->Sm P.N r.2.N/\Wf r.2.N/\r.2.H=P.H/\r.2.roots=P.roots/\r.2.size=P.size/\∀q,r.1=some q->q<r.2.N.length:=fun e=>by subst e;exact⟨Sm.refl _,w,rfl,rfl,rfl,nofun⟩
 obtain e |h:=key h;exact f e;obtain e |h:=key h;exact f e;obtain e |h:=key h;exact f e;obtain e |h:=key h;exact f e;obtain⟨p,_,h⟩:=aK h;obtain⟨s,_,h⟩:=aK h;obtain⟨m,k,h⟩:=aK h;obtain⟨i,j⟩:=se k w;cases g : !m.1 with
 |true=>rw[g]at h;obtain rfl:=sI h;exact⟨i,j,rfl,rfl,rfl,nofun⟩
 |false=>rw[g]at h;obtain⟨q,l,h⟩:=aK h;obtain rfl:=sI h;refine⟨i,j,rfl,rfl,rfl,fun o e=>?_⟩;cases e;exact pe l
def zbf(p:PH kp d st nm P h)(n:Nat){r:Rl×PP}(O:Af n P a b=some r):
  aT prog 22 [.ptr kp 0 0,.i6 a,.i6 b] ⟨h,nx⟩ (fun u c=>u=.bool r.1/\c=⟨cH kp d st nm r.2 h,nx⟩):=by
 refine aT.wf fun v _=>?_;obtain⟨l,q,s⟩:=aK O;obtain rfl:=sI s;have t:aT prog 22 [.ptr kp 0 0,.i6 a,.i6 b] ⟨h,nx⟩ (fun u c=>∃H M,u=.bool l.1.isSome/\c=⟨H,M⟩/\PH kp d st nm l.2 H/\l.2.N.length=P.N.length/\nx<=M/\∀k,k<nx->k≠kp->(∀i,i<P.N.length->nm i≠k)->gt H k=gt h k):=by refine HV 17 Hy ?_;refine goN ?_;refine lT rfl (iE rfl Hw rfl).2 (qwd p n q) rfl rfl ?_;rintro _ _ ⟨H,M,rfl,rfl,e,f,g,j⟩;refine goN ?_;exact DJ rfl rfl rfl g ⟨H,M,rfl,rfl,e,f,g,j⟩
 exact t.gh fun u c ⟨H,M,m,o,e,f,g,j⟩ _ _=>by subst m;subst o;exact⟨_,_,X? p v e f (fun k w x z y=>j k w x y) (by simp[aG,aS]),zF _,rfl,rfl⟩
def zb6(p:PH kp d st nm P h):aT prog 16 [.ptr kp 0 0] ⟨h,nx⟩ (fun u c=>u=.i6 P.size/\c=⟨h,nx⟩):=by
 haveI:=p.gp
 refine m6 7 SC ?_;refine goN ?_;exact DJ rfl rfl rfl (zF _) ⟨rfl,rfl⟩
def DK(n:Nat)(P:PP)(a b:Int):A ((Int×Rl)×PP):=
 a8 (MF n P a b) fun r=>match r.1 with
  |none=>some ((0,false),r.2)|some root=>a8 (Kn r.2.gen n r.2.N r.2.size root) fun c=>aE (r.2.roots.length<=1000000) (some ((r.2.roots.length,true),{ r.2 with N:=c.2.1,size:=c.2.2,roots:=r.2.roots++[c.1] }))
def z7g(p:PH kp d st nm P h)(n:Nat){r:(Int×Rl)×PP}(O:DK n P a b=some r):
  aT prog 21 [.ptr kp 0 0,.i6 a,.i6 b] ⟨h,nx⟩ (fun u Y'=>∃bA,u=.a7 [.i6 r.1.1,.bool r.1.2]/\Y'=⟨cH kp d bA (jW nm P.N.length nx) r.2 h,nx+(r.2.N.length-P.N.length)⟩):=by
 refine aT.wf fun W _=>?_;obtain⟨g,R,s⟩:=aK O;obtain⟨J,s2,s3,s4,s5,s6⟩:=sg R p.wf;refine HV 37 LC ?_;refine goN ?_;refine lT rfl (iE rfl Hw rfl).2 (qwd p n R) rfl rfl ?_;rintro _ _ ⟨H,M,rfl,rfl,o,z,h5,S⟩;cases l:g.1 with
 |none=>rw[l]at s;obtain rfl:=sI s;refine goN ?_;refine eD rfl (fun _=>?_) (fun h=>by cases h);refine goN ?_;refine VA (Y2:=⟨cH kp d st nm g.2 h,nx⟩) rfl rfl rfl rfl (zF _) (X? p W o z (fun k y v F G=>S k y v G)<|by simp[aG,aS]) ⟨st,rfl,?_⟩;show Sg.mk _ _=Sg.mk _ _;rw[qvd (nm:=nm) (fun k E=>B1 k (by rw[<-J.len];exact E)) s2 (fun r l=>by rw[s4]at l;rw[J.len];exact p.rt r l),J.len,mr,ek]
 |some root=>
  rw[l]at s;obtain⟨c,V,s⟩:=aK s;obtain⟨HH,s⟩:=bY s;obtain rfl:=sI s;refine goN ?_;refine eD rfl (fun h=>by cases h) (fun _=>?_);refine I6.wf fun A _=>?_
  haveI:=o.gp
  haveI:=o.gr
  refine goN ?_;refine dE [(0,7),(0,8),(0,9),(1,7),(1,8),(2,7),(2,8),(3,7),(3,8),(4,7),(4,8)] ?_;refine cX ?_;refine D7 rfl (iE rfl jm rfl).2 (z5d o n (s6 root l) V) rfl rfl ?_;obtain⟨Q,e2,e3⟩:=qwm V s2
  let f:=jW nm g.2.N.length M
  let j:=M+(c.2.1.length-g.2.N.length)
  let P2:PP:={ g.2 with N:=c.2.1,size:=c.2.2 }
  have m:PH kp d st f P2 (cH kp d st f P2 H):=z56 o A e2 fun r l=>Xj (o.rt r l) Q.len;have uF:kp<j:=Xj (show kp<M from(A _ _ o.b5).1)<|jG _ _;have E9:d<j:=Xj (show d<M from(A _ _ o.roots).1) (jG _ _)
  haveI:=m.gp
  haveI:=m.gr
  haveI:Nq j kp:=⟨by rw[beq_eq];simp;omega⟩
  haveI:Nq j d:=⟨by rw[beq_eq];simp;omega⟩
  haveI:ck j (j+1):=⟨rfl⟩
  change RH _ _ _ _ _ (Sg.mk (cH kp d st f P2 H) j) _ _;refine dS ?_;have wC:gt ((j,.row [pt f c.1] 92)::cH kp d st f P2 H) d=some (.vec (g.2.roots.map<|dQ f).flatten 92 1 st):=by rw[aV,iy ag];exact m.roots
  have eN:rowOf (Sg.mk ((j,.row [pt f c.1] 92)::cH kp d st f P2 H)<|j+1) j=some [pt f c.1]:=by simp[rowOf,aV]
  refine RD.act rfl (rG rfl rfl rfl rfl (CE (dQ f) [c.1] iA.h iA.h jC.h rfl (fun _=>rfl) wC (DM (dQ f) [c.1] (q:=[pt f c.1]) eN rfl rfl rfl) ⟨by simp;omega,by simp;omega⟩)) rfl rfl ?_;have Z:fP (ug ((j,.row [pt f c.1] 92)::cH kp d st f P2 H) d<|.vec (List.map (dQ f)<|g.2.roots++[c.1]).flatten 92 1 (st+1)) kp (.row [.iM jV P2.H.Types,.iM mQ P2.H.E3,.vl d st 0 P2.roots.length,.i6 P2.size,.i6 P2.gen] 83):=⟨by rw[bT,iy m.oB,aV,iy ag];exact m.b5⟩
  haveI:=Z
  refine cX ?_;refine tC ?_;refine bC ⟨by kernel_rfl,⟨P0,P0,P0,P0,P0,P0,P0,P0,P0,P0,P0,trivial⟩,?_⟩
  let K:B:=.vec (List.map (dQ f)<|g.2.roots++[c.1]).flatten 92 1 (st+1)
  let C:PP:={ g.2 with N:=c.2.1,size:=c.2.2,roots:=g.2.roots++[c.1] }
  let T:X (Nat×B):=(j,.row [pt f c.1] 92)::cH kp d st f P2 H
  let w:X (Nat×B):=ug (ug T d K) kp (.row (sY d (st+1) C) 83)
  have U:∀k,k≠kp->k≠d->k<j->gt w k=gt (cH kp d st f P2 H) k:=fun k y v F=>by simp only[w,T];rw[bT,iy<|Wv y,bT,iy<|Wv v,aV,iy ag]
  have I:PH kp d (st+1) f C w:=by
   refine⟨?_,?_,fun i x Y=>?_,m.inj,m.wf,fun r l=>?_⟩;simp only[w];rw[bT,kh rfl,Z.h];rfl;simp only[w];rw[bT,iy<|Wv m.oB,bT,kh rfl];simp only[T];rw[wC];rfl;have D:=oT Y;have h7:f i<j:=by obtain t |t:=XL i g.2.N.length;simp only[f];rw[B1 i t];have:=o.lt A t;omega;simp only[f];rw[jW,iy ag];have:i<c.2.1.length:=D;omega
   rw[U _ (m.kC D) (m.rL D) h7];exact m.node i x Y;obtain l |l:=yD.1 l;exact m.rt r l;simp at l;subst l;exact e3
  change I6 _ _ _ _ (Sg.mk w<|j+1) _
  haveI:=I.gp
  haveI:=I.gr
  refine goN ?_;have mG:i64.wrap (((g.2.roots++[c.1]).length:Int)-1)=g.2.roots.length:=by rw[zU,wrap_i64 ca (by simp;omega)];simp
  have hM:nx<=M:=h5;have L:∀k,g.2.N.length<=k->f k=M+(k-g.2.N.length):=fun k E=>by simp only[f];rw[jW,iy ag]
  have sO:P.N.length<=C.N.length:=by rw[<-z];exact Q.len
  refine VA rfl rfl rfl rfl (jG _ _) (canon (P1:=C) (nm1:=f) (tm':=[.a7 [.i6 g.2.roots.length,.bool true]]) p W I sO (fun k E=>?_) (fun k a b=>?_) (fun k y v F G=>?_) ?_<|by simp[aG,aS]) ⟨st+1,rfl,rfl⟩;exact B1 k (by rw[z];exact E);rw[L k (by rw[z];exact a)];show nx<=_;omega;have k1':k<nx:=y;rw[U k v F (by show k<M+_;omega),lh v F fun i D e=>?_];exact S k y v G;obtain t |t:=XL i g.2.N.length;simp only[f]at e;rw[B1 i t]at e;exact G i (by rw[<-z];exact t) e;rw[L i t]at e;omega;simp only[eR,rU];rw[<-mG]
end
def V8(q:Nat):X Nat->Nat->A Nat
 |[],_=>none|k::out,s=>cond (Nat.beq k q) (some s) (V8 q out<|s+1)
def MZ(F:X aU)(k:Nat)(l:X aL):X aU:=match F[k]? with
 |some x=>F.set k ⟨x.R,l⟩|none=>F
def Ae(g:Nat->X Nat×X aU->A (Nat×X Nat×X aU)):X dZ->X Nat×X aU->X aL->A (X aL×X Nat×X aU)
 |[],s,b=>some (b,s)|a::l,s,b=>aE (b.length<=1000000) (a8 (g a.to s) fun r=>Ae g l r.2<|b++[⟨a.f,r.1⟩])
def DF(N:X PN):Nat->Nat->X Nat×X aU->A (Nat×X Nat×X aU)
 |0,_,_=>none|m+1,p,s=>match V8 p s.1 0 with
  |some k=>some (k,s)|none=>a8 N[p]? fun x=>aE (s.2.length<=1000000/\x.D8.length<=1000000) (a8 (Ae (DF N m) x.D8 (s.1++[p],s.2++[⟨x.kind,[]⟩]) []) fun r=>some (s.2.length,r.2.1,MZ r.2.2 s.2.length r.1))
def HS(nm:Nat->Nat)(s:Nat)(out:X Nat):X (Nat×U×Nat):=(out.zipIdx s).map fun p=>(nm p.1,.i6 (p.2:Nat),p.2)
def za0(nm:Nat->Nat)(s:Nat)(out:X Nat)(q:Nat):HS nm s (out++[q])=HS nm s out++[(nm q,.i6 ((s+out.length:Nat):Int),s+out.length)]:=by simp[HS,zipIdx_append]
def si{nm:Nat->Nat}{n:Nat}(a:∀i j,i<n->j<n->nm i=nm j->i=j){q:Nat}(b:q<n):∀(out:X Nat)(s:Nat),(∀k∈out,k<n)->xF (nm q) (HS nm s out)=(V8 q out s).map fun k=>.i6 (k:Nat)
 |[],s,_=>rfl|k::out,s,h=>by have c:=si a b out (s+1) fun k f=>h k (by simp[f]);simp only[HS,QI,zQ,xF,V8]at c ⊢;rw[c];by_cases e:k=q;subst e;simp[beq_eq];have:nm k≠nm q:=fun d=>e<|a k q (h k ca) b d;simp[beq_eq,this,e]
def OR{nm:Nat->Nat}{h:X (Nat×B)}{n:Nat}(d:∀i,i<n->c_ h (nm i)):∀(out:X Nat)(s:Nat),(∀k∈out,k<n)->∀e∈HS nm s out,c_ h e.1:=fun out s b e a=>by
 simp only[HS,gf]at a;obtain⟨p,c,rfl⟩:=a;exact d _ (b _<|JK c)
structure VI(nm:Nat->Nat)(N:X PN)(K6 Km K7 Kv K8:Nat)(s:X Nat×X aU)(h:X (Nat×B)):Prop where
 k6:gt h K6=some (.row [.map Km] 108)
 km:gt h Km=some (.map ((HS nm 0 s.1).map pE) s.1.length)
 k7:gt h K7=some (.row [.vl Kv s.2.length 0 s.2.length] 39)
 kv:gt h Kv=some (.bv bL s.2 79 2 s.2.length)
 k8:gt h K8=some (.row [.fn (.func 43) [] [.ptr K6 0 0,.ptr K7 0 0,.ptr K8 0 0]] 109)
 nd:∀(i:Nat)(x:PN),N[i]? = some x->gt h (nm i)=some (.row (oV nm x) 103)
 inj:∀i j,i<N.length->j<N.length->nm i=nm j->i=j
 lt:∀p∈s.1,p<N.length
 eq:s.1.length=s.2.length
def vH(nm:Nat->Nat)(c b a:Nat)(s:X Nat×X aU)(h:X (Nat×B)):X (Nat×B):=
 (c,.map ((HS nm 0 s.1).map pE) s.1.length)::(b,.row [.vl a s.2.length 0 s.2.length] 39)::(a,.bv bL s.2 79 2 s.2.length)::h
section
variable{nm:Nat->Nat}{N:X PN}{d o t z C:Nat}{s s':X Nat×X aU}{h:X (Nat×B)}{nx:Nat}
def VI.ne(v:VI nm N d o t z C s h):o≠t/\o≠z/\t≠z/\d≠o/\d≠t/\d≠z/\C≠o/\C≠t/\C≠z/\∀i,i<N.length->nm i≠o/\nm i≠t/\nm i≠z:=by refine⟨fun e=>?_,fun e=>?_,fun e=>?_,fun e=>?_,fun e=>?_,fun e=>?_,fun e=>?_,fun e=>?_,fun e=>?_,fun i b=>?_⟩;have:=v.km;rw[e,v.k7]at this;cases this;have:=v.km;rw[e,v.kv]at this;cases this;have:=v.k7;rw[e,v.kv]at this;cases this;have:=v.k6;rw[e,v.km]at this;cases this;have:=v.k6;rw[e,v.k7]at this;simp at this;have:=v.k6;rw[e,v.kv]at this;cases this;have:=v.k8;rw[e,v.km]at this;cases this;have:=v.k8;rw[e,v.k7]at this;simp at this;have:=v.k8;rw[e,v.kv]at this;cases this;have a:=v.nd i _<|hF b;refine⟨fun e=>?_,fun e=>?_,fun e=>?_⟩;rw[e,v.km]at a;cases a;rw[e,v.k7]at a;simp at a;rw[e,v.kv]at a;cases a
def Kg{k:Nat}(a:k≠o)(b:k≠t)(c:k≠z):gt (vH nm o t z s h) k=gt h k:=by rw[vH,aV,iy<|Wv a,aV,iy<|Wv b,aV,iy<|Wv c]
variable{H:X (Nat×B)}
def VI.to(v:VI nm N d o t z C s h)(e:∀k,k≠o->k≠t->k≠z->∀b,gt h k=some b->gt H k=some b)(f:gt H o=some (.map ((HS nm 0 s'.1).map pE) s'.1.length))(g:gt H t=some (.row [.vl z s'.2.length 0 s'.2.length] 39))(j:gt H z=some (.bv bL s'.2 79 2 s'.2.length))(lt:∀p∈s'.1,p<N.length)(eq:s'.1.length=s'.2.length):VI nm N d o t z C s' H:=by obtain⟨n1,w,y,l,m,n,q,r,u,c⟩:=v.ne;exact⟨e _ l m n _ v.k6,f,g,j,e _ q r u _ v.k8,fun i x a=>e _ (c i<|oT a).1 (c i<|oT a).2.1 (c i<|oT a).2.2 _ (v.nd i x a),v.inj,lt,eq⟩
def VI.vh(v:VI nm N d o t z C s h)(lt:∀p∈s'.1,p<N.length)(eq:s'.1.length=s'.2.length):VI nm N d o t z C s' (vH nm o t z s' h):=by obtain⟨g,i,j,m,n,q,r,u,w,l⟩:=v.ne;refine v.to (fun k c e f b a=>by rw[Kg c e f];exact a) ?_ ?_ ?_ lt eq;rw[vH,aV,kh rfl];rw[vH,aV,iy g,aV,kh rfl];rw[vH,aV,iy i,aV,iy j,aV,kh rfl]
def VI.row(v:VI nm N d o t z C s h):∀i,i<N.length->c_ h (nm i):=fun i a=>⟨_,_,v.nd i _<|hF a⟩
def T3(v:VI nm N d o t z C s h)(c:oY ⟨h,nx⟩){M:Nat}{m:X U}(P:nx<=M)(r:VI nm N d o t z C s' H)(L:∀k,k<nx->k≠o->k≠t->k≠z->gt H k=gt h k)(F:aG nx m):Gh nx m ⟨H,M⟩ m ⟨vH nm o t z s' h,nx⟩:=by
 have w:o<nx:=(c _ _ v.km).1;have u:t<nx:=(c _ _ v.k7).1;have y:z<nx:=(c _ _ v.kv).1;have D:∀i,i<N.length->nm i<nx:=fun i I=>(c _ _<|v.nd i _<|hF I).1;refine Gh.CT id (fun _ _=>rfl) (zF _) (fun k b a=>?_) (fun k Q b O _ _ e=>e) (OH m) F;have key:k<nx/\cV nx b/\gt H k=some b:=by rw[vH,aV]at a;by_cases g:o=k;rw[kh g]at a;cases a;subst g;refine⟨w,fun e G=>?_,r.km⟩;obtain⟨q,K,rfl⟩:=mem_map.1 G;obtain⟨p,J,rfl⟩:=mem_map.1 K;exact⟨D _<|r.lt _<|JK J,trivial⟩;rw[iy g,aV]at a;by_cases j:t=k;rw[kh j]at a;cases a;subst j;exact⟨u,⟨y,trivial⟩,r.k7⟩;rw[iy j,aV]at a;by_cases l:z=k;rw[kh l]at a;cases a;subst l;exact⟨y,DQ nx (fun x=>y7 nx x) _,r.kv⟩;rw[iy l]at a;obtain⟨A,E⟩:=c k b a;exact⟨A,E,by rw[L k A (Wv g) (Wv j)<|Wv l];exact a⟩
 refine⟨key.1,key.2.1,?_⟩;rw[z8z (f:=id) (n:=nx) (fun _ _=>rfl) b key.2.1];exact key.2.2
def v?(v:VI nm N d o t z C s h)(f:oY ⟨h,nx⟩)(c:VI nm N d o t z C s' H)(w:∀k,k<nx->k≠o->k≠t->k≠z->gt H k=gt h k):∀k b,k<nx->gt H k=some b->cV nx b:=fun k b n a=>by
 have l:z<nx:=(f _ _ v.kv).1;by_cases g:k=o;rw[g,c.km]at a;cases a;intro e m;obtain⟨q,u,rfl⟩:=mem_map.1 m;obtain⟨p,r,rfl⟩:=mem_map.1 u;exact⟨(f _ _<|v.nd _ _<|hF<|c.lt _<|JK r).1,trivial⟩;by_cases i:k=t;rw[i,c.k7]at a;cases a;exact⟨l,trivial⟩;by_cases j:k=z;rw[j,c.kv]at a;cases a;exact DQ nx (fun x=>y7 nx x) _;rw[w k n g i j]at a;exact(f k b a).2
def vfz(v:VI nm N d o t z C s h)(g:oY ⟨h,nx⟩)(i:VI nm N d o t z C s' H)(f:∀k,k<nx->k≠o->k≠t->k≠z->gt H k=gt h k){Ka sz:Nat}{b:B}(a:nx<=Ka):∀k,k<nx->gt (dA Ka b sz H) k=gt H k:=fun k c=>by
 rw[J7,iy ag];rcases e:gt H k with _|b';rfl;simp only[zM];rw[Lx _ _<|Ma a<|v? v g i f k b' c e]
def VI.low(v:VI nm N d o t z C s h)(g:oY ⟨h,nx⟩){e:X (Nat×B)}(a:VI nm N d o t z C s' H)(c:∀k,k<nx->gt e k=gt H k):VI nm N d o t z C s' e:=by have lt:∀{k b},gt h k=some b->k<nx:=fun{k b} hk=>(g k b hk).1;exact⟨by rw[c _<|lt v.k6];exact a.k6,by rw[c _<|lt v.km];exact a.km,by rw[c _<|lt v.k7];exact a.k7,by rw[c _<|lt v.kv];exact a.kv,by rw[c _<|lt v.k8];exact a.k8,fun i x f=>by rw[c _<|lt<|v.nd i x f];exact a.nd i x f,a.inj,a.lt,a.eq⟩
def gl(F:X aU)(k:Nat)(l:X aL):(MZ F k l).length=F.length:=by unfold MZ;split<;>simp
def StN(N:X PN)(s s':X Nat×X aU):Prop:=(∀q∈s'.1,q<N.length)/\s'.1.length=s'.2.length/\s.2.length<=s'.2.length
def qwp{N:X PN}{g:Nat->X Nat×X aU->A (Nat×X Nat×X aU)}(j:∀p s r,g p s=some r->p<N.length->(∀q∈s.1,q<N.length)->s.1.length=s.2.length->StN N s r.2):∀(l:X dZ)(s:X Nat×X aU)(c:X aL)(r:X aL×X Nat×X aU),Ae g l s c=some r->(∀a∈l,a.to<N.length)->(∀q∈s.1,q<N.length)->s.1.length=s.2.length->StN N s r.2
 |[],s,c,r,h,_,e,f=>by obtain rfl:=sI h;exact⟨e,f,zF _⟩
 |a::l,s,c,r,h,k,e,f=>by obtain⟨_,h⟩:=bY h;obtain⟨D,i,h⟩:=aK h;obtain⟨n,u,v⟩:=j _ _ _ i (k a ca) e f;obtain⟨w,x,y⟩:=qwp j l _ _ _ h (fun b m=>k b<|by simp[m]) n u;exact⟨w,x,eb v y⟩
def M!{N:X PN}(wf:∀x∈N,lJ N.length x):∀(m p:Nat)(s:X Nat×X aU)(r:Nat×X Nat×X aU),DF N m p s=some r->p<N.length->(∀q∈s.1,q<N.length)->s.1.length=s.2.length->StN N s r.2
 |0,_,_,_,h,_,_,_=>by cases h
 |m+1,p,s,r,h,g,b,c=>by
  cases e:V8 p s.1 0 with
  |some k=>rw[DF,e]at h;obtain rfl:=sI h;exact⟨b,c,zF _⟩
  |none=>rw[DF,e]at h;obtain⟨x,i,h⟩:=aK h;obtain⟨_,h⟩:=bY h;obtain⟨u,f,h⟩:=aK h;obtain rfl:=sI h;obtain⟨j,l,n⟩:=qwp (M! wf m) _ _ _ _ f (wf x<|zX i).D8 (fun q a=>by obtain a |a:=yD.1 a;exact b q a;simp at a;subst a;exact g) (by simp[c]);refine⟨j,by simp only[gl];exact l,?_⟩;simp only[gl];simp at n;omega
def qxj:∀(m:Nat){s:X Nat×X aU}{h:X (Nat×B)}{nx p:Nat}{r:Nat×X Nat×X aU},VI nm N d o t z C s h->(∀x∈N,lJ N.length x)->p<N.length->DF N m p s=some r->
  aT prog 43 [pt nm p,.ptr d 0 0,.ptr t 0 0,.ptr C 0 0] ⟨h,nx⟩ (fun u Y'=>u=.i6 (r.1:Nat)/\Y'=⟨vH nm o t z r.2 h,nx⟩)
 |0,_,_,_,_,_,_,_,_,O=>by cases O
 |m+1,s,h,nx,p,r,v,wf,K,O=>by
  haveI:fP h d (.row [.map o] 108):=⟨v.k6⟩
  cases Z:V8 p s.1 0 with
  |some k=>rw[DF,Z]at O;obtain rfl:=sI O;refine aT.wf fun n _=>?_;refine vi 63 S8 ?_;refine goN ?_;refine EP rfl (fI.nO cf (zu:=.i6 0) rfl IG.h i9.h (bG nF.h) nE.h rfl (dF rfl) (dF rfl) v.km (v.row p K) (OR v.row s.1 0 v.lt)) ?_;rintro _ _ ⟨rfl,rfl⟩;rw[si v.inj K s.1 0 v.lt,Z];refine goN ?_;refine eD rfl (fun V=>?_) (fun V=>by cases V);refine goN ?_;exact Pn (w:=.i6 (k:Nat)) (Y2:=⟨vH nm o t z s h,nx⟩) rfl rfl rfl (zF _) (T3 v n (zF _) v (fun _ _ _ _ _=>rfl)<|by simp[aG,aS]) ⟨rfl,rfl⟩
  |none=>
   rw[DF,Z]at O;obtain⟨x,hx,O⟩:=aK O;obtain⟨⟨tQ,QV⟩,O⟩:=bY O;obtain⟨e,hA,O⟩:=aK O;obtain rfl:=sI O;have fQ:=wf x<|zX hx;have:aT prog 43 [pt nm p,.ptr d 0 0,.ptr t 0 0,.ptr C 0 0] ⟨h,nx⟩ (fun u Y'=>u=.i6 (s.2.length:Nat)/\Y'=⟨vH nm o t z (e.2.1,MZ e.2.2 s.2.length e.1) h,nx⟩):=by
    refine aT.wf fun n _=>?_;obtain⟨n1,n2,n3,n4,n5,n6,n7,n8,n9,On⟩:=v.ne;have hkm:o<nx:=(n _ _ v.km).1;have hk7:t<nx:=(n _ _ v.k7).1;have O6:z<nx:=(n _ _ v.kv).1;have hk8:C<nx:=(n _ _ v.k8).1;have hnp:nm p<nx:=(n _ _<|v.nd p x hx).1
    haveI:fP h t (.row [.vl z s.2.length 0 s.2.length] 39):=⟨v.k7⟩
    haveI:fP h z (.vec (s.2.map bL).flatten 79 2 s.2.length):=⟨v.kv⟩
    refine vi 63 S8 ?_;refine goN ?_;refine EP rfl (fI.nO cf (zu:=.i6 0) rfl IG.h i9.h (bG nF.h) nE.h rfl (dF rfl) (dF rfl) v.km (v.row p K) (OR v.row s.1 0 v.lt)) ?_;rintro _ _ ⟨rfl,rfl⟩;rw[si v.inj K s.1 0 v.lt,Z];refine goN ?_;refine eD rfl (fun V=>by cases V) (fun V=>?_);refine goN ?_;refine RS.nS rfl (fI.pins cf (v:=.i6 (s.2.length:Nat)) (.inl rfl) IG.h i9.h (bG nF.h) (dF rfl) (dF rfl) (dF rfl) v.km (v.row p K) (OR v.row s.1 0 v.lt) (by rw[si v.inj K s.1 0 v.lt,Z];rfl)) ?_;rintro _ _ ⟨rfl,rfl⟩
    let I:B:=.map ((HS nm 0 s.1++[(nm p,U.i6 (s.2.length:Nat),s.1.length)]).map pE) (s.1.length+1)
    change RU _ _ _ _ _ (Sg.mk (ug h o I) nx) _
    haveI:ck nx (nx+1):=⟨rfl⟩
    haveI:fP (ug h o I) t (.row [.vl z s.2.length 0 s.2.length] 39):=⟨by rw[bT,iy n1];exact v.k7⟩
    haveI:fP (ug h o I) (nm p) (.row [.i6 x.kind,.iM (bW nm) x.D8,po nm x.fw,.i6 x.c3,.i6 x.mt,.i6 x.b9,.iM (bW nm) x.more,.i6 x.L8,po nm x.cp,.i6 x.c8,.bool x.ch,.i6 x.c4] 103):=⟨by rw[bT,iy<|Wv (On p K).1];exact v.nd p x hx⟩
    haveI:Nq nx t:=⟨by rw[beq_eq];simp;omega⟩
    refine goN ?_;refine dE [(0,7),(1,7)] ?_;refine cX ?_;refine dS ?_;have wC:gt ((nx,.row [.i6 x.kind,.J] 79)::ug h o I) z=some (.vec (s.2.map bL).flatten 79 2 s.2.length):=by rw[aV,iy ag,bT,iy n2];exact v.kv
    have eN:rowOf (Sg.mk ((nx,.row [.i6 x.kind,.J] 79)::ug h o I)<|nx+1) nx=some [.i6 x.kind,.J]:=by simp[rowOf,aV]
    refine RD.act rfl (rG rfl rfl rfl rfl (CE bL [⟨x.kind,[]⟩] rN.h rN.h sD.h rfl (fun _=>rfl) wC (DM bL [⟨x.kind,[]⟩] (q:=[.i6 x.kind,.J]) eN rfl rfl rfl) ⟨by simp;omega,by simp;omega⟩)) rfl rfl ?_
    haveI:fP (ug ((nx,.row [.i6 x.kind,.J] 79)::ug h o I) z<|.vec (List.map bL<|s.2++[⟨x.kind,[]⟩]).flatten 79 2 (s.2.length+1)) t (.row [.vl z s.2.length 0 s.2.length] 39):=⟨by rw[bT,iy<|Wv n3,aV,iy ag,bT,iy n1];exact v.k7⟩
    refine cX ?_;refine tC ?_;refine bC ⟨by kernel_rfl,⟨P0,P0,trivial⟩,?_⟩
    let Q:X Nat×X aU:=(s.1++[p],s.2++[⟨x.kind,[]⟩])
    let V1:B:=.vec (List.map bL<|s.2++[⟨x.kind,[]⟩]).flatten 79 2 (s.2.length+1)
    let R1:B:=.row [.vl z (s.2.length+1) 0 (s.2++[(⟨x.kind,[]⟩:aU)]).length] 39
    let G:X (Nat×B):=ug (ug ((nx,.row [.i6 x.kind,.J] 79)::ug h o I) z V1) t R1
    change wS _ _ _ _ (Sg.mk G<|nx+1);have g7:gt (ug ((nx,.row [.i6 x.kind,.J] 79)::ug h o I) z V1) t=some (.row [.vl z s.2.length 0 s.2.length] 39):=by rw[bT,iy<|Wv n3,aV,iy ag,bT,iy n1];exact v.k7
    have W:∀k,k<nx->k≠o->k≠t->k≠z->gt G k=gt h k:=fun k F A D i=>by simp only[G];rw[bT,iy<|Wv D,bT,iy<|Wv i,aV,iy ag,bT,iy<|Wv A]
    have v1:VI nm N d o t z C Q G:=by refine v.to (fun k A D i b hb=>by rw[W k (n k b hb).1 A D i];exact hb) ?_ ?_ ?_ (fun q R=>?_) (by simp[Q,v.eq]);simp only[G];rw[bT,iy<|Wv n1,bT,iy<|Wv n2,aV,iy ag,bT,kh rfl,v.km];simp only[I,Q,zM,za0,v.eq,Wy,zU,zO,zS];simp only[G];rw[bT,kh rfl,g7];simp[R1,Q];simp only[G];rw[bT,iy n3,bT,kh rfl,wC];simp[V1,Q,B.bv];obtain R |R:=yD.1 R;exact v.lt q R;simp at R;subst R;exact K
    haveI:fP G (nm p) (.row [.i6 x.kind,.iM (bW nm) x.D8,po nm x.fw,.i6 x.c3,.i6 x.mt,.i6 x.b9,.iM (bW nm) x.more,.i6 x.L8,po nm x.cp,.i6 x.c8,.bool x.ch,.i6 x.c4] 103):=⟨v1.nd p x hx⟩
    refine goN ?_;refine gV 9 105 2 (nx+2) ?_ (h0:=Wt _);have HR:∀k,k<nx->gt ((nx+1,.vec [] 105 2 0)::G) k=gt G k:=fun k hk=>by rw[aV,iy ag]
    refine gL (fun m' tm Y=>∃(j st:Nat)(E:X aL)(s2:X Nat×X aU)(H:X (Nat×B))(M:Nat),m'=x.D8.length-j/\j<=x.D8.length/\Ae (DF N m) (x.D8.drop j) s2 E=some e/\tm=fr 63 [(2,.ptr t 0 0),(3,.ptr C 0 0),(8,.i6 (s.2.length:Nat)),(9,.vl (nx+1) st 0 E.length),(39,.iM (bW nm) x.D8),(40,.i6 x.D8.length),(41,.i6 j)]/\Y=⟨H,M⟩/\nx+1<M/\VI nm N d o t z C s2 H/\s.2.length<s2.2.length/\gt H (nx+1)=some (.bv bB E 105 2 st)/\∀k,k<nx->k≠o->k≠t->k≠z->gt H k=gt h k) (fun tm Y=>∃(H:X (Nat×B))(M:Nat),tm=fr 63 [(2,.ptr t 0 0),(8,.i6 (s.2.length:Nat)),(9,.iM bB e.1)]/\Y=⟨H,M⟩/\nx+1<M/\VI nm N d o t z C e.2 H/\s.2.length<e.2.2.length/\∀k,k<nx->k≠o->k≠t->k≠z->gt H k=gt h k) x.D8.length
     ⟨0,0,[],Q,_,nx+2,rfl,qq _,hA,rfl,rfl,zN _,v.low n v1 HR,by simp[Q],by simp[aV],fun k F A D i=>by rw[HR k F];exact W k F A D i⟩ ?_ ?_ (by show nx<=nx+2;omega)
    rintro _ _ ⟨H,M,rfl,rfl,hM,g,aH,T⟩;have hKk:∃nd,e.2.2[s.2.length]? = some nd:=⟨_,hF aH⟩;obtain⟨nd,pN⟩:=hKk;have hset:MZ e.2.2 s.2.length e.1=e.2.2.set s.2.length ⟨nd.R,e.1⟩:=by unfold MZ;rw[pN]
    haveI:fP H t (.row [.vl z e.2.2.length 0 e.2.2.length] 39):=⟨g.k7⟩
    have hv:oR (Sg.mk H M) z e.2.2.length=some ((e.2.2.map bL).flatten,79,2):=by simp[oR,g.kv,B.bv]
    have m5:aC e.2.2 ((s.2.length:Nat):Int)=some nd:=by rw[aC,kh ⟨by omega,by omega⟩];simpa using pN
    refine goN ?_;refine RS.w rfl (eM rfl rfl (jS bL rN.h (bG sD.h) cg (fun _=>rfl) hv m5)) ?_;refine RS.w rfl (nC ET.h rfl (bG yF.h) rfl (B5 g.kv) rfl) ?_;have lQ:pD e.2.2 0 e.2.2.length ((s.2.length:Nat):Int)=some nd:=by rw[pD,kh ⟨by omega,by omega⟩];simpa using pN
    refine RS.wn rfl (E_ (Y:=⟨H,M⟩) (y:=(⟨nd.R,e.1⟩:aU)) bL (bG yF.h) (fun _=>rfl) rfl rfl rfl rfl rfl g.kv lQ rfl rfl) ?_;refine goN ?_;have QX:∀k,k≠z->gt (ug H z<|.vec ((e.2.2.set (0+((s.2.length:Nat):Int).toNat) ⟨nd.R,e.1⟩).map bL).flatten 79 2 e.2.2.length) k=gt H k:=fun k hk=>by rw[bT,iy<|Wv hk]
    have v4:VI nm N d o t z C (e.2.1,MZ e.2.2 s.2.length e.1) (ug H z<|.vec ((e.2.2.set (0+((s.2.length:Nat):Int).toNat) ⟨nd.R,e.1⟩).map bL).flatten 79 2 e.2.2.length):=by refine g.to (fun k A D i b hb=>by rw[QX k i];exact hb) (by rw[QX _ n2];exact g.km) (by rw[QX _ n3,g.k7];simp only[gl]) ?_ g.lt (by simp only[gl];exact g.eq);rw[bT,kh rfl,g.kv];simp[B.bv,hset]
    exact Pn (w:=.i6 (s.2.length:Nat)) (Y2:=⟨vH nm o t z (e.2.1,MZ e.2.2 s.2.length e.1) h,nx⟩) rfl rfl rfl (zF _) (T3 v n (by show nx<=M;omega) v4 (fun k F A D i=>by rw[QX k i];exact T k F A D i)<|by simp[aG,aS]) ⟨rfl,rfl⟩;rintro _ _ _ ⟨j,st,E,s2,H,M,rfl,hj,J,rfl,rfl,hM,g,aH,qy,T⟩;refine I6.wf fun o7 _=>?_
    haveI:ck M (M+1):=⟨rfl⟩
    refine goN ?_;refine eD rfl (fun h9=>?_) (fun h9=>?_)
    ·have S:j<x.D8.length:=by simpa using h9
     obtain⟨a,ha⟩:∃a,x.D8[j]? = some a:=⟨_,hF S⟩;have D0:aC x.D8 (j:Int)=some a:=by rw[aC,kh ⟨by omega,by omega⟩];simpa using ha
     have L0:x.D8.drop j=a::x.D8.drop (j+1):=by rw[Xk S];rw[hF S]at ha;cases ha;rfl
     have CN:i64.wrap ((j:Int)+1)=((j+1:Nat):Int):=by rw[wrap_i64 ag ag];rfl
     rw[L0]at J;obtain⟨qF,J⟩:=bY J;obtain⟨l,FV,J⟩:=aK J;have kR:=fQ.D8 a<|zX ha;obtain⟨t1,t2,t3⟩:=M! wf m _ _ _ FV kR g.lt g.eq;have v3:VI nm N d o t z C s2 ((M,.row (bW nm a) 107)::H):=v.low n g fun k hk=>by rw[aV,iy ag]
     haveI:fP ((M,.row (bW nm a) 107)::H) C (.row [.fn (.func 43) [] [.ptr d 0 0,.ptr t 0 0,.ptr C 0 0]] 109):=⟨v3.k8⟩
     refine goN ?_;apply eX;refine goN ?_;refine dO D0 ?_;refine goN ?_;refine dE [(0,6),(0,8),(1,6),(2,6)] ?_;refine cX ?_;refine D7 rfl (tJ rfl rfl S8 rfl rfl ca) (qxj m v3 wf kR FV) rfl rfl ?_;have L:M≠o/\M≠t/\M≠z:=⟨by omega,by omega,by omega⟩;have P:nx+1≠o/\nx+1≠t/\nx+1≠z:=⟨by omega,by omega,by omega⟩
     haveI:fP (vH nm o t z l.2 ((M,.row (bW nm a) 107)::H)) M (.row (bW nm a) 107):=⟨by rw[Kg L.1 L.2.1 L.2.2,aV,kh rfl]⟩
     haveI:ck (M+1) (M+2):=⟨rfl⟩
     haveI:Nq (M+1) M:=⟨by rw[beq_eq];simp⟩
     refine cX ?_;refine dS ?_;have qz:gt ((M+1,.row [.i6 a.f,.i6 (l.1:Nat)] 105)::vH nm o t z l.2 ((M,.row (bW nm a) 107)::H)) (nx+1)=some (.vec (E.map bB).flatten 105 2 st):=by rw[aV,iy ag,Kg P.1 P.2.1 P.2.2,aV,iy ag];exact qy
     have hro5:rowOf (Sg.mk ((M+1,.row [.i6 a.f,.i6 (l.1:Nat)] 105)::vH nm o t z l.2 ((M,.row (bW nm a) 107)::H))<|M+2) (M+1)=some [.i6 a.f,.i6 (l.1:Nat)]:=by simp[rowOf,aV]
     refine RD.act rfl (rG rfl rfl rfl rfl (CE bB [⟨a.f,(l.1:Nat)⟩] fZ.h fZ.h gC.h rfl (fun _=>rfl) qz (DM bB [⟨a.f,(l.1:Nat)⟩] (q:=[.i6 a.f,.i6 (l.1:Nat)]) hro5 rfl rfl rfl) ⟨by simp;omega,by simp;omega⟩)) rfl rfl ?_;refine cX ?_;refine bC ⟨by kernel_rfl,⟨kN rfl,kN rfl,P0,P0,trivial⟩,?_⟩;refine goN ?_;have qT:∀k,k<nx->gt (ug ((M+1,.row [.i6 a.f,.i6 (l.1:Nat)] 105)::vH nm o t z l.2 ((M,.row (bW nm a) 107)::H)) (nx+1)<|.vec ((E++[(⟨a.f,(l.1:Nat)⟩:aL)]).map bB).flatten 105 2 (st+1)) k=gt (vH nm o t z l.2 ((M,.row (bW nm a) 107)::H)) k:=fun k hk=>by rw[bT,iy ag,aV,iy ag]
     refine⟨x.D8.length-(j+1),_,_,by omega,⟨j+1,st+1,E++[⟨a.f,(l.1:Nat)⟩],l.2,_,M+2,rfl,S,J,rfl,rfl,by omega,v.low n (v3.vh t1 t2) qT,by omega,?_,fun k F A D i=>?_⟩,by show nx<=M+2;omega,Gh.sub ?_⟩;rw[bT,kh rfl,qz];rfl;rw[qT k F,Kg A D i,aV,iy ag];exact T k F A D i
     ·rw[<-CN];(repeat refine⟨rfl,?_⟩);exact trivial
    ·refine goN ?_;have S:j=x.D8.length:=by
      have:¬ (j:Int)<x.D8.length:=by simpa using h9
      omega
     subst S;rw[uO]at J;obtain rfl:=sI J;have hz:=vfz v n g T (Ka:=nx+1) (sz:=2) (b:=.bv bB E 105 2 st)<|Wt _;refine⟨_,⟨_,M⟩,⟨_,M,rfl,rfl,hM,v.low n g hz,aH,fun k F A D i=>by rw[hz k F];exact T k F A D i⟩,by show nx<=M;omega,Gh.trans (Gh.sub (l':=[(2,.ptr t 0 0),(8,.i6 (s.2.length:Nat)),(9,.vl (nx+1) st 0 E.length)])<|by((repeat refine⟨rfl,?_⟩);exact trivial))<|Gh.h_ (Y:=⟨H,M⟩) (nx+1) (.bv bB E 105 2 st) 2 qy nofun ?_ rfl⟩;have e1:=J1 (c:=bB) (sz:=2) (fun _=>rfl) E (nx+1) 2 105 st;simp only[Vx.h_];rw[e1,N6 _ _ _ (show aS (nx+1) (.ptr t 0 0) by show t<nx+1;omega)];rfl
   exact this
end
def Il{h:X (Nat×B)}{N k:Nat}{l:X U}{e:TypeId}(a:gt h k=some (.row l e)):cellsOf (Sg.mk h N) k 0=some l:=by simp[cellsOf,a]
def GW(n:Nat)(P:PP)(k:Int):A (cb×Rl):=
 cond (decide (k<0)) (some (⟨[]⟩,false)) (cond (decide (k>=(P.roots.length:Int))) (some (⟨[]⟩,false))<|a8 (aC P.roots k) fun r=>a8 (DF P.N n r ([],[])) fun s=>some (⟨s.2.2⟩,true))
section
variable{kp d st:Nat}{nm:Nat->Nat}{P:PP}{h:X (Nat×B)}{nx:Nat}
def quq(p:PH kp d st nm P h)(n:Nat){k:Int}{r:cb×Rl}(O:GW n P k=some r):
  aT prog 19 [.ptr kp 0 0,.i6 k] ⟨h,nx⟩ (fun u Y'=>u=.a7 [.agg<|jQ r.1,.bool r.2]/\Y'=⟨h,nx⟩):=by
 refine aT.wf fun o _=>?_;have L:kp<nx:=(o _ _ p.b5).1;have C:d<nx:=(o _ _ p.roots).1
 haveI:ck nx (nx+1):=⟨rfl⟩
 haveI:ck (nx+1) (nx+2):=⟨rfl⟩
 haveI:ck (nx+2) (nx+3):=⟨rfl⟩
 haveI:ck (nx+3) (nx+4):=⟨rfl⟩
 haveI:ck (nx+4) (nx+5):=⟨rfl⟩
 have I:∀{a b:Nat},b<a->Nq a b:=fun h=>⟨by rw[beq_eq];simp;omega⟩
 haveI:Nq nx kp:=I L
 haveI:Nq nx d:=I C
 haveI:=p.gp
 haveI:=p.gr
 have early:∀{H:X (Nat×B)}{N:Nat},(∀k,k<nx->gt H k=gt h k)->nx<=N->Gh nx [.a7 [.agg [.J],.bool false]] ⟨H,N⟩ [.a7 [.agg<|jQ ⟨[]⟩,.bool false]] ⟨h,nx⟩:=fun A S=>(Gh.wk<|.cons (.a7<|.cons (.agg<|.cons (.nil false) .nil)<|.cons (.refl _) .nil) .nil).trans (Gh.back o A S (by simp[jQ,aG,aS,lL])<|zF _);refine eO 33 SB ?_;refine goN ?_;unfold GW at O;cases F:decide (k<0)with
 |true=>rw[F]at O;obtain rfl:=sI O;refine goN ?_;refine eD rfl (fun _=>?_) (fun h=>by cases h);refine goN ?_;exact⟨.inr rfl,_,uX (vX qM.h rfl (bG uC.h) rfl (Il<|by rw[aV,kh rfl]) rfl)<|eL rfl eB,_,⟨h,nx⟩,zF _,early (fun k g=>by rw[aV,iy ag])<|Wt _,rfl,rfl⟩
 |false=>
 rw[F]at O;cases z:decide (k>=(P.roots.length:Int))with
 |true=>rw[z]at O;obtain rfl:=sI O;refine goN ?_;refine eD rfl (fun _=>?_) (fun h=>absurd (z.symm.trans h) nofun);refine goN ?_;exact⟨.inr rfl,_,uX (vX qM.h rfl (bG uC.h) rfl (Il<|by rw[aV,kh rfl]) rfl)<|eL rfl eB,_,⟨h,nx⟩,zF _,early (fun k g=>by rw[aV,iy ag])<|Wt _,rfl,rfl⟩
 |false=>
 rw[z]at O;obtain⟨J,y,s,A,O⟩:=c6 O;obtain rfl:=sI O;refine goN ?_;refine eD rfl (fun h=>absurd (z.symm.trans h) nofun) (fun _=>?_);refine goN ?_;refine RS.w rfl OV ?_;refine goN ?_;refine RS.w rfl (La rfl rfl) ?_;refine gnN ?_
 let t:B:=.row [.fn (.func 43) [] [.ptr (nx+2) 0 0,.ptr (nx+3) 0 0,.ptr (nx+4) 0 0]] 109
 let j:X (Nat×B):=(nx+4,t)::(nx+3,.row [.J] 39)::(nx+2,.row [.map<|nx+1] 108)::(nx+1,.map [] 0)::(nx,.row [.J] 39)::h
 change I6 _ _ _ _ (Sg.mk j<|nx+5) _;have V:gt j (nx+3)=some (.row [.J] 39):=by simp[j,aV]
 refine dJ (AG (Y:=⟨j,nx+5⟩) (nx+3) 0 79 2 cg (by show nx<=nx+5;omega) V rfl) (by show nx<=nx+6;omega) ?_
 let f:X (Nat×B):=(nx+5,.vec [] 79 2 0)::(nx+4,t)::(nx+3,.row [.vl (nx+5) 0 0 0] 39)::(nx+2,.row [.map<|nx+1] 108)::(nx+1,.map [] 0)::(nx,.row [.J] 39)::h
 refine I6.eqv rfl (Y':=⟨f,nx+6⟩) (by simp[j,f,cc,ug,beq_eq]) ?_;have q:∀k,k<nx->gt f k=gt h k:=fun k g=>by simp only[f];rw[aV,iy ag,aV,iy ag,aV,iy ag,aV,iy ag,aV,iy ag,aV,iy ag]
 have v:VI nm P.N (nx+2) (nx+1) (nx+3) (nx+5) (nx+4) ([],[]) f:=⟨by simp[f,aV],by simp[f,aV,HS],by simp[f,aV],by simp[f,aV,B.bv],by simp[f,aV,t],fun i x G=>by rw[q _<|p.lt o<|oT G];exact p.node i x G,p.inj,nofun,rfl⟩
 haveI:fP f (nx+4) t:=⟨v.k8⟩
 haveI:fP f kp (.row [.iM jV P.H.Types,.iM mQ P.H.E3,.vl d st 0 P.roots.length,.i6 P.size,.i6 P.gen] 83):=⟨by rw[q kp L];exact p.b5⟩
 have T:oR (Sg.mk f<|nx+6) d st=some ((P.roots.map<|dQ nm).flatten,92,1):=by simp only[oR,q d C,p.roots,B.bv];simp
 have l:gt f d=some (.vec (P.roots.map<|dQ nm).flatten 92 1 st):=by rw[q d C];exact p.roots
 obtain⟨t1,t2,t3⟩:=M! p.wf n _ _ _ A (p.rt J<|zX (Me y).2.2) nofun rfl;refine dE [] ?_;refine cX ?_;refine aQ rfl (eM rfl rfl (jS (dQ nm) iA.h (bG jC.h) cg (fun _=>rfl) T y)) ?_;refine aQ rfl (CF (dQ nm) (pt nm) i9.h rfl (fun _=>rfl) rfl l y) ?_;have m:=p.rt J<|zX (Me y).2.2;refine D7 rfl (tJ rfl rfl S8 rfl rfl ca) (qxj n v p.wf m A) rfl rfl ?_;have M:VI nm P.N (nx+2) (nx+1) (nx+3) (nx+5) (nx+4) s.2 (vH nm (nx+1) (nx+3) (nx+5) s.2 f):=v.vh t1 t2;have E:gt (vH nm (nx+1) (nx+3) (nx+5) s.2 f) nx=some (.row [.J] 39):=by rw[Kg ag ag ag];simp[f,aV]
 haveI:fP (vH nm (nx+1) (nx+3) (nx+5) s.2 f) (nx+3) (.row [.vl (nx+5) s.2.2.length 0 s.2.2.length] 39):=⟨M.k7⟩
 haveI:fP (vH nm (nx+1) (nx+3) (nx+5) s.2 f) nx (.row [.J] 39):=⟨E⟩
 refine bC ⟨by kernel_rfl,trivial,?_⟩;refine goN ?_;have D:gt (ug (vH nm (nx+1) (nx+3) (nx+5) s.2 f) nx<|.row [.vl (nx+5) s.2.2.length 0 s.2.2.length] 39) nx=some (.row [.vl (nx+5) s.2.2.length 0 s.2.2.length] 39):=by rw[bT,kh rfl,E];rfl
 refine⟨.inr rfl,_,uX (vX qM.h rfl (bG uC.h) rfl (Il D) rfl)<|eL rfl eB,_,⟨h,nx⟩,zF _,yp (c:=bL) (xs:=s.2.2) (e:=79) (sz:=2) (K:=nx+5) (st:=s.2.2.length) o (jG _ _) (by rw[bT,iy ag];exact M.kv) (fun k g=>?_) (by show nx<=nx+6;omega) (tm':=[.a7 [.agg<|jQ ⟨s.2.2⟩,.bool true]]) ?_ ?_<|zF _,rfl,rfl⟩;have g:k<nx:=g;rw[bT,iy ag,Kg ag ag ag,q k g];have Q:=J1 (c:=bL) (sz:=2) (fun _=>rfl) s.2.2 (nx+5) 2 79 s.2.2.length;have R:∀(b:B)(u v:U),fz (nx+5) b 2 u=v->k9 (nx+5) b 2 [U.a7 [U.agg [u],U.bool true]]=[U.a7 [U.agg [v],U.bool true]]:=fun b u v e=>by simp only[k9,fz,e]
 exact R _ _ _ Q;simp only[aG,aS,X1];exact gc nx ⟨s.2.2⟩
end
def uT(H:dK):PP:=⟨H,[],[],0,1⟩
def C5(H:dK)(nx:Nat)(h:X (Nat×B)):X (Nat×B):=(nx+2,.vec [] 92 1 0)::(nx+1,.row (sY (nx+2) 0<|uT H) 83)::(nx,.row (kO H) 27)::h
def zak(H:dK)(nx:Nat)(h:X (Nat×B))(nm:Nat->Nat):PH (nx+1) (nx+2) 0 nm (uT H) (C5 H nx h):=
 ⟨by simp[C5,aV],by simp[C5,aV,uT],fun i x b=>by simp[uT]at b,fun i j a=>by simp[uT]at a,nofun,nofun⟩
def z8m(H:dK)(h:X (Nat×B))(nx:Nat):aT prog 12 [.agg<|kO H] ⟨h,nx⟩ (fun u a=>u=.ptr (nx+1) 0 0/\a=⟨C5 H nx h,nx+3⟩):=by
 haveI:ck nx (nx+1):=⟨rfl⟩
 haveI:ck (nx+1) (nx+2):=⟨rfl⟩
 refine m6 6 Hz ?_;refine goN ?_;refine RS.w (u:=.agg [.iM jV H.Types,.iM mQ H.E3,.J,.i6 0,.i6 1]) rfl (Bg (qs:=[(0,.agg<|kO H),(3,.i6 1)]) rfl bD) ?_;refine goN ?_;have b:gt ((nx+1,.row [.iM jV H.Types,.iM mQ H.E3,.J,.i6 0,.i6 1] 83)::(nx,.row (kO H) 27)::h) (nx+1)=some (.row [.iM jV H.Types,.iM mQ H.E3,.J,.i6 0,.i6 1] 83):=by rw[aV,kh rfl]
 refine Pn (w:=.ptr (nx+1) 0 0) (Y2:=⟨C5 H nx h,nx+3⟩) rfl rfl rfl (by show nx<=nx+3;omega) (Gh.trans (AG (Y:=⟨(nx+1,.row [.iM jV H.Types,.iM mQ H.E3,.J,.i6 0,.i6 1] 83)::(nx,.row (kO H) 27)::h,nx+2⟩) (nx+1) 2 92 1 cg (by show nx<=nx+2;omega) b rfl)<|Gh.eqv rfl ?_) ⟨rfl,rfl⟩;simp[cc,ug,beq_eq,C5,sY,uT]
end Go.Proofs
