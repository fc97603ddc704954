import Derived.Test.YtmflfedkfdkipaaGreatP8
set_option linter.all false
open List Go.IntKind
open Nat hiding beq_eq
namespace Go.Vx
open Go Go.Rx
variable{n:Nat}
theorem zd7{F:Nat->nT->Prop}{y:Cx}{K:Nat}{l:X U}{e:TypeId}{d t:Nat}{h:X (Nat×B)}(D:y.Y=⟨(K,.vec l e d t)::h,K+1⟩)(x:jV y)(P:Fr F y)(o:∀k b,gt h k=some b->k<K/\cc K b)(Q:aH 0 l):
  ∃g:Cx,g.Y=⟨(K,.vec l e d 0)::h,K+1⟩/\g.s=y.s/\jV g/\Fr F g/\Ke K y g/\∀v,aF y (.vl K t 0 n) v->aF g (.vl K 0 0 n) v:=by
 have gy:∀j,gt y.Y.h j=if K=j then some (.vec l e d t)else gt h j:=fun j=>by rw[D];exact aR _ _ _ _
 have u:∀j,gt ((K,B.vec l e d 0)::h) j=if K=j then some (.vec l e d 0)else gt h j:=fun j=>aR _ _ _ _;have jL:y.Y.nx=K+1:=by rw[D]
 let g:Cx:=⟨y.I,⟨(K,.vec l e d 0)::h,K+1⟩,y.s⟩
 have z:Mo K y g:=by refine⟨fun j q m=>⟨by show j<K+1;omega,fun w J=>?_⟩,fun _ _ _ h=>h⟩;have a:gt ((K,B.vec l e d 0)::h) j=some w:=J;rw[u,hF af]at a;exact⟨w,by rw[gy,hF af];exact a,zF _,fun _=>⟨rfl,fun l e d st h=>⟨l,h⟩⟩⟩
 refine⟨g,rfl,rfl,⟨fun j b p=>?_,fun j G b w i p r q m=>?_,x.bd⟩,fun i b O=>?_,z.ke,fun v A=>?_⟩;have a:gt ((K,B.vec l e d 0)::h) j=some b:=p;rw[u]at a;by_cases f:K=j;subst f;rw[lr rfl]at a;cases a;refine⟨by show K<K+1;omega,?_⟩;have⟨_,q1,q2,q3⟩:=x.ok K (.vec l e d t) (by rw[gy,lr rfl]);refine⟨q1,q2,?_⟩;obtain q3 |⟨i,R,S,T,V⟩:=q3;exact .inl q3;exact .inr ⟨i,R,S,T,z.ke.E (aH.le (qq _) l Q) V⟩;rw[hF f]at a;have⟨q,m⟩:=o j b a;refine⟨by show j<K+1;omega,?_⟩;exact(x.ok j b (by rw[gy,hF f];exact a)).2.kN m z rfl fun _ _ _ h=>h
 have key:∀j b,gt ((K,B.vec l e d 0)::h) j=some b->∃c,gt y.Y.h j=some c:=fun j b o=>by rw[u]at o;by_cases f:K=j;exact⟨_,by rw[gy,lr f]⟩;rw[hF f]at o;exact⟨b,by rw[gy,hF f];exact o⟩
 have⟨c,g1⟩:=key j b p;have⟨H,g2⟩:=key G w r;exact x.inj j G c H i g1 g2 q m;obtain⟨q,m⟩:=P i b O;refine⟨q,fun j c N=>?_⟩;have C:gt ((K,B.vec l e d 0)::h) j=some c:=N;rw[u]at C;by_cases f:K=j;exact m j _ (by rw[gy,lr f]);rw[hF f]at C;exact m j c (by rw[gy,hF f];exact C);simp only[aF]at A ⊢;refine⟨A.1,by show K<K+1;omega,fun b o=>?_⟩;have a:gt ((K,B.vec l e d 0)::h) K=some b:=o;rw[u,lr rfl]at a;cases a;obtain⟨_,g2⟩:=A.2.2 (.vec l e d t) (by rw[gy,lr rfl]);obtain⟨l2,Z,W,L,M⟩:=g2 rfl;cases L;exact⟨zF _,fun _=>⟨l,e,d,rfl,M⟩⟩
theorem uu{g:Type}(c:g->X U){P:Ua}{f:FuncId}{j:X g}{e:TypeId}{z:Nat}{q:X U}[N:BF c][Z:jQ 0 q]{k:Nat}
  (h:b7 P f q ⟨[],0⟩ (fun u p=>∃r,u=.vl k r 0 j.length/\p=⟨[(k,.vec (j.map c).flatten e z r)],k+1⟩))
  (Y:Sg) (K:Nat) (L:Y.nx+k=K):
  b7 P f q Y (fun u p=>u=.vl K 0 0 j.length/\p=⟨(K,.vec (j.map c).flatten e z 0)::Y.h,K+1⟩):=fun F x Q m w a d t I o H E=>by
 have J:=b7.AB c h Y K L;refine(J F x Q m w a d t I o H E).mono ?_;rintro V A ⟨y,D,u,v,G,q1,⟨r,rfl,q3⟩,q4,q5,q6,q7,q8,q9,O⟩;obtain⟨R,B,C,z3,z4,z5,S⟩:=zd7 (F:=F) q3 q6 q7 (fun k b M=>by
  have:=t.ok k b (by rw[d];exact M);rw[d]at this;refine⟨by omega,?_⟩;have i:=this.2.kU;rw[d]at i;cases b with
  |row l e=>exact aH.le af l i|vec l e s st=>exact aH.le af l i
  |map W T=>exact fun e o=>⟨aW.le af _ (i e o).1,aW.le af _ (i e o).2⟩) (QM 0 (N.h 0) j)
 exact⟨R,D,_,v,G,q1,⟨rfl,B⟩,by rw[C];exact q4,by rw[C];exact q5,z3,z4,S v q8,q9.trans (z5.le (by rw[d];omega)),by rw[B,d];show Y.nx<=K+1;omega⟩
theorem FD{P:Ua}{T:Tb}{a r:X Oper}{o:Oper}{l:X (Nat×U)}{Y Y1:Sg}{b:X RK}{K:X RK->X U->Sg->Prop}{u:U}{f:FuncId}{args:X U}(j:cE a (fr n l) o=some true)(e:kQ T (fr n l) o.op=some (f,args))(k:b7 P f args Y (fun m c=>m=u/\c=Y1)){d:Tmp}(h:o.dst=some d)(g:blt d n=true)
  (i:RH P T a r (fr n ((d,u)::l)) Y1 ((3,⟨fr n l,o,u,true,true,Y,Y1⟩)::b) K):RH P T a (o::r) (fr n l) Y b K :=
 RH.oD j e k (by rw[h,uD (d:=some d) u g];exact i)
def N6(k:IntKind)(a b:Int):Int:=k.wrap (BitVec.ofInt k.bits a&&&BitVec.ofInt k.bits b).toNat
def Zk(k:IntKind)(a b:Int):Int:=k.wrap (BitVec.ofInt k.bits a|||BitVec.ofInt k.bits b).toNat
def Cf(k:IntKind)(a b:Int):Int:=k.wrap (BitVec.ofInt k.bits a &&& ~~~ BitVec.ofInt k.bits b).toNat
theorem qt7(k:IntKind)(a b:Int):lI .andNot k a k b=some (.int k<|Cf k a b):=by simp[lI,Cf]
theorem z2w(k:IntKind)(a b:Int):lI .and k a k b=some (.int k<|N6 k a b):=by simp[lI,N6]
theorem qh(k:IntKind)(a b:Int):lI .or k a k b=some (.int k<|Zk k a b):=by simp[lI,Zk]
def Bf(s:X Yv)(i:Int):V Int:=if 0<=i/\i<(s.length:Int)then(s[i.toNat]?).map fun b=>(b.toNat:Int)else none
theorem qvj{T:Tb}{Y:Sg}{l:X (Nat×U)}{t:TypeId}{x y:He}{s:X Yv}{k:IntKind}{i z:Int}(d:T.I1 t=some .string)(f:bN n l x=some (.str s))(g:bN n l y=some (.int k i))(h:Bf s i=some z):bJ T Y (fr n l) (.index t x y)=some (.int .u8 z,Y):=by unfold Bf at h;split at h;rename_i e;rcases a:s[i.toNat]? with _|b;rw[a]at h;cases h;rw[a]at h;simp[zM,zA]at h;subst h;have c:uH i s.length=true:=NR e;apply vL;simp[iV,dY f,dY g,bg,g2,cf,Bs,d,c,zC,lW,a,kS];cases h
def Pz(Y a:Sg):Prop:=∀k b,gt Y.h k=some b->gt a.h k=some b
section
variable{Y a:Sg}(b:Pz Y a)
include b
variable{T:Tb}{tm:X U}
def W6:Op->FK
 |.alloc _ |.box _ _ |.store _ _ _ |.buildSlice _ _ _ |.makeSlice _ _ _ |.makeMap _ _ |.mapUpdate _ _ _ _ |.insert _ _ _ _ |.mapEntry _ _ _ |.entryStore _ _ _ _=>false|.call c=>(match c.callee with
  |.builtin .append=>false|.builtin .copy=>false
  |.builtin .delete=>false|.builtin .clear=>false
  |_=>true)
 |_=>true
end
def YV:V Nat->Nat->U
 |none,k=>.ptr k 0 0|some n,k=>.sl k 0 n n
structure Al where
 i:Nat
 k:Nat
 o:V Nat
 l:X U
 e:TypeId
def MkU(P:Ua)(T:Tb)(b:X U)(op:Op)(a:Al):Prop :=
 (∀s,bJ T s b op=some (YV a.o s.nx,bE s<|.row a.l a.e))\/∃f args,kQ T b op=some (f,args)/\∀s,b7 P f args s (fun u c=>u=YV a.o s.nx/\c=bE s (.row a.l a.e))
structure Loc(T:Tb)(aC:X Oper)(B9:X Al)(i:Nat)(r:eX)(K:Nat)(q q':X U)(e:TypeId):Prop where
 name:∃al∈B9,al.k=K
 row:gt r.s.h K=some (.row q e)
 out:r.s'=⟨ug r.s.h K (.row q' e),r.s.nx⟩
 dst:r.o.dst=none
 run:∀ τ:Sg,gt τ.h K=some (.row q e)->bJ T τ r.tm r.o.op=some (r.u,⟨ug τ.h K (.row q' e),τ.nx⟩)
 pre:∀al∈B9,fS aC i al.i\/(al.k≠K/\aH al.k q')
 want:cE aC r.tm r.o=some true
structure ChA(P:Ua)(T:Tb)(aC:X Oper)(tm₀:X U)(Yb Y1:Sg)(rs:X eX)(B9:X Al):Prop where
 some:B9≠[]
 names:∀al∈B9,Yb.nx<=al.k/\al.k<Y1.nx
 nodup:∀a∈B9,∀b∈B9,a.k=b.k->a.i=b.i
 le:Yb.nx<=Y1.nx
 at_:∀al∈B9,∃r d,rs[al.i]? = .some r/\r.u=YV al.o al.k/\r.act=false/\r.mv=true/\MkU P T r.tm r.o.op al/\r.o.guard=none/\r.o.dst=.some d
 row:∀al∈B9,aH 0 al.l
 all:∀(i:Nat)(r:eX),rs[i]? = .some r->r.act=false->r.mv=true->∃al∈B9,al.i=i
 own:∀al∈B9,gt Y1.h al.k=.some (.row al.l al.e)
 sE:∀j,(∀al∈B9,al.k≠j)->gt Y1.h j=gt Yb.h j
 p8:∀(i:Nat)(r:eX),rs[i]? = .some r->r.act=true->(∀al∈B9,fS aC i al.i)\/∃K q q' e,Loc T aC B9 i r K q q' e
 early:∀(i:Nat)(r:eX),rs[i]? = .some r->r.act=false->r.mv=false->(∀al∈B9,fS aC i al.i)\/(aW Yb.nx r.u/\(cE aC r.tm r.o=.some true->bJ T r.s r.tm r.o.op=.some (r.u,r.s')->W6 r.o.op=true/\bJ T ⟨Yb.h,Y1.nx⟩ r.tm r.o.op=.some (r.u,⟨Yb.h,Y1.nx⟩)))
section
variable{P:Ua}{T:Tb}(a:jW P T)(b:Jg Oper){tm₀:X U}{c Y1:Sg}{rs:X eX}{tm':X U}{Y':Sg}{d:X Al}
 (kA:p? P T b.toList tm₀ Y1 rs tm' Y') (dJ:Co b.toList=true) (SN:ChU T b.toList rs) (mX:ChA P T b.toList tm₀ c Y1 rs d)
include kA mX
include a dJ SN
end
def Zz(mk K:Nat)(b:X U):X Al->Prop
 |[]=>True|a::r=>(testBit mk a.i=true\/(a.k≠K/\aH a.k b))/\Zz mk K b r
def RA(P:Ua)(T:Tb)(b:X Oper)(l:Nat)(j:Sg)(m:X Al):X Oper->X U->Sg->X RK->X Al->(X RK->X U->Sg->Prop)->Prop
 |[],a,Y,g,q,K=>q=[]/\K g a Y|o::r,a,Y,g,q,K=>
  (cE b a o=some true/\∃u,bJ T Y a o.op=some (u,Y)/\RA P T b l j m r (eS a o.dst u) Y ((1,⟨a,o,u,false,false,Y,Y⟩)::g) q K)\/ (cE b a o=some true/\∃u p,bJ T Y a o.op=some (u,p)/\RA P T b l j m r (eS a o.dst u) p ((3,⟨a,o,u,true,true,Y,p⟩)::g) q K)\/ (cE b a o=some true/\∃f args u,kQ T a o.op=some (f,args)/\b7 P f args Y (fun w p=>w=u/\p=Y)/\RA P T b l j m r (eS a o.dst u) Y ((2,⟨a,o,u,true,false,Y,Y⟩)::g) q K)\/ (cE b a o=some true/\∃f args u p,kQ T a o.op=some (f,args)/\b7 P f args Y (fun w y=>w=u/\y=p)/\RA P T b l j m r (eS a o.dst u) p ((3,⟨a,o,u,true,true,Y,p⟩)::g) q K)\/ (cE b a o=some false/\RA P T b l j m r (eS a o.dst<|.a7 []) Y ((0,⟨a,o,.a7 [],false,false,Y,Y⟩)::g) q K)\/ (cE b a o=some true/\∃u,uY P T a o.op u/\aW l u/\RA P T b l j m r (eS a o.dst u) Y ((6,⟨a,o,u,false,false,Y,Y⟩)::g) q K)\/ (cE b a o=some true/\∃u,bJ T Y a o.op=some (u,Y)/\bJ T j a o.op=some (u,j)/\W6 o.op=true/\aW l u/\RA P T b l j m r (eS a o.dst u) Y ((5,⟨a,o,u,false,false,Y,Y⟩)::g) q K)\/ (∃s x d,q=s::x/\s.i=g.length/\MkU P T a o.op s/\o.guard=none/\o.dst=some d/\RA P T b l j m r (eS a o.dst<|YV s.o s.k) Y ((4,⟨a,o,YV s.o s.k,false,true,Y,Y⟩)::g) x K)\/ (cE b a o=some true/\∃u KK c t e mk,(eH b [])[g.length]? = some mk/\o.dst=none/\gt Y.h KK=some (.row c e)/\(∀ v:Sg,gt v.h KK=some (.row c e)->bJ T v a o.op=some (u,⟨ug v.h KK<|.row t e,v.nx⟩))/\(∃s∈m,s.k=KK)/\Zz mk KK t m/\
   RA P T b l j m r (eS a o.dst u) ⟨ug Y.h KK<|.row t e,Y.nx⟩ ((7,⟨a,o,u,true,true,Y,⟨ug Y.h KK<|.row t e,Y.nx⟩⟩)::g) q K)
def kf(k:Nat):Nat:=cond (Nat.beq k 4) 0 (cond (Nat.beq k 5) 1<|cond (Nat.beq k 6) 0<|cond (Nat.beq k 7) 3 k)
section
variable{P:Ua}{T:Tb}
end
section
variable{C:PG}{T:Tb}(a:jW C.prog T){n0:Nat}{Q:Exit->X U->Sg->Prop}{tm:X U}{Y:Sg}
include a
end
section
variable{P:Ua}{T:Tb}{a r:X Oper}{o:Oper}{n b:Nat}{c:Sg}{l:X (Nat×U)}{Y Y':Sg}{g:X RK}{q j:X Al}{K:X RK->X U->Sg->Prop}{u:U}{d:Tmp}
theorem RQ.act(k:cE a (fr n l) o=some true)(h:bJ T Y (fr n l) o.op=some (u,Y'))(f:o.dst=some d)(e:blt d n=true)(i:RA P T a b c j r (fr n ((d,u)::l)) Y' ((3,⟨fr n l,o,u,true,true,Y,Y'⟩)::g) q K):RA P T a b c j (o::r) (fr n l) Y g q K :=
 .inr (.inl ⟨k,u,Y',h,by rw[f,uD (d:=some d) u e];exact i⟩)
theorem RQ.call{f:FuncId}{args:X U}(m:cE a (fr n l) o=some true)(e:kQ T (fr n l) o.op=some (f,args))(p:b7 P f args Y (fun s Y'=>s=u/\Y'=Y))(i:o.dst=some d)(h:blt d n=true)(k:RA P T a b c j r (fr n ((d,u)::l)) Y ((2,⟨fr n l,o,u,true,false,Y,Y⟩)::g) q K):RA P T a b c j (o::r) (fr n l) Y g q K :=
 .inr (.inr<|.inl ⟨m,f,args,u,e,p,by rw[i,uD (d:=some d) u h];exact k⟩)
theorem RQ.alloc{f:Al}(t:f.i=g.length)(w:∀s,bJ T s (fr n l) o.op=some (YV f.o s.nx,bE s<|.row f.l f.e))(p:o.guard=none)(h:o.dst=some d)(m:blt d n=true)(v:RA P T a b c j r (fr n ((d,YV f.o f.k)::l)) Y ((4,⟨fr n l,o,YV f.o f.k,false,true,Y,Y⟩)::g) q K):RA P T a b c j (o::r) (fr n l) Y g (f::q) K :=
 .inr (.inr<|.inr<|.inr<|.inr<|.inr<|.inr<|.inl ⟨f,q,d,rfl,t,.inl w,p,h,by rw[h,uD (d:=some d) _ m];exact v⟩)
end
section
variable{C:PG}{T:Tb}(a:jW C.prog T){n0:Nat}{Q:Exit->X U->Sg->Prop}{tm:X U}{Y:Sg}
include a
end
class mm(P:Ua)(T:outParam Tb):Prop where
 ok:jW P T
class q?(C:PG)(T:outParam Tb):Prop where
 ok:jW C.prog T
instance{P:Ua}{T:Tb}[h:mm P T]:q? (PG.of P) T:=⟨h.ok⟩
section
variable{P:Ua}{T:Tb}{a r:X Oper}{o:Oper}{n:Nat}{l:X (Nat×U)}{Y Y':Sg}{u:U}
theorem aS{C:PG}{K:X U->Sg->Prop}{d:Tmp}(c:o.dst=some d)(h:bJ T Y (fr n l) o.op=some (u,Y'))(e:RU C T a r (fr n ((d,u)::l)) Y' K)(f:cE a (fr n l) o=some true:=by exact rfl)(b:blt d n=true:=by exact rfl):RU C T a (o::r) (fr n l) Y K:=RS.op f h c b e
theorem aQ{b:X RK}{K:X RK->X U->Sg->Prop}{d:Tmp}(e:o.dst=some d)(h:bJ T Y (fr n l) o.op=some (u,Y))(f:RH P T a r (fr n ((d,u)::l)) Y ((1,⟨fr n l,o,u,false,false,Y,Y⟩)::b) K)(g:cE a (fr n l) o=some true:=by exact rfl)(c:blt d n=true:=by exact rfl):RH P T a (o::r) (fr n l) Y b K:=RD.look g h e c f
end
theorem st{A B:Prop}(h:B)(g:B->A:=by intro h;(repeat refine Go.Vx.gq ?_);(repeat refine Go.Vx.sq ?_);exact h):A:=g h
theorem b7.vD{P:Ua}{f:FuncId}{args a:X U}{Y:Sg}{o:X U}{u:X Value}(h:b7 P f args ⟨[],0⟩ (fun r _=>r=.a7 o/\aW 0 r))(ha:aH 0 args)(z:mO o=some u)(D:∀m,aL m u=u){V:Sg}(hg:Gh 0 a Y args V):b7 P f a Y (fun r T=>r=.a7 o/\T=Y):=fun F x S m w j M L J he H Z=>by
 obtain⟨p,W,a2,a3,a4,a5,a6⟩:=hg F x S M L J he;have R:=W m w H;have I:=bS.less R.fits<|qpa p.s;have fT:Mo 0 p (cx<|CX p.s):=⟨fun k hk=>af,fun i row e hl=>by show lk (CX p.s).h i=_;rw[O3,hl];rfl⟩;have eW:∀b,¬ TN m (CX p.s) b:=fun b ⟨i,c,K,ho,_⟩=>by rw[O3]at K;obtain⟨_,l,e,rfl⟩:=VB K;simp[Rx.gQ]at ho
 refine(h (fun _ _=>False) (cx<|CX p.s) S m w j rfl ⟨fun k b g=>by simp[cx,gt]at g,fun k k' b b' i g=>by simp[cx,gt]at g,fun i b g=>?_⟩ (fun _ _ O=>O.elim) (fT.ke.E ha a5) I.fits (Z.ext (aP.refl _ _)<|Zt R.nx I.nx)).mono ?_;have G:lk (CX p.s).h i=some b:=g;rw[O3]at G;exact a3.bd i b (VB G).1;rintro e yM ⟨y2,G7,r,v',cv,rfl,⟨rfl,_⟩,q,jJ,_,_,C,_,_⟩;simp only[aF]at C;obtain⟨d,rfl,A,B⟩:=C;have hv:=(QD o u z y2 d).1 ⟨A,B⟩;subst hv;have y:cv=.tuple ⟨d⟩:=by rw[<-jJ.at];simp only[H3,nB,D]
 subst y;have Q:∀b,b<w.heap.size->yM.heap[b]? = w.heap[b]?:=fun b v=>q.same b v<|eW b;refine⟨x,m,.a7 o,.tuple ⟨d⟩,.tuple ⟨d⟩,rfl,⟨rfl,M⟩,⟨aP.refl _ _,zF _,fun N kX=>?_,fun b h=>.inl h,fun b v _=>Q b v,q.size,q.os,q.tape,q.output⟩,fun N _=>by simp only[H3,nB,D],L,J,by simp only[aF];exact⟨d,rfl,((QD o d z x d).2 rfl).1,((QD o d z x d).2 rfl).2⟩,Ke.refl _ _,zF _⟩;have t:=H N kX;exact⟨fun i b g=>(t.ok i b g).world (Q _<|t.size g),t.inj,t.bd⟩
class gX{v12:Type}(c:v12->X U)(n:outParam Nat):Prop where
 h:∀x,(c x).length=n
instance(k:IntKind):gX (cI k) 1:=⟨iK k⟩
instance:gX cS 1:=⟨Q4⟩
instance{a:Type}(c:a->X U):gX (cL c) 1:=⟨FR c⟩
abbrev U.iM{a:Type}(c:a->X U)(l:X a):U:=.O false (l.map c)
abbrev U.i6(z:Int):U:=.int .i64 z
variable{P:Ua}{f:FuncId}{args:X U}{u:U}
theorem pC(h:b7 P f args ⟨[],0⟩ (fun a _=>a=u/\aW 0 a))[q:jQ 0 args](Y:Sg):b7 P f args Y (fun a Y'=>a=u/\Y'=Y):=b7.lG h Y
theorem sI{c:Type}{a b:c}(h:some a=some b):a=b:=Option.some.inj h
class Nq(a b:Nat):Prop where
 h:Nat.beq a b=false
instance{b:Nat}:Nq 0 (b+1):=⟨rfl⟩
instance{b:Nat}:Nq (b+1) 0:=⟨rfl⟩
instance{a b:Nat}[q:Nq a b]:Nq (a+1) (b+1):=⟨q.h⟩
class eK(h:X (Nat×B))(K:Nat)(b:outParam B):Prop where
 h:gt h K=some b
instance(priority:=low){K k:Nat}{x b:B}{t:X (Nat×B)}[n:Nq k K][g:eK t K b]:eK ((k,x)::t) K b:=⟨by simp[gt,n.h,zD,g.h]⟩
instance{K:Nat}{b:B}{t:X (Nat×B)}:eK ((K,b)::t) K b:=⟨by simp[gt]⟩
class uh(b:B):Prop where
 h:∀es cl,b≠.map es cl
instance{l:X U}{e:TypeId}:uh (.row l e):=⟨fun _ _=>nofun⟩
instance{l:X U}{e:TypeId}{s t:Nat}:uh (.vec l e s t):=⟨fun _ _=>nofun⟩
class Ck(n sz:Nat)(l:X U)(r:outParam (X (X U))):Prop where
 h:n*sz<=l.length
 e:bR sz n l=r
instance{s:Nat}{l:X U}:Ck 0 s l []:=⟨by omega,by simp[bR]⟩
instance{n:Nat}{a:U}{l:X U}{r:X (X U)}[q:Ck n 1 l r]:Ck (n+1) 1 (a::l) ([a]::r):=⟨by have:=q.h;simp;omega,by have:=q.e;simp[bR,this]⟩
instance{n:Nat}{a b:U}{l:X U}{r:X (X U)}[q:Ck n 2 l r]:Ck (n+1) 2 (a::b::l) ([a,b]::r):=⟨by have:=q.h;simp;omega,by have:=q.e;simp[bR,this]⟩
instance{n:Nat}{a b c:U}{l:X U}{r:X (X U)}[q:Ck n 3 l r]:Ck (n+1) 3 (a::b::c::l) ([a,b,c]::r):=⟨by have:=q.h;simp;omega,by have:=q.e;simp[bR,this]⟩
class w7(K:Nat)(b:B)(sz:Nat)(u:U)(u':outParam U):Prop where
 h:fz K b sz u=u'
class MU(K:Nat)(b:B)(sz:Nat)(l:X U)(l':outParam (X U)):Prop where
 h:iO K b sz l=l'
section
variable{K:Nat}{b:B}{sz:Nat}
instance(priority:=low){l:X U}[q:jQ K l]:MU K b sz l l:=⟨vS b sz l q.h⟩
instance:MU K b sz [] []:=⟨y3 K b sz⟩
instance{u c:U}{l l':X U}[a:w7 K b sz u c][q:MU K b sz l l']:MU K b sz (u::l) (c::l'):=⟨by rw[v6,a.h,q.h]⟩
instance{k:IntKind}{z:Int}:w7 K b sz (.int k z) (.int k z):=⟨FS K b sz k z⟩
instance{x:X Yv}:w7 K b sz (.str x) (.str x):=⟨UW K b sz x⟩
instance:w7 K b sz .J .J:=⟨QC K b sz⟩
instance{t:FK}{l:X (X U)}:w7 K b sz (.O t l) (.O t l):=⟨JJ K b sz t l⟩
instance{l l':X U}[q:MU K b sz l l']:w7 K b sz (.agg l) (.agg l'):=⟨by rw[Q6,q.h]⟩
instance{l l':X U}[q:MU K b sz l l']:w7 K b sz (.a7 l) (.a7 l'):=⟨by rw[UV,q.h]⟩
instance{f:Fn}{a d c c':X U}[q:MU K b sz a d][r:MU K b sz c c']:w7 K b sz (.fn f a c) (.fn f d c'):=⟨by rw[UN,q.h,r.h]⟩
instance{k st off n:Nat}[q:Nq k K]:w7 K b sz (.vl k st off n) (.vl k st off n):=⟨si q.h b sz st off n⟩
instance{k off n c:Nat}[q:Nq k K]:w7 K b sz (.sl k off n c) (.sl k off n c):=⟨XL q.h b sz off n c⟩
instance{k st off:Nat}[q:Nq k K]:w7 K b sz (.ptr k st off) (.ptr k st off):=⟨XN q.h b sz st off⟩
end
instance{a:Type}{c:a->X U}{sz s K st:Nat}{l:X a}{e:TypeId}[q:gX c sz]:w7 K (.vec (l.map c).flatten e sz st) s (.vl K st 0 l.length) (.O false<|l.map c):=⟨HL q.h l K s e st⟩
instance{K sz n:Nat}{l:X U}{e:TypeId}{r:X (X U)}[q:Ck n sz l r]:w7 K (.row l e) sz (.sl K 0 n n) (.O false r):=⟨by rw[XM K l e sz n q.h,q.e]⟩
instance{K sz:Nat}{l:X U}{e:TypeId}:w7 K (.row l e) sz (.ptr K 0 0) (.b4 l):=⟨kj K l e sz⟩
instance{K sz:Nat}{b:B}{u a:U}[q:w7 K b sz u a]:w7 K b sz (nD [u]) a:=⟨q.h⟩
instance{K sz:Nat}{b:B}{u v a:U}{l:X U}[q:w7 K b sz (.a7 (u::v::l)) a]:w7 K b sz (nD (u::v::l)) a:=⟨q.h⟩
class FzB(K:Nat)(b:B)(sz:Nat)(x:B)(x':outParam B):Prop where
 h:ek K b sz x=x'
instance{K sz:Nat}{b:B}{l l':X U}{e:TypeId}[q:MU K b sz l l']:FzB K b sz (.row l e) (.row l' e):=⟨by rw[ek,q.h]⟩
instance{K sz:Nat}{b:B}{l l':X U}{e:TypeId}{s st:Nat}[q:MU K b sz l l']:FzB K b sz (.vec l e s st) (.vec l' e s st):=⟨by rw[ek,q.h]⟩
class Z1(K:Nat)(b:B)(sz:Nat)(h:X (Nat×B))(h':outParam (X (Nat×B))):Prop where
 h:dd K b sz h=h'
section
variable{K:Nat}{b:B}{sz:Nat}
instance:Z1 K b sz [] []:=⟨rfl⟩
instance(priority:=low){k:Nat}{c c':B}{h h':X (Nat×B)}[n:Nq k K][p:FzB K b sz c c'][q:Z1 K b sz h h']:Z1 K b sz ((k,c)::h) ((k,c')::h'):=⟨by simp[dd,n.h,zD,p.h,q.h]⟩
instance{c:B}{h h':X (Nat×B)}[q:Z1 K b sz h h']:Z1 K b sz ((K,c)::h) h':=⟨by simp[dd,q.h]⟩
end
class w?(K:Nat)(b:B)(sz:Nat)(l:X (Nat×U))(l':outParam (X (Nat×U))):Prop where
 h:iJ K b sz l=l'
instance{K:Nat}{b:B}{sz:Nat}:w? K b sz [] []:=⟨rfl⟩
instance{K:Nat}{b:B}{sz i:Nat}{u c:U}{l l':X (Nat×U)}[a:w7 K b sz u c][q:w? K b sz l l']:w? K b sz ((i,u)::l) ((i,c)::l'):=⟨by rw[iJ,a.h,q.h]⟩
variable{n0:Nat}{nx:Nat}{h:X (Nat×B)}{h':X (Nat×B)}{b:B}
theorem sO{d a:X U}(K c:Nat)[g:eK h K b][m:uh b][t:MU K b c d a][q:Z1 K b c h h']:Gh n0 d ⟨h,nx⟩ a ⟨h',nx⟩:=Gh.fz K b c g.h m.h t.h q.h
variable{n:Nat}{l:X (Nat×U)}{l':X (Nat×U)}
theorem FC(K a:Nat)[g:eK h K b][m:uh b][t:w? K b a l l'][q:Z1 K b a h h']:Gh n0 (fr n l) ⟨h,nx⟩ (fr n l') ⟨h',nx⟩:=Gh.iJ K b a g.h m.h t.h q.h
class YX(h:X (Nat×B))(K:Nat)(b:B)(h':outParam (X (Nat×B))):Prop where
 h:ug h K b=h'
instance{K:Nat}{x b:B}{t:X (Nat×B)}:YX ((K,x)::t) K b ((K,b)::t):=⟨by simp[ug]⟩
instance(priority:=low){K k:Nat}{x b:B}{t a:X (Nat×B)}[n:Nq k K][g:YX t K b a]:YX ((k,x)::t) K b ((k,x)::a):=⟨by simp[ug,n.h,zD,g.h]⟩
class YW(l:X U)(l':outParam (X U)):Prop where
 h:qP l l'
instance:YW [] []:=⟨.nil⟩
instance(priority:=low){u:U}{l l':X U}[q:YW l l']:YW (u::l) (u::l'):=⟨.cons (.refl _) q.h⟩
instance{l l':X U}[q:YW l l']:YW (.J::l) (.O false []::l'):=⟨.cons (.nil false) q.h⟩
theorem Gh.AD{tm:X U}{q a:X U}{e:TypeId}(K:Nat)[g:eK h K (.row q e)][w:YW q a][u:YX h K (.row a e) h'](c:I8 a=true:=by exact rfl):Gh n0 tm ⟨h,nx⟩ tm ⟨h',nx⟩:=by have:=Gh.pW (n0:=n0) (tm:=tm) (Y:=⟨h,nx⟩) g.h c w.h;simp[u.h]at this;exact this
theorem NZ:0<=n:=qq n
theorem NL{a b:Nat}(h:ble a b=true:=by exact rfl):a<=b:=zY h
theorem sB{a b:Nat}(h:ble a b=true):a<=b:=zY h
variable{T:Tb}{fn:Func}{k:Code}{Y:Sg}{R:U->Sg->Prop}
theorem bg0[t:mm P T](n:Nat)(j:T.fn f=some fn)(h:I6 (PG.of P) Y.nx k (fr n []) Y fun e c d=>(e=.normal\/e=.ret)/\∃l,mF T d c fn.results.toList=some l/\∃g a,Y.nx<=a.nx/\Gh Y.nx [nD l] d [g] a/\R g a)(o:fn.ntmps=n:=by exact rfl)(i:fn.body=some k:=by exact rfl)(m:ble 0 n=true:=by exact rfl):b7 P f [] Y R:=Kw t.ok j i (cD (by rw[o];exact Ku<|sB m) (zF _) h)
theorem mJ[t:mm P T]{a:U}(n:Nat)(m:T.fn f=some fn)(h:I6 (PG.of P) Y.nx k (fr n [(0,a)]) Y fun e d g=>(e=.normal\/e=.ret)/\∃l,mF T g d fn.results.toList=some l/\∃i c,Y.nx<=c.nx/\Gh Y.nx [nD l] g [i] c/\R i c)(p:fn.ntmps=n:=by exact rfl)(j:fn.body=some k:=by exact rfl)(o:ble 1 n=true:=by exact rfl):b7 P f [a] Y R:=Kw t.ok m j (cD (by rw[p];exact Ku<|sB o) (zF _) h)
theorem eO[t:mm P T]{a b:U}(n:Nat)(m:T.fn f=some fn)(h:I6 (PG.of P) Y.nx k (fr n [(0,a),(1,b)]) Y fun e d g=>(e=.normal\/e=.ret)/\∃l,mF T g d fn.results.toList=some l/\∃i c,Y.nx<=c.nx/\Gh Y.nx [nD l] g [i] c/\R i c)(p:fn.ntmps=n:=by exact rfl)(j:fn.body=some k:=by exact rfl)(o:ble 2 n=true:=by exact rfl):b7 P f [a,b] Y R:=Kw t.ok m j (cD (by rw[p];exact Ku<|sB o) (zF _) h)
variable{c:U}
theorem w4[t:mm P T]{a b:U}(n:Nat)(o:T.fn f=some fn)(h:I6 (PG.of P) Y.nx k (fr n [(0,a),(1,b),(2,c)]) Y fun e g i=>(e=.normal\/e=.ret)/\∃l,mF T i g fn.results.toList=some l/\∃j d,Y.nx<=d.nx/\Gh Y.nx [nD l] i [j] d/\R j d)(q:fn.ntmps=n:=by exact rfl)(m:fn.body=some k:=by exact rfl)(p:ble 3 n=true:=by exact rfl):b7 P f [a,b,c] Y R:=Kw t.ok o m (cD (by rw[q];exact Ku<|sB p) (zF _) h)
theorem Kd[t:mm P T]{a b d:U}(n:Nat)(p:T.fn f=some fn)(h:I6 (PG.of P) Y.nx k (fr n [(0,a),(1,b),(2,c),(3,d)]) Y fun e i j=>(e=.normal\/e=.ret)/\∃l,mF T j i fn.results.toList=some l/\∃m g,Y.nx<=g.nx/\Gh Y.nx [nD l] j [m] g/\R m g)(r:fn.ntmps=n:=by exact rfl)(o:fn.body=some k:=by exact rfl)(q:ble 4 n=true:=by exact rfl):b7 P f [a,b,c,d] Y R:=Kw t.ok p o (cD (by rw[r];exact Ku<|sB q) (zF _) h)
theorem bg5[t:mm P T]{a b d e:U}(n:Nat)(p:T.fn f=some fn)(h:I6 (PG.of P) Y.nx k (fr n [(0,a),(1,b),(2,c),(3,d),(4,e)]) Y fun e i j=>(e=.normal\/e=.ret)/\∃l,mF T j i fn.results.toList=some l/\∃m g,Y.nx<=g.nx/\Gh Y.nx [nD l] j [m] g/\R m g)(r:fn.ntmps=n:=by exact rfl)(o:fn.body=some k:=by exact rfl)(q:ble 5 n=true:=by exact rfl):b7 P f [a,b,c,d,e] Y R:=Kw t.ok p o (cD (by rw[r];exact Ku<|sB q) (zF _) h)
class OY(u u':U):Prop where
 h:Wk u u'
class ub(l l':X U):Prop where
 h:qP l l'
instance(priority:=low){u:U}:OY u u:=⟨.refl u⟩
instance:OY .J (.O false []):=⟨.nil false⟩
instance{l l':X U}[q:ub l l']:OY (.agg l) (.agg l'):=⟨.agg q.h⟩
instance{l l':X U}[q:ub l l']:OY (.a7 l) (.a7 l'):=⟨.a7 q.h⟩
instance{u a:U}[q:OY u a]:OY (nD [u]) a:=⟨q.h⟩
instance{u v a:U}{l:X U}[q:OY (.a7 (u::v::l)) a]:OY (nD (u::v::l)) a:=⟨q.h⟩
instance:ub [] []:=⟨.nil⟩
instance{u d:U}{l l':X U}[a:OY u d][q:ub l l']:ub (u::l) (d::l'):=⟨.cons a.h q.h⟩
theorem lC{e:Nat->X U->Sg->Prop}{m a:Nat}(p:e m (fr n l') ⟨h',a⟩)(r:rL l l':=by((repeat refine⟨rfl,?_⟩);exact trivial))(q:Vx.cut a h=h':=by exact rfl)(i:n0<=a:=by first |exact qq _ |exact zY rfl)(o:a<=nx:=by exact zY rfl)[s:BS a l'][t:BH a h']:∃j d g,j<m+1/\e j d g/\n0<=g.nx/\Gh n0 (fr n l) ⟨h,nx⟩ d g:=⟨m,_,_,zN _,p,i,P0 r q i o⟩
theorem xC{E:X U->Sg->Prop}{a:Nat}(j:E (fr n l') ⟨h',a⟩)(o:rL l l':=by((repeat refine⟨rfl,?_⟩);exact trivial))(m:Vx.cut a h=h':=by exact rfl)(g:n0<=a:=by first |exact qq _ |exact zY rfl)(i:a<=nx:=by exact zY rfl)[p:BS a l'][q:BH a h']:∃d e,E d e/\n0<=e.nx/\Gh n0 (fr n l) ⟨h,nx⟩ d e:=⟨_,_,j,g,P0 o m g i⟩
section
variable{T:Tb}{n:Nat}{l:X (Nat×U)}{Y:Sg}{rs:X ResultVar}
theorem rT{us:X U}(g:mF T Y (fr n l) rs=some us)(e:Gh 0 [nD us] Y [u] ⟨[],0⟩)[q:BU 0 u]:(Exit.ret=.normal\/Exit.ret=.ret)/\∃l',mF T Y (fr n l) rs=some l'/\∃a d,(⟨[],0⟩:Sg).nx<=d.nx/\Gh (⟨[],0⟩:Sg).nx [nD l'] Y [a] d/\a=u/\aW 0 a:=⟨.inr rfl,us,g,u,⟨[],0⟩,zF _,e,rfl,q.h⟩
theorem kD{a:Tmp}{t:X ResultVar}{v:U}(i:rs=.tmp a::t)(h:bN n l (.tmp a)=some v)(g:t=[])(j:v=u)[q:BU 0 u]:(Exit.ret=.normal\/Exit.ret=.ret)/\∃l',mF T Y (fr n l) rs=some l'/\∃d e,(⟨[],0⟩:Sg).nx<=e.nx/\Gh (⟨[],0⟩:Sg).nx [nD l'] Y [d] e/\d=u/\aW 0 d:=by subst i;subst g;subst j;exact rT (dP h dU) (w9 _ rfl)
theorem BI{a b:Tmp}{t:X ResultVar}{v w:U}(i:rs=.tmp a :: .tmp b::t)(h:bN n l (.tmp a)=some v)(h':bN n l (.tmp b)=some w)(g:t=[])(j : .a7 [v,w]=u)[q:BU 0 u]:(Exit.ret=.normal\/Exit.ret=.ret)/\∃l',mF T Y (fr n l) rs=some l'/\∃d e,(⟨[],0⟩:Sg).nx<=e.nx/\Gh (⟨[],0⟩:Sg).nx [nD l'] Y [d] e/\d=u/\aW 0 d:=by subst i;subst g;subst j;exact rT (dP h<|dP h' dU) (w9 _ rfl)
end
theorem fR{d:U}(K a:Nat)[g:eK h K b][m:uh b][t:w7 K b a d u][q:Z1 K b a h h'][p:BU 0 u]:Gh 0 [d] ⟨h,nx⟩ [u] ⟨[],0⟩:=Gh.trans (sO K a) (w9 u rfl)
theorem wR{a:U}[w:OY a u][p:BU 0 u]:Gh 0 [a] Y [u] ⟨[],0⟩:=Gh.trans (Gh.wk<|.cons w.h .nil) (w9 u rfl)
section
variable{C:PG}{n0 n:Nat}{Q:Exit->X U->Sg->Prop}{l:X (Nat×U)}{Y:Sg}
theorem cF{i:Type}{c:He}{p q:Code}{t:FK}{a b r:V i}(O:cond t a b=r)(d:t=true->a=r->I6 C n0 p (fr n l) Y Q)(e:t=false->b=r->I6 C n0 q (fr n l) Y Q)(g:bN n l c=some (.bool t):=by exact rfl):I6 C n0 (.cond c p q) (fr n l) Y Q:=eE g (fun h=>d h<|Jm h O) (fun h=>e h<|Jn h O)
end
class MR(op:BinOp)(k:IntKind)(a:Int)(k':IntKind)(b:Int)(r:outParam Value):Prop where
 h:lI op k a k' b=some r
section
variable{k:IntKind}{a b:Int}
instance:MR .add k a k b (.int k<|k.wrap<|a+b):=⟨Fl k a b⟩
instance:MR .sub k a k b (.int k<|k.wrap<|a-b):=⟨Fa k a b⟩
instance:MR .mul k a k b (.int k<|k.wrap<|a*b):=⟨Ff k a b⟩
instance:MR .eql k a k b (.bool<|a==b):=⟨Fk k a b⟩
instance:MR .neq k a k b (.bool<|a != b):=⟨Fe k a b⟩
instance:MR .lss k a k b (.bool<|decide (a<b)):=⟨Fg k a b⟩
instance:MR .leq k a k b (.bool<|decide (a<=b)):=⟨Fh k a b⟩
instance:MR .gtr k a k b (.bool<|decide (a>b)):=⟨Fi k a b⟩
instance:MR .geq k a k b (.bool<|decide (a>=b)):=⟨Fj k a b⟩
end
class eJ(T:Tb)(t:TypeId)(d:outParam TypeDesc):Prop where
 h:T.I1 t=some d
class pX(T:Tb)(t:TypeId)(n:outParam Nat):Prop where
 h:cP T t=some n
section
variable{P:Ua}{T:Tb}{a r:X Oper}{o:Oper}{n:Nat}{l:X (Nat×U)}{Y Y':Sg}{u:U}{d:Tmp}
theorem wT{j:Nat}{b:FK}(g:o.guard=some (j,true))(i:CZ a j=some d)(m:bN n l (.tmp d)=some (.bool b))(e:b=true):cE a (fr n l) o=some true:=uy g i m e
theorem wF{j:Nat}{b:FK}(g:o.guard=some (j,false))(i:CZ a j=some d)(m:bN n l (.tmp d)=some (.bool b))(e:b=false):cE a (fr n l) o=some true:=uy g i m e
theorem wA{A:Prop}(h:A:=by first |exact rfl |exact Go.Vx.wT rfl rfl rfl (by first |with_reducible_and_instances assumption |exact rfl)|exact Go.Vx.wF rfl rfl rfl (by first |with_reducible_and_instances assumption |exact rfl)):A:=h
variable{C:PG}{K:X U->Sg->Prop}
theorem RS.w(g:o.dst=some d)(h:bJ T Y (fr n l) o.op=some (u,Y'))(i:RU C T a r (fr n ((d,u)::l)) Y' K)(j:cE a (fr n l) o=some true:=by exact Go.Vx.wA)(e:blt d n=true:=by exact rfl):RU C T a (o::r) (fr n l) Y K:=RS.op j h g e i
theorem RS.wn(e:o.dst=none)(h:bJ T Y (fr n l) o.op=some (u,Y'))(g:RU C T a r (fr n l) Y' K)(i:cE a (fr n l) o=some true:=by exact Go.Vx.wA):RU C T a (o::r) (fr n l) Y K:=RS.iI i h e g
theorem RD.w{e:X RK}{K:X RK->X U->Sg->Prop}(i:o.dst=some d)(h:bJ T Y (fr n l) o.op=some (u,Y))(j:RH P T a r (fr n ((d,u)::l)) Y ((1,⟨fr n l,o,u,false,false,Y,Y⟩)::e) K)(m:cE a (fr n l) o=some true:=by exact Go.Vx.wA)(g:blt d n=true:=by exact rfl):RH P T a (o::r) (fr n l) Y e K:=RD.look m h i g j
def Rr(n:Nat)(l:X (Nat×U))(o:Oper):V (Tmp×FuncId×X U):=match o.dst,o.op with
 |some d,.call c=>match c.callee with
  |.value f=>match bN n l f with
   |some (.fn (.func g) [] [])=>match N4 n l c.args.toList with
    |some e=>some (d,g,e)|none=>none
   |_=>none
  |_=>none
 |_,_=>none
theorem hJ{g:FuncId}{e:X U}(h:Rr n l o=some (d,g,e))(v:T.fn g=some fn)(t:fn.body.isSome=true):o.dst=some d/\kQ T (fr n l) o.op=some (g,e):=by
 unfold Rr at h;split at h
 ·next w c j m=>
  split at h
  ·next f p=>
   split at h
   ·next x q=>
    split at h
    ·next i s=>simp[zA,zB]at h;obtain⟨rfl,rfl,rfl⟩:=h;exact⟨j,by rw[m];exact qW p q v t s aZ⟩
    cases h
   cases h
  cases h
 cases h
theorem aM(h:Rr n l o=some (d,f,args))(p:b7 C.prog f args Y (fun q Y'=>q=u/\Y'=Y))(g:T.fn f=some fn)(j:RU C T a r (fr n ((d,u)::l)) Y K)(e:fn.body.isSome=true:=by exact rfl)(m:cE a (fr n l) o=some true:=by exact Go.Vx.wA)(i:blt d n=true:=by exact rfl):RU C T a (o::r) (fr n l) Y K:=RS.call m (hJ h g e).2 p (hJ h g e).1 i j
theorem RS.fc{args':X U}{e:Sg}(h:Rr n l o=some (d,f,args))(j:Gh Y.nx args Y args' e)(t:b7 C.prog f args' e (fun v Y'=>v=u/\Y'=e))(i:T.fn f=some fn)(p:RU C T a r (fr n ((d,u)::l)) e K)(q:Y.nx<=e.nx:=by exact zY rfl)(g:fn.body.isSome=true:=by exact rfl)(s:cE a (fr n l) o=some true:=by exact Go.Vx.wA)(m:blt d n=true:=by exact rfl):RU C T a (o::r) (fr n l) Y K:=RS.X7 s (hJ h i g).2 j q t (hJ h i g).1 m p
theorem dN{e:X RK}{K:X RK->X U->Sg->Prop}(h:Rr n l o=some (d,f,args))(q:∀s,b7 P f args s fun t Y'=>t=u/\Y'=s)(i:T.fn f=some fn)(m:RH P T a r (fr n ((d,u)::l)) Y ((0,⟨fr n l,o,u,false,false,Y,Y⟩)::e) K)(g:fn.body.isSome=true:=by exact rfl)(p:cE a (fr n l) o=some true:=by exact Go.Vx.wA)(j:blt d n=true:=by exact rfl):RH P T a (o::r) (fr n l) Y e K:=RD.free p (hJ h i g).2 q (hJ h i g).1 j m
end
theorem vw{a:X U}{v:Value}{i:Sg}(h:b7 P f args ⟨[],0⟩ (fun d _=>d=u/\aW 0 d))(o:Gh 0 a Y args i)[j:jQ 0 args](p:cf u=some v:=by simp only[cf,mO,I8,U6,zC]<;>rfl)(e:∀m,H3 m v=v:=by exact fun m=>by simp[H3,aL]):b7 P f a Y (fun d g=>d=u/\g=Y):=b7.view h j.h p e o
structure Hd(B:Prop):Prop where
 h:B
section
variable{C:PG}{n0:Nat}{tm:X U}{Y:Sg}{Q:Exit->X U->Sg->Prop}
theorem rg0[t:q? C T]{i:Nat}{d:Jg Oper}{L:X Oper}(h:RU C T L L tm Y (fun a e=>Q .normal a e))(g:d.toList=L):I6 C n0 (.region i d false) tm Y Q:=I6.region t.ok (by rw[g];exact h)
theorem AK[t:q? C T]{i:Nat}{d:Jg Oper}{o:Oper}{r:X Oper}(g:d.toList=o::r)(h:RU C T (o::r) (o::r) tm Y (fun a e=>Q .normal a e)):I6 C n0 (.region i d false) tm Y Q:=rg0 h g
end
section
variable{C:PG}{T:Tb}{e r:X Oper}{o:Oper}{n:Nat}{l:X (Nat×U)}{Y Y':Sg}{u:U}{K:X U->Sg->Prop}{d:Tmp}
theorem RS.nt{j:Nat}{b:FK}{a:Tmp}(p:o.guard=some (j,true))(q:CZ e j=some a)(t:bN n l (.tmp a)=some (.bool b))(g:b=false)(m:o.dst=some d)(i:blt d n=true)(s:RU C T e r (fr n ((d,.a7 [])::l)) Y K):RU C T e (o::r) (fr n l) Y K:=RS.no (uz p q t g) m i s
theorem RS.nf{j:Nat}{b:FK}{a:Tmp}(p:o.guard=some (j,false))(q:CZ e j=some a)(t:bN n l (.tmp a)=some (.bool b))(g:b=true)(m:o.dst=some d)(i:blt d n=true)(s:RU C T e r (fr n ((d,.a7 [])::l)) Y K):RU C T e (o::r) (fr n l) Y K:=RS.no (uz p q t g) m i s
variable{x:He}
theorem RS.mo(j:o.op=.move x)(p:bN n l x=some u)(g:o.dst=some d)(m:cE e (fr n l) o=some true)(a:blt d n=true)(i:RU C T e r (fr n ((d,u)::l)) Y K):RU C T e (o::r) (fr n l) Y K:=RS.w g (by rw[j];exact jA p) i m a
theorem RS.in{op:BinOp}{t A:TypeId}{y:He}{k g:IntKind}{a b:Int}{v:Value}(p:o.op=.binOp op t x y A)(s:bN n l x=some (.int k a))(z:bN n l y=some (.int g b))[h:MR op k a g b v](D:kS v=some u)(j:o.dst=some d)(q:cE e (fr n l) o=some true)(i:blt d n=true)(m:RU C T e r (fr n ((d,u)::l)) Y K):RU C T e (o::r) (fr n l) Y K:=RS.w j (by rw[p];exact xV s z h.h D) m q i
theorem RS.DK{c a b:He}{t:FK}(p:o.op=.pick c a b)(g:bN n l c=some (.bool t))(q:t=true)(h:bN n l a=some u)(j:o.dst=some d)(s:cE e (fr n l) o=some true)(i:blt d n=true)(m:RU C T e r (fr n ((d,u)::l)) Y K):RU C T e (o::r) (fr n l) Y K:=RS.w j (by rw[p];exact qy8 g q h) m s i
theorem RS.p0{c a b:He}{t:FK}(p:o.op=.pick c a b)(g:bN n l c=some (.bool t))(q:t=false)(h:bN n l b=some u)(j:o.dst=some d)(s:cE e (fr n l) o=some true)(i:blt d n=true)(m:RU C T e r (fr n ((d,u)::l)) Y K):RU C T e (o::r) (fr n l) Y K:=RS.w j (by rw[p];exact qy7 g q h) m s i
theorem RS.ex{i:Nat}{q:X U}(m:o.op=.extract x i)(s:bN n l x=some (.a7 q))(h:nth q i=some u)(g:o.dst=some d)(p:cE e (fr n l) o=some true)(a:blt d n=true)(j:RU C T e r (fr n ((d,u)::l)) Y K):RU C T e (o::r) (fr n l) Y K:=RS.w g (by rw[m];exact zaq s h) j p a
theorem RS.un{op:UnOp}{t:TypeId}{v:U}{v1 a:Value}(m:o.op=.unOp op t x)(y:bN n l x=some v)(h:cf v=some v1)(q:TX op v1=some a)(p:kS a=some u)(i:o.dst=some d)(s:cE e (fr n l) o=some true)(g:blt d n=true)(j:RU C T e r (fr n ((d,u)::l)) Y K):RU C T e (o::r) (fr n l) Y K:=RS.w i (by rw[m];exact W4 y h q p) j s g
theorem RS.a(m:o.op=.assign x)(q:bN n l x=some u)(i:o.dst=some d)(p:cE e (fr n l) o=some true)(g:blt d n=true)(j:RU C T e r (fr n ((d,u)::l)) Y K):RU C T e (o::r) (fr n l) Y K:=RS.as p m q i j g
end
class iE(T:Tb)(t:TypeId)(a b:outParam Nat)(z:outParam Value):Prop where
 h:T.inf t=some (a,b,z)
instance{T:Tb}{t:TypeId}{a b:Nat}{z:Value}[q:iE T t a b z]:pX T t a:=⟨aV q.h⟩
class pL(T:Tb)(t:TypeId)(zu:outParam (X U)):Prop where
 h:∃a b z,T.inf t=some (a,b,z)/\rN z.cells.toList=some zu/\I8 zu=true
class F9(u:U)(cs:outParam (X U)):Prop where
 h:xX u=some cs
instance{l:X U}:F9 (.agg l) l:=⟨rfl⟩
instance{k:IntKind}{z:Int}:F9 (.int k z) [.int k z]:=⟨rfl⟩
instance{b:FK}:F9 (.bool b) [.bool b]:=⟨rfl⟩
instance{s:X Yv}:F9 (.str s) [.str s]:=⟨rfl⟩
instance{t:FK}{l:X (X U)}:F9 (.O t l) [.O t l]:=⟨rfl⟩
instance{k st off:Nat}:F9 (.ptr k st off) [.ptr k st off]:=⟨rfl⟩
instance{k st off n:Nat}:F9 (.vl k st off n) [.vl k st off n]:=⟨rfl⟩
instance{k off n c:Nat}:F9 (.sl k off n c) [.sl k off n c]:=⟨rfl⟩
instance{k:Nat}:F9 (.map k) [.map k]:=⟨rfl⟩
instance{f:Fn}{a c:X U}:F9 (.fn f a c) [.fn f a c]:=⟨rfl⟩
class IQ(q:X U)(off n:Nat)(cs:outParam (X U)):Prop where
 h:mD q off n=some cs
instance{q:X U}:IQ q 0 0 []:=⟨by simp[mD]⟩
instance{a:U}{q cs:X U}{n:Nat}[s:IQ q 0 n cs]:IQ (a::q) 0 (n+1) (a::cs):=⟨by
 have:=s.h;unfold mD at*;split at this
 ·next h=>cases this;rw[lr (by simp at*;omega)];simp
 cases this⟩
instance{a:U}{q cs:X U}{o n:Nat}[s:IQ q o n cs]:IQ (a::q) (o+1) n cs:=⟨by
 have:=s.h;unfold mD at*;split at this
 ·next h=>cases this;rw[lr (by simp at*;omega)];simp
 cases this⟩
instance(priority:=low){a:Type}{c:a->X U}{x:a}{sz:Nat}[q:gX c sz]:IQ (c x) 0 sz (c x):=⟨by
 unfold mD;rw[lr (by rw[q.h];omega),Za,zW (by rw[q.h];exact zF _)]⟩
class Rk(q:X U)(n:Nat):Prop where
 h:q.length=n
instance:Rk [] 0:=⟨rfl⟩
instance{a:U}{q:X U}{n:Nat}[s:Rk q n]:Rk (a::q) (n+1):=⟨by simp[s.h]⟩
class MQ(q:X U)(off:Nat)(cs:X U)(q':outParam (X U)):Prop where
 h:sV q off cs=some q'
instance{q:X U}:MQ q 0 [] q:=⟨by simp[sV]⟩
instance{a b:U}{q cs q':X U}[s:MQ q 0 cs q']:MQ (a::q) 0 (b::cs) (b::q'):=⟨by
 have:=s.h;unfold sV at*;split at this
 ·next h=>cases this;rw[lr (by simp at*;omega)];simp
 cases this⟩
instance{a:U}{q cs q':X U}{o:Nat}[s:MQ q o cs q']:MQ (a::q) (o+1) cs (a::q'):=⟨by
 have:=s.h;unfold sV at*;split at this
 ·next h=>cases this;rw[lr (by simp at*;omega)];simp[show o+1+cs.length=(o+cs.length)+1 by omega]
 cases this⟩
instance(priority:=low){a:Type}{c:a->X U}{x:a}{sz:Nat}{q:X U}[s:gX c sz][t:Rk q sz]:MQ q 0 (c x) (c x):=⟨by
 unfold sV;have d:=s.h x;have e:=t.h;rw[lr af,Gk af];simp⟩
class z?(a b:X U)(c:outParam (X U)):Prop where
 h:a++b=c
instance{b:X U}:z? [] b b:=⟨rfl⟩
instance{x:U}{a b c:X U}[s:z? a b c]:z? (x::a) b (x::c):=⟨by rw[Zg,s.h]⟩
class r?(pl:X (Nat×Nat))(i:Nat)(o s:outParam Nat):Prop where
 h:nth pl i=some (o,s)
instance{o s:Nat}{a:X (Nat×Nat)}:r? ((o,s)::a) 0 o s:=⟨rfl⟩
instance{a:Nat×Nat}{i o s:Nat}{d:X (Nat×Nat)}[q:r? d i o s]:r? (a::d) (i+1) o s:=⟨q.h⟩
variable{zu:X U}{q':X U}{cs:X U}{s:Nat}{qs:X (Nat×U)}
theorem za6{place:Nat->V (Nat×Nat)}{a:X U}{i o:Nat}{v:U}(g:place i=some (o,s))(d:xX v=some a)(e:a.length=s)(j:sV zu o a=some q')(m:tC place q' qs=some cs):tC place zu ((i,v)::qs)=some cs:=by
 have:Nat.beq a.length s=true:=by simp[beq_eq,e]
 simp[tC,g,d,this,zC,j,m]
class y?(pl:X (Nat×Nat))(zu:X U)(qs:X (Nat×U))(cs:outParam (X U)):Prop where
 h:tC (nth pl) zu qs=some cs
instance{a:X (Nat×Nat)}{zu:X U}:y? a zu [] zu:=⟨rfl⟩
instance{a:X (Nat×Nat)}{zu q' cs c0:X U}{i o s:Nat}{v:U}{qs:X (Nat×U)}[p:r? a i o s][c:F9 v c0][l:Rk c0 s][q:MQ zu o c0 q'][r:y? a q' qs cs]:y? a zu ((i,v)::qs) cs:=⟨za6 p.h c.h l.h q.h r.h⟩
class u?(a b:Nat)(c:outParam Nat):Prop where
 h:a*b=c
instance{b:Nat}:u? 0 b 0:=⟨my b⟩
instance{b:Nat}:u? 1 b b:=⟨Nat.one_mul b⟩
instance{a:Nat}:u? (a+2) 1 (a+2):=⟨JA _⟩
class x?(s:Nat)(zu:X U)(qs:X (Nat×U))(cs:outParam (X U)):Prop where
 h:tC (fun i=>some (i*s,s)) zu qs=some cs
instance{s:Nat}{zu:X U}:x? s zu [] zu:=⟨rfl⟩
instance{zu q' cs c0:X U}{i o s:Nat}{v:U}{qs:X (Nat×U)}[m:u? i s o][c:F9 v c0][l:Rk c0 s][q:MQ zu o c0 q'][r:x? s q' qs cs]:x? s zu ((i,v)::qs) cs:=⟨za6 (by rw[m.h]) c.h l.h q.h r.h⟩
class m?(z:X U)(k:Nat)(zs:outParam (X U)):Prop where
 h:zE z k=zs
instance{z:X U}:m? z 0 []:=⟨rfl⟩
instance{z a b:X U}{k:Nat}[q:m? z k a][p:z? z a b]:m? z (k+1) b:=⟨by
 have:=q.h;have:=p.h;simp[zE,Gi,YP]at*;simp_all⟩
class gf{v12:Type}(c:v12->X U)(cs:X U)(x:outParam v12):Prop where
 h:c x=cs
instance{k:IntKind}{z:Int}:gf (cI k) [.int k z] z:=⟨rfl⟩
instance{s:X Yv}:gf cS [.str s] s:=⟨rfl⟩
instance{a:Type}{c:a->X U}{l:X a}:gf (cL c) [.O false<|l.map c] l:=⟨rfl⟩
instance(priority:=low){a:Type}{c:a->X U}{x:a}:gf c (c x) x:=⟨rfl⟩
instance(priority:=low){a:Type}{c:a->X U}{x:a}:YW (c x) (c x):=⟨qP.refl _⟩
class w8(T:Tb)(t:TypeId)(zu:outParam (X U))(pl:outParam (X (Nat×Nat))):Prop where
 h:BdT T t zu pl
class ca(a:Nat)(b:outParam Nat):Prop where
 h:a+1=b
instance:ca 0 1:=⟨rfl⟩
instance:ca 1 2:=⟨rfl⟩
instance:ca 2 3:=⟨rfl⟩
instance:ca 3 4:=⟨rfl⟩
instance:ca 4 5:=⟨rfl⟩
instance:ca 5 6:=⟨rfl⟩
instance:ca 6 7:=⟨rfl⟩
instance:ca 7 8:=⟨rfl⟩
instance:ca 8 9:=⟨rfl⟩
instance:ca 9 10:=⟨rfl⟩
instance:ca 10 11:=⟨rfl⟩
instance:ca 12 13:=⟨rfl⟩
instance:ca 13 14:=⟨rfl⟩
class AJ(a b:Nat)(c:outParam Nat):Prop where
 h:a+b=c
instance(priority:=low){a b:Nat}:AJ a b (a+b):=⟨rfl⟩
instance{b:Nat}:AJ 0 b b:=⟨Ty b⟩
class s?(a:Nat)(b:outParam Nat):Prop where
 h:a+1=b
instance{a b:Nat}[q:ca a b]:s? a b:=⟨q.h⟩
instance(priority:=low){a:Nat}:s? a (a+1):=⟨rfl⟩
section
variable{T:Tb}{n:Nat}{l:X (Nat×U)}{h h':X (Nat×B)}{nx nx':Nat}{u v w:U}{op:Op}{e:TypeId}
theorem EU(o:op=.alloc e)[z:pL T e zu][m:ca nx nx']:bJ T ⟨h,nx⟩ (fr n l) op=some (.ptr nx 0 0,⟨(nx,.row zu e)::h,nx'⟩):=by subst o;have d:=m.h;subst d;have⟨a,b,q,g,i,j⟩:=z.h;exact qy5 g i j
variable{x:He}
theorem ET(i:op=.box e x)(j:bN n l x=some v)[c:F9 v cs](d:I8 cs=true)[g:ca nx nx']:bJ T ⟨h,nx⟩ (fr n l) op=some (.ptr nx 0 0,⟨(nx,.row cs e)::h,nx'⟩):=by subst i;have a:=g.h;subst a;exact Em j c.h d
variable{t:TypeId}{a:He}{k:Nat}{off:Nat}{sz:Nat}{q:X U}
theorem EX(m:op=.store t a x)(d:bN n l a=some (.ptr k 0 off))(o:bN n l x=some v)[g:eK h k (.row q e)][s:pX T t sz][c:F9 v cs][p:MQ q off cs q'][w:YX h k (.row q' e) h'](j:Nat.beq cs.length sz=true)(i:I8 cs=true):bJ T ⟨h,nx⟩ (fr n l) op=some (.J9,⟨h',nx⟩):=by subst m;refine qy9 s.h d o c.h j i (q:=q) (q':=q') ?_ ?_ ?_;simp only[cellsOf,g.h];rfl;simp[HD,g.h];exact p.h;simp[PY,g.h,w.h]
variable{d:TypeDesc}
theorem EJ(m:op=.load t x)(o:bN n l x=some (.ptr k 0 off))[j:eJ T t d](i:sG d=true)[g:eK h k (.row q e)][s:pX T t sz][p:IQ q off sz cs]:bJ T ⟨h,nx⟩ (fr n l) op=some (.agg cs,⟨h,nx⟩):=by subst m;exact kR j.h i s.h o (by simp only[cellsOf,g.h];rfl) p.h
theorem D_(m:op=.load t x)(p:bN n l x=some (.ptr k 0 off))[j:eJ T t d](i:sG d=false)[g:eK h k (.row q e)](o:nth q off=some u):bJ T ⟨h,nx⟩ (fr n l) op=some (u,⟨h,nx⟩):=by subst m;exact uE j.h i p (by simp only[cellsOf,g.h];rfl) o
theorem EM(j:op=.load t x)(m:bN n l x=some (.b4 q))[i:eJ T t d](g:sG d=true)[s:pX T t sz][p:IQ q 0 sz cs]:bJ T ⟨h,nx⟩ (fr n l) op=some (.agg cs,⟨h,nx⟩):=by subst j;exact zak i.h g s.h m p.h
theorem DZ(j:op=.load t x)(o:bN n l x=some (.b4 q))[i:eJ T t d](g:sG d=false)(m:nth q 0=some u):bJ T ⟨h,nx⟩ (fr n l) op=some (u,⟨h,nx⟩):=by subst j;exact Ug i.h g o m
theorem EI{f:Nat}{m:Jg Field}{j:Field}{i:Nat}(y:op=.fieldAddr t x f)(A:bN n l x=some (.ptr k 0 off))[p:eJ T t (.struct m)][g:eK h k (.row q e)](r:nth m.toList f=some j)(z:cP T j.type=some (s+1))(o:off+j.offset=i):bJ T ⟨h,nx⟩ (fr n l) op=some (.ptr k 0 i,⟨h,nx⟩):=by subst y;exact oW p.h r z A (by simp[live,g.h];rfl) o
theorem EH{f:Nat}{i:Jg Field}{g:Field}(o:op=.fieldAddr t x f)(y:bN n l x=some (.b4 q))[j:eJ T t (.struct i)](m:nth i.toList f=some g)(r:cP T g.type=some (s+1))(p:q.drop g.offset=q'):bJ T ⟨h,nx⟩ (fr n l) op=some (.b4 q',⟨h,nx⟩):=by subst o;exact E? j.h m r y p
variable{f:Type}{c:f->X U}{b:FK}{xs:X f}
theorem xL{i:He}{k:IntKind}{z:Int}{y:f}(o:op=.indexAddr t x i)(r:bN n l x=some (.O b<|xs.map c))(m:bN n l i=some (.int k z))[j:eJ T t (.slice e)][p:pX T e sz][g:gX c sz](A:aB xs z=some y):bJ T ⟨h,nx⟩ (fr n l) op=some (.b4<|c y,⟨h,nx⟩):=by subst o;exact cV r m (Lz c j.h p.h g.h A rfl)
variable{args:Jg He}{ts:Jg TypeId}
theorem EN{q:X TypeId}(j:op=.call { callee:=.builtin .len,args:=args,argTypes:=ts })(g:args.toList=[x])(m:ts.toList=t::q)(o:bN n l x=some (.O b<|xs.map c))[i:eJ T t (.slice e)]:bJ T ⟨h,nx⟩ (fr n l) op=some (.int .i64 xs.length,⟨h,nx⟩):=by subst j;exact HP g m o (qvb c i.h)
theorem EO{i:TypeId}{q:X TypeId}{K st m:Nat}(p:op=.call { callee:=.builtin .len,args:=args,argTypes:=ts })(j:args.toList=[x])(r:ts.toList=t::q)(y:bN n l x=some (.vl K st 0 m))[o:eJ T t (.slice e)][g:eK h K (.vec cs i sz st)]:bJ T ⟨h,nx⟩ (fr n l) op=some (.int .i64 m,⟨h,nx⟩):=by subst p;exact HP j r y (z2z o.h g.h)
theorem FA{g:X (Nat×Nat)}{i:Jg (Nat×He)}(o:op=.build t i)[q:w8 T t zu g](j:E9 n l i.toList=some qs)(c:y? g zu qs cs)(m:I8 cs=true):bJ T ⟨h,nx⟩ (fr n l) op=some (.agg cs,⟨h,nx⟩):=by subst o;exact gv q.h j c.h m
variable{z:Value}
theorem GI{b:Nat}{m:X U}{j:Jg (Nat×He)}(F:op=.buildSlice t k j)(C:E9 n l j.toList=some qs)[A:eJ T t (.slice e)][i:iE T e sz b z][G:pL T e zu](H:m? zu k m)(c:x? sz m qs cs)(D:I8 cs=true)(p:ble (k*sz) 16777216=true)(r:ble k 16777216=true)(y:Nat.beq z.cells.toList.length sz=true)(E:ca nx nx'):bJ T ⟨h,nx⟩ (fr n l) op=some (.sl nx 0 k k,⟨(nx,.row cs e)::h,nx'⟩):=by subst F;have o:=E.h;subst o;have⟨a,I,q,g1,g2,J⟩:=G.h;have g:=i.h;rw[g1]at g;cases g;exact vQ A.h i.h C p r y g2 (by rw[H.h];exact c.h) D
variable{Y:Sg}
theorem FE(g:op=.move x)(i:bN n l x=some u):bJ T Y (fr n l) op=some (u,Y):=by subst g;exact jA i
theorem FF(g:op=.assign x)(i:bN n l x=some u):bJ T Y (fr n l) op=some (u,Y):=by subst g;exact PE i
variable{y:He}
theorem FG{b:BinOp}{A:TypeId}{k g:IntKind}{i j:Int}{r:Value}(m:op=.binOp b t x y A)(o:bN n l x=some (.int k i))(p:bN n l y=some (.int g j))[q:MR b k i g j r](C:kS r=some u):bJ T Y (fr n l) op=some (u,Y):=by subst m;exact xV o p q.h C
theorem GC{c b:He}{t:FK}(i:op=.pick c a b)(g:bN n l c=some (.bool t))(j:t=true)(m:bN n l a=some u):bJ T Y (fr n l) op=some (u,Y):=by subst i;exact qy8 g j m
theorem GF{c b:He}{t:FK}(i:op=.pick c a b)(g:bN n l c=some (.bool t))(j:t=false)(m:bN n l b=some u):bJ T Y (fr n l) op=some (u,Y):=by subst i;exact qy7 g j m
theorem FL{i:Nat}(g:op=.extract x i)(m:bN n l x=some (.a7 q))(j:nth q i=some u):bJ T Y (fr n l) op=some (u,Y):=by subst g;exact zaq m j
theorem GH{b:UnOp}{v1 g:Value}(m:op=.unOp b t x)(p:bN n l x=some v)(i:cf v=some v1)(j:TX b v1=some g)(o:kS g=some u):bJ T Y (fr n l) op=some (u,Y):=by subst m;exact W4 p i j o
theorem GJ{E C G:TypeId}{a st A K r j o:Nat}{m:f}{p:X U}(J:op=.call { callee:=.builtin .append,args:=args,argTypes:=ts })(H:args.toList=[x,y])(M:ts.toList=[t,E])(N:bN n l x=some (.vl a st 0 xs.length))(O:bN n l y=some (.sl K 0 1 1))[d1:eJ T t (.slice e)][d2:eJ T E (.slice G)][g:eK h a (.vec (xs.map c).flatten e r st)][i:iE T e j o z][g2:eK h K (.row q C)][s:IQ q 0 j cs][w:YW cs p][d:gf c p m][S:gX c j][D:s? st A][ug:YX h a (.vec (List.map c<|xs++[m]).flatten e j A) h'](F:r=j)(L:ble 1 j=true)(I:yN cs=(List.map c [m]).flatten)(Q:Nat.beq z.cells.toList.length j=true)(V:(xs.length+1)*o<=140737488355328/\xs.length+1<=140737488355328):bJ T ⟨h,nx⟩ (fr n l) op=some (.vl a A 0 (xs++[m]).length,⟨h',nx⟩):=by subst J;subst F;obtain⟨sz,rfl⟩:∃sz,r=sz+1:=⟨r-1,by have:=zY L;omega⟩;have C:=D.h;subst C;have:=qV (Y:=⟨h,nx⟩) H M N O (ED c [m] d1.h d2.h i.h Q S.h g.h (FU c [m] (q:=q) (by simp[rowOf,g2.h]) (by rw[Nat.one_mul];exact s.h) rfl I) V);rw[ug.h]at this;exact this
theorem wS{C F:TypeId}{a st p o j m:Nat}{ys:X f}(H:op=.call { callee:=.builtin .append,args:=args,argTypes:=ts })(G:args.toList=[x,y])(J:ts.toList=[t,C])(K:bN n l x=some (.vl a st 0 xs.length))(L:bN n l y=some (.O b<|ys.map c))[d1:eJ T t (.slice e)][d2:eJ T C (.slice F)][g:eK h a (.vec (xs.map c).flatten e o st)][i:iE T e j m z][A:gX c j][r:s? st p][ug:YX h a (.vec (List.map c<|xs++ys).flatten e j p) h'](D:o=j)(I:ble 1 j=true)(M:Nat.beq z.cells.toList.length j=true)(N:(xs.length+ys.length)*m<=140737488355328/\xs.length+ys.length<=140737488355328):bJ T ⟨h,nx⟩ (fr n l) op=some (.vl a p 0 (xs++ys).length,⟨h',nx⟩):=by subst H;subst D;obtain⟨sz,rfl⟩:∃sz,o=sz+1:=⟨o-1,by have:=zY I;omega⟩;have E:=r.h;subst E;have:=qV (Y:=⟨h,nx⟩) G J K L<|ED c ys d1.h d2.h i.h M A.h g.h (QB c A.h) N;rw[ug.h]at this;exact this
end
variable{A:Prop}
theorem vG (h:A:=by first
 |exact Go.Vx.DZ rfl rfl rfl rfl
 |exact Go.Vx.D_ rfl rfl rfl rfl
 |exact Go.Vx.EH rfl rfl (by exact rfl) (by exact Go.Vx.pX.h) (by exact rfl)
 |exact Go.Vx.EI rfl rfl (by exact rfl) (by exact Go.Vx.pX.h) (by exact Go.Vx.AJ.h)
 |exact Go.Vx.EJ rfl rfl rfl
 |exact Go.Vx.EM rfl rfl rfl
 |exact Go.Vx.EN rfl rfl rfl rfl
 |exact Go.Vx.EO rfl rfl rfl rfl
 |exact Go.Vx.ET rfl rfl rfl
 |exact Go.Vx.EU rfl
 |exact Go.Vx.EX rfl rfl rfl rfl rfl
 |exact Go.Vx.FA rfl rfl (by exact inferInstance) rfl):A:=h
theorem iW (h:A:=by first
 |exact Go.Vx.FE rfl rfl
 |exact Go.Vx.FF rfl rfl
 |exact Go.Vx.FG rfl rfl rfl rfl
 |exact Go.Vx.FL rfl rfl rfl
 |exact Go.Vx.GC rfl rfl (by first |with_reducible_and_instances assumption |exact rfl) rfl
 |exact Go.Vx.GF rfl rfl (by first |with_reducible_and_instances assumption |exact rfl) rfl
 |exact Go.Vx.GH rfl rfl rfl rfl rfl
 |exact Go.Vx.vG):A:=h
theorem xG (h:A:=by first
 |exact Go.Vx.GI rfl rfl (by exact inferInstance) (by exact inferInstance) rfl rfl rfl rfl (by exact inferInstance)
 |exact Go.Vx.GJ rfl rfl rfl rfl rfl rfl rfl rfl rfl (by with_reducible assumption)
 |exact Go.Vx.wS rfl rfl rfl rfl rfl rfl rfl rfl (by with_reducible assumption)
 |exact Go.Vx.vG):A:=h
section
variable{T:Tb}{a r:X Oper}{o:Oper}{n:Nat}{l:X (Nat×U)}{Y Y':Sg}{u:U}{C:PG}{K:X U->Sg->Prop}{d:Tmp}
theorem bP(i:RU C T a r (fr n ((d,u)::l)) Y' K)(h:bJ T Y (fr n l) o.op=some (u,Y'):=by exact Go.Vx.xG)(g:o.dst=some d:=by exact rfl)(j:cE a (fr n l) o=some true:=by exact Go.Vx.wA)(e:blt d n=true:=by exact rfl):RU C T a (o::r) (fr n l) Y K:=RS.op j h g e i
variable{P:Ua}{c:X RK}{K:X RK->X U->Sg->Prop}
theorem dM(i:RH P T a r (fr n ((d,u)::l)) Y' ((3,⟨fr n l,o,u,true,true,Y,Y'⟩)::c) K)(h:bJ T Y (fr n l) o.op=some (u,Y'):=by exact Go.Vx.xG)(g:o.dst=some d:=by exact rfl)(j:cE a (fr n l) o=some true:=by exact Go.Vx.wA)(e:blt d n=true:=by exact rfl):RH P T a (o::r) (fr n l) Y c K:=RD.act j h g e i
theorem qB(g:RH P T a r (fr n l) Y' ((3,⟨fr n l,o,u,true,true,Y,Y'⟩)::c) K)(h:bJ T Y (fr n l) o.op=some (u,Y'):=by exact Go.Vx.xG)(e:o.dst=none:=by exact rfl)(i:cE a (fr n l) o=some true:=by exact Go.Vx.wA):RH P T a (o::r) (fr n l) Y c K:=Z2 i h e g
theorem RD.ou(i:RH P T a r (fr n ((d,u)::l)) Y ((1,⟨fr n l,o,u,false,false,Y,Y⟩)::c) K)(h:bJ T Y (fr n l) o.op=some (u,Y):=by exact Go.Vx.iW)(g:o.dst=some d:=by exact rfl)(j:cE a (fr n l) o=some true:=by exact Go.Vx.wA)(e:blt d n=true:=by exact rfl):RH P T a (o::r) (fr n l) Y c K:=RD.look j h g e i
theorem RD.nt{e:Tmp}{j:Nat}{b:FK}(p:o.guard=some (j,true))(q:CZ a j=some e)(v:bN n l (.tmp e)=some (.bool b))(g:b=false)(m:o.dst=some d)(t:RH P T a r (fr n ((d,.a7 [])::l)) Y ((0,⟨fr n l,o,.a7 [],false,false,Y,Y⟩)::c) K)(i:blt d n=true:=by exact rfl):RH P T a (o::r) (fr n l) Y c K:=RD.no (uz p q v g) m i t
theorem RD.nf{e:Tmp}{j:Nat}{b:FK}(p:o.guard=some (j,false))(q:CZ a j=some e)(v:bN n l (.tmp e)=some (.bool b))(g:b=true)(m:o.dst=some d)(t:RH P T a r (fr n ((d,.a7 [])::l)) Y ((0,⟨fr n l,o,.a7 [],false,false,Y,Y⟩)::c) K)(i:blt d n=true:=by exact rfl):RH P T a (o::r) (fr n l) Y c K:=RD.no (uz p q v g) m i t
theorem c8{K:X U->Sg->Prop}{e:Type}{i:X e}{z:Int}{y:e}(g:aB i z=some y)(p:RU C T a r (fr n ((d,u)::l)) Y K)(h:aB i z=some y->bJ T Y (fr n l) o.op=some (u,Y):=by intro g;exact Go.Vx.xL rfl rfl rfl g)(m:o.dst=some d:=by exact rfl)(q:cE a (fr n l) o=some true:=by exact Go.Vx.wA)(j:blt d n=true:=by exact rfl):RU C T a (o::r) (fr n l) Y K:=RS.op q (h g) m j p
theorem dQ{e:Type}{i:X e}{z:Int}{y:e}(g:aB i z=some y)(p:RH P T a r (fr n ((d,u)::l)) Y ((1,⟨fr n l,o,u,false,false,Y,Y⟩)::c) K)(h:aB i z=some y->bJ T Y (fr n l) o.op=some (u,Y):=by intro g;exact Go.Vx.xL rfl rfl rfl g)(m:o.dst=some d:=by exact rfl)(q:cE a (fr n l) o=some true:=by exact Go.Vx.wA)(j:blt d n=true:=by exact rfl):RH P T a (o::r) (fr n l) Y c K:=RD.look q (h g) m j p
theorem RS.ou{K:X U->Sg->Prop}(i:RU C T a r (fr n ((d,u)::l)) Y' K)(h:bJ T Y (fr n l) o.op=some (u,Y'):=by exact Go.Vx.vG)(g:o.dst=some d:=by exact rfl)(j:cE a (fr n l) o=some true:=by exact Go.Vx.wA)(e:blt d n=true:=by exact rfl):RU C T a (o::r) (fr n l) Y K:=RS.op j h g e i
theorem RS.oz{K:X U->Sg->Prop}(g:RU C T a r (fr n l) Y' K)(h:bJ T Y (fr n l) o.op=some (u,Y'):=by exact Go.Vx.vG)(e:o.dst=none:=by exact rfl)(i:cE a (fr n l) o=some true:=by exact Go.Vx.wA):RU C T a (o::r) (fr n l) Y K:=RS.iI i h e g
end
theorem gd{B:Prop}(h:B) (g:Hd B->A:=by
 intro h
 repeat' first
  |(refine Go.Vx.RD.nt rfl rfl rfl ?_ rfl ?_;· first |with_reducible_and_instances assumption |exact rfl)
  |(refine Go.Vx.RD.nf rfl rfl rfl ?_ rfl ?_;· first |with_reducible_and_instances assumption |exact rfl)
  |refine Go.Vx.RD.ou ?_
 exact h.h):A:=g ⟨h⟩
theorem gs{B: Prop}(h:B) (g:Hd B->A:=by
  intro h
  first
    |refine Go.Vx.gq ?_
    |with_reducible refine Go.Vx.sq ?_
    |with_reducible refine Go.Vx.I6.skip ?_
    |with_reducible refine Go.Vx.RS.done ?_
    |with_reducible refine Go.Vx.I6.ret ?_
    |with_reducible refine Go.Vx.I6.exit ?_
    |(refine Go.Vx.RS.nt rfl rfl rfl ?_ rfl rfl ?_;· first |with_reducible_and_instances assumption |exact rfl)
    |(refine Go.Vx.RS.nf rfl rfl rfl ?_ rfl rfl ?_;· first |with_reducible_and_instances assumption |exact rfl)
    |(refine Go.Vx.RS.mo rfl rfl rfl ?_ rfl ?_;· exact Go.Vx.wA)
    |(refine Go.Vx.RS.in rfl rfl rfl rfl rfl ?_ rfl ?_;· exact Go.Vx.wA)
    | (refine Go.Vx.RS.DK rfl rfl ?_ rfl rfl ?_ rfl ?_; · first | with_reducible_and_instances assumption | exact rfl
       exact Go.Vx.wA)
    | (refine Go.Vx.RS.p0 rfl rfl ?_ rfl rfl ?_ rfl ?_; · first | with_reducible_and_instances assumption | exact rfl
       exact Go.Vx.wA)
    |(refine Go.Vx.RS.a rfl rfl rfl ?_ rfl ?_;· exact Go.Vx.wA)
    |(refine Go.Vx.RS.ex rfl rfl rfl rfl ?_ rfl ?_;· exact Go.Vx.wA)
    |(refine Go.Vx.RS.un rfl rfl rfl rfl rfl rfl ?_ rfl ?_;· exact Go.Vx.wA)
    |refine Go.Vx.RS.ou ?_
    |refine Go.Vx.RS.oz ?_
  exact h.h):A:=g ⟨h⟩
theorem go{B:Prop}(h:B)(g:Hd B->A:=by intro h;(repeat' first |refine Go.Vx.gs ?_ |refine Go.Vx.AK rfl ?_);exact h.h):A:=g ⟨h⟩
theorem gn{B:Prop}(h:B)(g:Hd B->A:=by intro h;(repeat' refine Go.Vx.gs ?_);exact h.h):A:=g ⟨h⟩
theorem gr{B:Prop}(h:B)(g:Hd B->A:=by intro h;refine Go.Vx.gn ?_;refine Go.Vx.AK rfl ?_;refine Go.Vx.gn ?_;exact h.h):A:=g ⟨h⟩
theorem gx{d:Type}{a b:d}(h:some a=some b)(g:a=b->A:=by intro e;subst e;refine Go.Vx.go ?_;exact Go.Vx.kD rfl rfl rfl rfl):A:=g (sI h)
theorem gy{d:Type}{a b:d}(h:some a=some b)(g:a=b->A:=by intro e;subst e;refine Go.Vx.go ?_;exact Go.Vx.xC ⟨rfl,rfl⟩):A:=g (sI h)
theorem gB{d:Type}{t:FK}{a b r:V d}(h:cond t a b=r):(t=true/\a=r)\/(t=false/\b=r):=by cases t;exact .inr ⟨rfl,h⟩;exact .inl ⟨rfl,h⟩
abbrev B.bv{a:Type}(c:a->X U)(l:X a)(e:TypeId)(d st:Nat):B:=.vec (l.map c).flatten e d st
abbrev dB(P:Ua)(f:FuncId)(args:X U)(u:U):Prop:=b7 P f args ⟨[],0⟩ (fun a _=>a=u/\aW 0 a)
section
variable{C:PG}{n0 n:Nat}{Q:Exit->X U->Sg->Prop}{l:X (Nat×U)}{h:X (Nat×B)}{nx:Nat}{c:Code}
theorem gV(i:Nat)(e:TypeId)(a d:Nat)(p:I6 C n0 c (fr n ((i,.vl nx 0 0 0)::l)) ⟨(nx,.vec [] e a 0)::h,d⟩ Q)(j:bN n l (.tmp i)=some .J:=by exact rfl)(o:blt 0 a=true:=by exact rfl)(m:nx+1=d:=by exact rfl)(h0:n0<=nx:=by first |exact qq _ |exact zY rfl)(g:h? n (some i)=true:=by exact rfl):I6 C n0 c (fr n l) ⟨h,nx⟩ Q:=by subst m;refine cD (Gh.nF i e a ?_ h0 j g) (Zu h0) p;exact lt_of_succ_le (zY o)
theorem gL{l':X (Nat×U)}{Y:Sg}{id:Nat}(a:Nat->X U->Sg->Prop)(E:X U->Sg->Prop)(k:Nat)(p:a k (fr n l') Y)
  (out:∀d Y,E d Y->Q .normal d Y)
  (round:∀m d Y,a m d Y->I6 C n0 c d Y (BP (fun g o=>∃j i e,j<m/\a j i e/\n0<=e.nx/\Gh n0 g o i e)<|wK id<|CV n0 E Q))
  (q:n0<=Y.nx:=by first |exact qq _ |exact zY rfl) (r:rL l l':=by((repeat refine⟨rfl,?_⟩);exact trivial)):I6 C n0 (.block id<|.loop c) (fr n l) Y Q:=cD (Gh.sub r) q (I6.uW a E k p out round)
theorem dE{T:Tb}[t:q? C T]{i:X U}{Y:Sg}{id:Nat}{a:Jg Oper}(d:X (Nat×Nat))(h:RH C.prog T a.toList a.toList i Y [] (fun g e j=>flE a.toList (g.reverse.map (·.1)) d=true/\cr T g.reverse d/\Q .normal e j))(m:Co a.toList=true:=by kernel_rfl):I6 C n0 (.region id a true) i Y Q:=I6.uO t.ok d m h
end
theorem gF{o:Type}{t:FK}{a b r:V o}{A d i:Prop}(O:cond t a b=r)(j:t=true->a=r->d)(m:t=false->b=r->i) (g:cond t a b=r->Hd (t=true->a=r->d)->Hd (t=false->b=r->i)->A:=by intro e h k;refine Go.Vx.go ?_;exact Go.Vx.cF e h.h k.h):A:=g O ⟨j⟩ ⟨m⟩
abbrev qQ{I:Type}(K:V I)(L:X (Nat×U))(v11:Sg)(r:I)(n:Nat)(a:X U)(Y:Sg):Prop:=K=some r/\a=fr n L/\Y=v11
variable{I:Type}{L:X (Nat×U)}{v11:Sg}{r:I}{n:Nat}{Q:X U->Sg->Prop}
theorem sN{K:V I}(h:K=some r->Q (fr n L) v11):∀a Y,qQ K L v11 r n a Y->Q a Y:=by rintro _ _ ⟨J,rfl,rfl⟩;exact h J
section
variable{C:PG}{n0 n nx:Nat}{Q:Exit->X U->Sg->Prop}{l:X (Nat×U)}{c:Code}{Y:Sg}{id:Nat}{h:X (Nat×B)}
theorem I!{K:V I}(J:K=some r)(j:rL l L:=by((repeat refine⟨rfl,?_⟩);exact trivial))(i:Vx.cut v11.nx h=v11.h:=by exact rfl)(e:n0<=v11.nx:=by first |exact qq _ |exact zY rfl)(g:v11.nx<=nx:=by exact zY rfl)[m:BS v11.nx L][o:BH v11.nx v11.h]:∃a d,qQ K L v11 r n a d/\n0<=d.nx/\Gh n0 (fr n l) ⟨h,nx⟩ a d:=xC ⟨J,rfl,rfl⟩ j i e g
theorem Wn0{m:Nat}{K:Nat->V I}(J:K m=some r)(o:rL l L:=by((repeat refine⟨rfl,?_⟩);exact trivial))(j:Vx.cut v11.nx h=v11.h:=by exact rfl)(e:n0<=v11.nx:=by first |exact qq _ |exact zY rfl)(i:v11.nx<=nx:=by exact zY rfl)[p:BS v11.nx L][q:BH v11.nx v11.h]:∃g a d,g<m+1/\qQ (K g) L v11 r n a d/\n0<=d.nx/\Gh n0 (fr n l) ⟨h,nx⟩ a d:=⟨m,_,_,zN _,⟨J,rfl,rfl⟩,e,P0 o j e i⟩
end
abbrev rJ{a:Type}{I:Type}(K:a->V I)(L:a->X (Nat×U))(v11:a->Sg)(r:I)(n:Nat)(e:X U)(Y:Sg):Prop:=∃d,K d=some r/\e=fr n (L d)/\Y=v11 d
variable{d:Type}
theorem vF{K:d->V I}{L:d->X (Nat×U)}{v11:d->Sg}(h:∀a,K a=some r->Q (fr n<|L a) (v11 a)):∀e Y,rJ K L v11 r n e Y->Q e Y:=by rintro _ _ ⟨a,J,rfl,rfl⟩;exact h a J
section
variable{C:PG}{n0 n nx:Nat}{Q:Exit->X U->Sg->Prop}{l:X (Nat×U)}{c:Code}{Y:Sg}{id:Nat}{h:X (Nat×B)}{a:d}
theorem pM{k:Nat}(K:Nat->d->V I)(L:d->X (Nat×U))(v11:d->Sg)(E:I->Nat->X U->Sg->Prop)(J:K k a=some r)(out:∀o Y,E r n o Y->Q .normal o Y)
  (round:∀m a,K (m+1) a=some r->I6 C n0 c (fr n<|L a) (v11 a) (BP (fun g p=>∃j i e,j<m+1/\rJ (K j) L v11 r n i e/\n0<=e.nx/\Gh n0 g p i e)<|wK id<|CV n0 (E r n) Q))
  (t:n0<=(v11 a).nx:=by first |exact qq _ |exact zY rfl) (v:rL l (L a):=by((repeat refine⟨rfl,?_⟩);exact trivial)) (q:∀a,K 0 a=none:=by intros;rfl):I6 C n0 (.block id<|.loop c) (fr n l) (v11 a) Q :=
 gL (fun m=>rJ (K m) L v11 r n) (E r n) k ⟨a,J,rfl,rfl⟩ out (fun m=>by
  rintro _ _ ⟨a,J,rfl,rfl⟩;cases m with
  |zero=>rw[q]at J;cases J|succ m=>exact round m a J) t v
theorem uc(r:I)(K:d->V I)(L:d->X (Nat×U))(v11:d->Sg)(out:∀a,K a=some r->Q .normal (fr n<|L a) (v11 a))(h:I6 C n0 c (fr n l) Y (CV n0 (rJ K L v11 r n) Q)):I6 C n0 c (fr n l) Y Q:=u6 _ (vF out) h
theorem n?{K:d->V I}{L:d->X (Nat×U)}{v11:d->Sg}(J:K a=some r)(o:rL l (L a):=by((repeat refine⟨rfl,?_⟩);exact trivial))(m:Vx.cut (v11 a).nx h=(v11 a).h:=by exact rfl)(i:n0<=(v11 a).nx:=by first |exact qq _ |exact zY rfl)(j:(v11 a).nx<=nx:=by exact zY rfl)[p:BS (v11 a).nx (L a)][q:BH (v11 a).nx (v11 a).h]:∃e g,rJ K L v11 r n e g/\n0<=g.nx/\Gh n0 (fr n l) ⟨h,nx⟩ e g:=xC ⟨a,J,rfl,rfl⟩ o m i j
theorem o?{m:Nat}{K:Nat->d->V I}{L:d->X (Nat×U)}{v11:d->Sg}(J:K m a=some r)(q:rL l (L a):=by((repeat refine⟨rfl,?_⟩);exact trivial))(p:Vx.cut (v11 a).nx h=(v11 a).h:=by exact rfl)(i:n0<=(v11 a).nx:=by first |exact qq _ |exact zY rfl)(o:(v11 a).nx<=nx:=by exact zY rfl)[t:BS (v11 a).nx (L a)][v:BH (v11 a).nx (v11 a).h]:∃j e g,j<m+1/\rJ (K j) L v11 r n e g/\n0<=g.nx/\Gh n0 (fr n l) ⟨h,nx⟩ e g:=⟨m,_,_,zN _,⟨a,J,rfl,rfl⟩,i,P0 q p i o⟩
end
abbrev lR{d g:Type}{I:Type}(K:d->g->V I)(L:d->g->X (Nat×U))(v11:d->g->Sg)(r:I)(n:Nat)(i:X U)(Y:Sg):Prop:=∃a e,K a e=some r/\i=fr n (L a e)/\Y=v11 a e
variable{f:Type}
theorem nS{K:d->f->V I}{L:d->f->X (Nat×U)}{v11:d->f->Sg}(h:∀a e,K a e=some r->Q (fr n<|L a e) (v11 a e)):∀g Y,lR K L v11 r n g Y->Q g Y:=by rintro _ _ ⟨a,e,J,rfl,rfl⟩;exact h a e J
section
variable{C:PG}{n0 n nx:Nat}{Q:Exit->X U->Sg->Prop}{l:X (Nat×U)}{c:Code}{Y:Sg}{id:Nat}{h:X (Nat×B)}{a:d}{b:f}
theorem CF{k:Nat}(K:Nat->d->f->V I)(L:d->f->X (Nat×U))(v11:d->f->Sg)(E:I->Nat->X U->Sg->Prop)(J:K k a b=some r)(out:∀o Y,E r n o Y->Q .normal o Y)
  (round:∀m a b,K (m+1) a b=some r->I6 C n0 c (fr n<|L a b) (v11 a b) (BP (fun g p=>∃j i e,j<m+1/\lR (K j) L v11 r n i e/\n0<=e.nx/\Gh n0 g p i e)<|wK id<|CV n0 (E r n) Q))
  (t:n0<=(v11 a b).nx:=by first |exact qq _ |exact zY rfl) (v:rL l (L a b):=by((repeat refine⟨rfl,?_⟩);exact trivial)) (q:∀a b,K 0 a b=none:=by intros;rfl):I6 C n0 (.block id<|.loop c) (fr n l) (v11 a b) Q :=
 gL (fun m=>lR (K m) L v11 r n) (E r n) k ⟨a,b,J,rfl,rfl⟩ out (fun m=>by
  rintro _ _ ⟨a,b,J,rfl,rfl⟩;cases m with
  |zero=>rw[q]at J;cases J|succ m=>exact round m a b J) t v
theorem OZ(r:I)(K:d->f->V I)(L:d->f->X (Nat×U))(v11:d->f->Sg)(out:∀a b,K a b=some r->Q .normal (fr n<|L a b) (v11 a b))(h:I6 C n0 c (fr n l) Y (CV n0 (lR K L v11 r n) Q)):I6 C n0 c (fr n l) Y Q:=u6 _ (nS out) h
theorem Wx2{K:d->f->V I}{L:d->f->X (Nat×U)}{v11:d->f->Sg}(J:K a b=some r)(o:rL l (L a b):=by((repeat refine⟨rfl,?_⟩);exact trivial))(m:Vx.cut (v11 a b).nx h=(v11 a b).h:=by exact rfl)(i:n0<=(v11 a b).nx:=by first |exact qq _ |exact zY rfl)(j:(v11 a b).nx<=nx:=by exact zY rfl)[p:BS (v11 a b).nx (L a b)][q:BH (v11 a b).nx (v11 a b).h]:∃e g,lR K L v11 r n e g/\n0<=g.nx/\Gh n0 (fr n l) ⟨h,nx⟩ e g:=xC ⟨a,b,J,rfl,rfl⟩ o m i j
theorem Wn2{m:Nat}{K:Nat->d->f->V I}{L:d->f->X (Nat×U)}{v11:d->f->Sg}(J:K m a b=some r)(q:rL l (L a b):=by((repeat refine⟨rfl,?_⟩);exact trivial))(p:Vx.cut (v11 a b).nx h=(v11 a b).h:=by exact rfl)(i:n0<=(v11 a b).nx:=by first |exact qq _ |exact zY rfl)(o:(v11 a b).nx<=nx:=by exact zY rfl)[t:BS (v11 a b).nx (L a b)][v:BH (v11 a b).nx (v11 a b).h]:∃j e g,j<m+1/\lR (K j) L v11 r n e g/\n0<=g.nx/\Gh n0 (fr n l) ⟨h,nx⟩ e g:=⟨m,_,_,zN _,⟨a,b,J,rfl,rfl⟩,i,P0 q p i o⟩
end
abbrev Ri{d f g:Type}{I:Type}(K:d->f->g->V I)(L:d->f->g->X (Nat×U))(v11:d->f->g->Sg)(r:I)(n:Nat)(i:X U)(Y:Sg):Prop:=∃a e a3,K a e a3=some r/\i=fr n (L a e a3)/\Y=v11 a e a3
variable{i:Type}
theorem Wo3{K:d->f->i->V I}{L:d->f->i->X (Nat×U)}{v11:d->f->i->Sg}(h:∀a e a3,K a e a3=some r->Q (fr n<|L a e a3) (v11 a e a3)):∀g Y,Ri K L v11 r n g Y->Q g Y:=by rintro _ _ ⟨a,e,a3,J,rfl,rfl⟩;exact h a e a3 J
section
variable{C:PG}{n0 n nx:Nat}{Q:Exit->X U->Sg->Prop}{l:X (Nat×U)}{c:Code}{Y:Sg}{id:Nat}{h:X (Nat×B)}{a:d}{b:f}{a3:i}
theorem oH{k:Nat}(K:Nat->d->f->i->V I)(L:d->f->i->X (Nat×U))(v11:d->f->i->Sg)(E:I->Nat->X U->Sg->Prop)(J:K k a b a3=some r)(out:∀p Y,E r n p Y->Q .normal p Y)
  (round:∀m a b a3,K (m+1) a b a3=some r->I6 C n0 c (fr n<|L a b a3) (v11 a b a3) (BP (fun g q=>∃o j e,o<m+1/\Ri (K o) L v11 r n j e/\n0<=e.nx/\Gh n0 g q j e)<|wK id<|CV n0 (E r n) Q))
  (v:n0<=(v11 a b a3).nx:=by first |exact qq _ |exact zY rfl) (w:rL l (L a b a3):=by((repeat refine⟨rfl,?_⟩);exact trivial)) (t:∀a b a3,K 0 a b a3=none:=by intros;rfl):I6 C n0 (.block id<|.loop c) (fr n l) (v11 a b a3) Q :=
 gL (fun m=>Ri (K m) L v11 r n) (E r n) k ⟨a,b,a3,J,rfl,rfl⟩ out (fun m=>by
  rintro _ _ ⟨a,b,a3,J,rfl,rfl⟩;cases m with
  |zero=>rw[t]at J;cases J|succ m=>exact round m a b a3 J) v w
theorem Wj3(r:I)(K:d->f->i->V I)(L:d->f->i->X (Nat×U))(v11:d->f->i->Sg)(out:∀a b a3,K a b a3=some r->Q .normal (fr n<|L a b a3) (v11 a b a3))(h:I6 C n0 c (fr n l) Y (CV n0 (Ri K L v11 r n) Q)):I6 C n0 c (fr n l) Y Q:=u6 _ (Wo3 out) h
theorem Wx3{K:d->f->i->V I}{L:d->f->i->X (Nat×U)}{v11:d->f->i->Sg}(J:K a b a3=some r)(p:rL l (L a b a3):=by((repeat refine⟨rfl,?_⟩);exact trivial))(o:Vx.cut (v11 a b a3).nx h=(v11 a b a3).h:=by exact rfl)(j:n0<=(v11 a b a3).nx:=by first |exact qq _ |exact zY rfl)(m:(v11 a b a3).nx<=nx:=by exact zY rfl)[q:BS (v11 a b a3).nx (L a b a3)][t:BH (v11 a b a3).nx (v11 a b a3).h]:∃e g,Ri K L v11 r n e g/\n0<=g.nx/\Gh n0 (fr n l) ⟨h,nx⟩ e g:=xC ⟨a,b,a3,J,rfl,rfl⟩ p o j m
theorem Wn3{m:Nat}{K:Nat->d->f->i->V I}{L:d->f->i->X (Nat×U)}{v11:d->f->i->Sg}(J:K m a b a3=some r)(t:rL l (L a b a3):=by((repeat refine⟨rfl,?_⟩);exact trivial))(q:Vx.cut (v11 a b a3).nx h=(v11 a b a3).h:=by exact rfl)(j:n0<=(v11 a b a3).nx:=by first |exact qq _ |exact zY rfl)(p:(v11 a b a3).nx<=nx:=by exact zY rfl)[v:BS (v11 a b a3).nx (L a b a3)][w:BH (v11 a b a3).nx (v11 a b a3).h]:∃o e g,o<m+1/\Ri (K o) L v11 r n e g/\n0<=g.nx/\Gh n0 (fr n l) ⟨h,nx⟩ e g:=⟨m,_,_,zN _,⟨a,b,a3,J,rfl,rfl⟩,j,P0 t q j p⟩
end
abbrev We4{d f i g:Type}{I:Type}(K:d->f->i->g->V I)(L:d->f->i->g->X (Nat×U))(v11:d->f->i->g->Sg)(r:I)(n:Nat)(j:X U)(Y:Sg):Prop:=∃a e a3 a4,K a e a3 a4=some r/\j=fr n (L a e a3 a4)/\Y=v11 a e a3 a4
section
variable{C:PG}{n0 n nx:Nat}{Q:Exit->X U->Sg->Prop}{l:X (Nat×U)}{c:Code}{Y:Sg}{id:Nat}{h:X (Nat×B)}
theorem Wx4{j:Type}{K:d->f->i->j->V I}{L:d->f->i->j->X (Nat×U)}{v11:d->f->i->j->Sg}{a:d}{e:f}{a3:i}{a4:j}(J:K a e a3 a4=some r)(t:rL l (L a e a3 a4):=by((repeat refine⟨rfl,?_⟩);exact trivial))(q:Vx.cut (v11 a e a3 a4).nx h=(v11 a e a3 a4).h:=by exact rfl)(o:n0<=(v11 a e a3 a4).nx:=by first |exact qq _ |exact zY rfl)(p:(v11 a e a3 a4).nx<=nx:=by exact zY rfl)[v:BS (v11 a e a3 a4).nx (L a e a3 a4)][w:BH (v11 a e a3 a4).nx (v11 a e a3 a4).h]:∃g m,We4 K L v11 r n g m/\n0<=m.nx/\Gh n0 (fr n l) ⟨h,nx⟩ g m:=xC ⟨a,e,a3,a4,J,rfl,rfl⟩ t q o p
theorem Wn4{j:Type}{m:Nat}{K:Nat->d->f->i->j->V I}{L:d->f->i->j->X (Nat×U)}{v11:d->f->i->j->Sg}{a:d}{e:f}{a3:i}{a4:j}(J:K m a e a3 a4=some r)(w:rL l (L a e a3 a4):=by((repeat refine⟨rfl,?_⟩);exact trivial))(v:Vx.cut (v11 a e a3 a4).nx h=(v11 a e a3 a4).h:=by exact rfl)(p:n0<=(v11 a e a3 a4).nx:=by first |exact qq _ |exact zY rfl)(t:(v11 a e a3 a4).nx<=nx:=by exact zY rfl)[x:BS (v11 a e a3 a4).nx (L a e a3 a4)][y:BH (v11 a e a3 a4).nx (v11 a e a3 a4).h]:∃q g o,q<m+1/\We4 (K q) L v11 r n g o/\n0<=o.nx/\Gh n0 (fr n l) ⟨h,nx⟩ g o:=⟨m,_,_,zN _,⟨a,e,a3,a4,J,rfl,rfl⟩,p,P0 w v p t⟩
end
section
variable{C:PG}{n0 n nx:Nat}{Q:Exit->X U->Sg->Prop}{l:X (Nat×U)}{c:Code}{Y:Sg}{h:X (Nat×B)}
abbrev Wez(L:X (Nat×U))(v11:Sg)(n:Nat)(a:X U)(Y:Sg):Prop:=a=fr n L/\Y=v11
theorem lD(L:X (Nat×U))(v11:Sg)(out:Q .normal (fr n L) v11)(h:I6 C n0 c (fr n l) Y (CV n0 (Wez L v11 n) Q)):I6 C n0 c (fr n l) Y Q:=u6 _ (by rintro _ _ ⟨rfl,rfl⟩;exact out) h
theorem m8(o:rL l L:=by((repeat refine⟨rfl,?_⟩);exact trivial))(m:Vx.cut v11.nx h=v11.h:=by exact rfl)(g:n0<=v11.nx:=by first |exact qq _ |exact zY rfl)(j:v11.nx<=nx:=by exact zY rfl)[p:BS v11.nx L][q:BH v11.nx v11.h]:∃a e,Wez L v11 n a e/\n0<=e.nx/\Gh n0 (fr n l) ⟨h,nx⟩ a e:=xC ⟨rfl,rfl⟩ o m g j
end
variable{A:Prop}
theorem gG{t:FK}{a b r:V f}{j m:Prop}(O:cond t a b=r)(o:t=true->a=r->j)(v:t=false->b=r->m) (g:cond t a b=r->Hd (t=true->a=r->j)->Hd (t=false->b=r->m)->A:=by intro e h k;refine go ?_;refine cF e (fun p q=>?_) k.h;refine go ?_;apply cK;exact h.h p q):A:=g O ⟨o⟩ ⟨v⟩
variable{P:Prop}
theorem gI{B:Prop}(h:P)(k:B) (g:P->Hd B->A:=by intro h k;refine go ?_;refine c8 h ?_;refine go ?_;exact k.h):A:=g h ⟨k⟩
theorem gJ{B:Prop}(h:P)(k:B) (g:P->Hd B->A:=by intro h k;refine gd ?_;refine dQ h ?_;refine gd ?_;exact k.h):A:=g h ⟨k⟩
theorem wx(J:P) (g:P->A:=by
 intro J;refine go ?_
 first |exact n? J |exact o? J |exact Wx2 J |exact Wn2 J |exact I! J |exact Wx3 J |exact Wn3 J |exact Wx4 J |exact Wn4 J |exact Wn0 J):A:=g J
end Go.Vx
