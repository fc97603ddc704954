import Derived.Test.YtmflfedkfdkipaaGreatP9
set_option linter.all false
open List Go.IntKind
open Nat hiding beq_eq
namespace Go.Vx
open Go Go.Rx
def AM:X Nat->Nat->Nat
 |[],_=>0|a::_,0=>a
 |_::l,i+1=>AM l i
def Om:X Nat->Nat->Rl
 |[],_=>true|a::l,nx=>cond (MJ l a) false (cond (blt a nx) (Om l nx) false)
theorem z1r:∀{l:X Nat}{nx:Nat},Om l nx=true->l.Nodup/\∀k∈l,k<nx
 |[],nx,_=>⟨Ab,fun k h=>by cases h⟩|a::l,nx,h=>by
  simp only[Om]at h;cases b:MJ l a with
  |true=>rw[b]at h;cases h|false=>rw[b,zD]at h;rcases c:blt a nx with _|_;rw[c]at h;cases h;rw[c,zC]at h;obtain⟨q1,q2⟩:=z1r h;refine⟨nodup_cons.2 ⟨fun hm=>?_,q1⟩,fun k d=>?_⟩;rw[(py l a).2 hm]at b;cases b;obtain rfl |d:=zI.1 d;exact zY c;exact q2 k d
def ui(N:Nat):X (Nat×B)->Rl
 |[]=>true|(k,_)::h=>cond (blt k N) (ui N h) false
def GD(a:X Nat)(nx:Nat)(h:X (Nat×B)):X (Nat×B)->Prop
 |[]=>True|(k,b)::r=>gt h (nm a nx k)=some (rB (nm a nx) b)/\GD a nx h r
theorem z95{m:X Nat}{nx N:Nat}{h:X (Nat×B)}:∀{d:X (Nat×B)},GD m nx h d->ui N d=true->GU N d->∀k b,gt d k=some b->k<N/\cV N b/\gt h (nm m nx k)=some (rB (nm m nx) b)
 |[],_,_,_,k,b,a=>by cases a
 |(j,c)::d,l,f,i,k,b,a=>by simp only[GD]at l;simp only[ui]at f;rcases g:blt j N with _|_;rw[g]at f;cases f;rw[g,zC]at f;simp only[GU]at i;simp only[gt,beq_eq]at a;by_cases e:j=k;subst e;simp only[yC,zC,zA]at a;subst a;exact⟨zY g,i.1,l.1⟩;simp only[e,yB,zD]at a;exact z95 l.2 f i.2 k b a
theorem TT(V:Nat->Nat)(l:X U)[q:i8 0 l]:eR V l=l:=JD V l q.h
theorem N9{a:Type}(V:Nat->Nat)(c:a->X U)(l:X a)[q:BF c]:uP V (l.map c)=l.map c:=VX V _ (vA c (q.h 0) l)
theorem Kz{K a:Type}(V:Nat->Nat)(b:K->U)(c:a->U)(d:X (K×a×Nat))[p:Pl b][q:Pl c]:(d.map<|mE b c).map (rM V)=d.map (mE b c):=by rw[dT];refine Wu fun e _=>?_;simp only[Function.comp,mE,rM,sa V _<|p.h 0 _,sa V _<|q.h 0 _]
def IT(a:X Nat)(nx N:Nat)(h:X (Nat×B)):X (Nat×B)->X (Nat×B)
 |[]=>h|(k,b)::r=>cond (blt k N) (ug (IT a nx N h r) (nm a nx k)<|rB (nm a nx) b) ((nm a nx k,rB (nm a nx) b)::IT a nx N h r)
def SK(N:Nat)(h:X (Nat×B)):Rl:=(List.range N).all fun k=>(gt h k).isSome
theorem z0a{a:X Nat}{nx N:Nat}{h:X (Nat×B)}(o:a.length=N)(m:∀i j,nm a nx i=nm a nx j->i=j)(g:∀k,k<N->(gt h<|nm a nx k).isSome=true)(p:∀k,N<=k->gt h (nm a nx k)=none):∀(r:X (Nat×B))(k:Nat),gt (IT a nx N h r) k=match gt (AP a nx r) k with
  |some b=>some b|none=>gt h k
 |[],k=>by simp[IT,AP,gt]
 |(j,b)::r,k=>by
  have f:=z0a o m g p r;simp only[IT,AP,aV];cases n:blt j N with
  |true=>
   have d:j<N:=zY n;simp only[zC,bT];by_cases e:nm a nx j=k;subst e;have q:=g j d;have:(gt (IT a nx N h r)<|nm a nx j).isSome=true:=by rw[f];split<;>simp_all
   rcases l:gt (IT a nx N h r) (nm a nx j)with _|c;rw[l]at this;cases this;simp;simp[e,f]
  |false=>simp only[zD,aV];by_cases e:nm a nx j=k;simp[e];simp[e,f]
theorem aT.st{P:Ib}{f:FuncId}{d args:X U}{r:X (Nat×B)}{N A:Nat}{C U1:(Nat->Nat)->U}{g:(Nat->Nat)->X (Nat×B)}{S1:(Nat->Nat)->Sg}(a:X Nat){Y:Sg}
  (h:aT P f d ⟨r,N⟩ (fun u q=>∃t:Nat->Nat,u=C t/\q=⟨g t,A⟩)) [Z:i8 N d] [hb:BH N r]
  (hn:Om a Y.nx=true:=by rfl) (V:a.length=N:=by rfl) (p:ui N r=true:=by rfl) (qF:SK N r=true:=by rfl) (s:∀t,SK N (g t)=true:=by intro t;rfl)
  (hh:GD a Y.nx Y.h r:=by simp only[GD,gt,Nat.beq,zC,zD,nm,rB,TT,eR,rU,N9,Kz,X1,di]<;>first |rfl |exact⟨rfl,trivial⟩|exact⟨rfl,rfl,trivial⟩|exact⟨rfl,rfl⟩)
  (o:eR (nm a Y.nx) d=args:=by(simp only[nm,TT,eR,rU,N9])<;>rfl)
  (W:∀t,rU (nm a Y.nx) (C t)=U1 t:=by(intro t;simp only[nm,TT,eR,rU,N9])<;>rfl)
  (J:∀t,(⟨IT a Y.nx N Y.h<|g t,Y.nx+(A-N)⟩:Sg)=S1 t:=by(intro t;simp only[IT,blt,ble,mr,ek,reduceAdd,reduceSub,ug,Nat.beq,zC,zD,nm,rB,TT,eR,rU,N9,Kz])<;>rfl):
  aT P f args Y (fun u q=>∃t:Nat->Nat,u=U1 t/\q=S1 t):=by
 subst V;obtain⟨g1,g2⟩:=z1r hn;have M:=z95 hh p hb.h;have K:∀i j,nm a Y.nx i=nm a Y.nx j->i=j:=fun i j h=>z8o g1 g2 h;have I:∀{h:X (Nat×B)},SK a.length h=true->∀k,k<a.length->(gt h k).isSome=true:=fun{h} v k p=>by unfold SK at v;rw[rj]at v;exact v k (mem_range.2 p)
 have O:∀k,k<a.length->(gt Y.h<|nm a Y.nx k).isSome=true:=fun k p=>by have:=I qF k p;rcases l:gt r k with _|b;rw[l]at this;cases this;rw[(M k b l).2.2];rfl
 intro F x vs m w n D y R v Q nU;have iG:∀k,a.length<=k->gt Y.h (nm a Y.nx k)=none:=fun k p=>by rcases l:gt Y.h (nm a Y.nx k)with _|b;rfl;have S:=(y.ok (nm a Y.nx k) b (by rw[D];exact l)).1;rw[D,N0 a Y.nx k p]at S;omega
 have H:=aT.frame a h Y g1 g2 Z.h M;rw[o]at H;have T:aT P f args Y (fun u q=>∃t:Nat->Nat,u=U1 t/\q=S1 t):=aT.post H ?_;exact T F x vs m w n D y R v Q nU;rintro u q ⟨u0,oO,⟨t,rfl,rfl⟩,sO,rfl,rfl⟩;refine⟨U1 t,S1 t,?_,?_,t,rfl,rfl⟩;rw[<-J t];exact jG _ _;rw[<-J t,<-W t];refine Gh.same (n0:=Y.nx) (tm:=[rU (nm a Y.nx)<|C t]) (Y:=xi a Y ⟨g t,A⟩) (IT a Y.nx a.length Y.h<|g t) (fun k=>?_);show _=gt (AP a Y.nx (g t)++J4 a Y.h) k;rw[z0a rfl K O iG,qm1,Tk];cases l:gt (AP a Y.nx<|g t) k with
 |some b=>rfl|none=>by_cases z:k∈a;exfalso;obtain⟨j,L,e⟩:=HO z;obtain⟨_,G⟩:=IY a Y.nx j L;rw[e]at G;rw[<-G,qts K]at l;have:=I (s t) j L;rcases E:gt (g t) j with _|c;rw[E]at this;cases this;rw[E]at l;cases l;rw[iy z]
variable{n:Nat}
theorem zb3{F:Nat->m9->Prop}{y:Cx}{K:Nat}{l:X U}{e:TypeId}{d t:Nat}{h:X (Nat×B)}(D:y.Y=⟨(K,.vec l e d t)::h,K+1⟩)(x:jB y)(N:Fr F y)(o:∀k b,gt h k=some b->k<K/\cV K b)(P:aG 0 l):
  ∃g:Cx,g.Y=⟨(K,.vec l e d 0)::h,K+1⟩/\g.s=y.s/\jB g/\Fr F g/\Ke K y g/\∀v,aD y (.vl K t 0 n) v->aD g (.vl K 0 0 n) v:=by
 have gy:∀j,gt y.Y.h j=if K=j then some (.vec l e d t)else gt h j:=fun j=>by rw[D];exact aV _ _ _ _
 have u:∀j,gt ((K,B.vec l e d 0)::h) j=if K=j then some (.vec l e d 0)else gt h j:=fun j=>aV _ _ _ _;have gY:y.Y.nx=K+1:=by rw[D]
 let g:Cx:=⟨y.Z,⟨(K,.vec l e d 0)::h,K+1⟩,y.s⟩
 have A:Mo K y g:=by refine⟨fun j q m=>⟨by show j<K+1;omega,fun w H=>?_⟩,fun _ _ _ h=>h⟩;have a:gt ((K,B.vec l e d 0)::h) j=some w:=H;rw[u,iy ag]at a;exact⟨w,by rw[gy,iy ag];exact a,zF _,fun _=>⟨rfl,fun l e d st h=>⟨l,h⟩⟩⟩
 refine⟨g,rfl,rfl,⟨fun j b p=>?_,fun j G b w i p r q m=>?_,x.bd⟩,fun i b O=>?_,A.ke,fun v C=>?_⟩;have a:gt ((K,B.vec l e d 0)::h) j=some b:=p;rw[u]at a;by_cases f:K=j;subst f;rw[kh rfl]at a;cases a;refine⟨by show K<K+1;omega,?_⟩;obtain⟨_,q1,q2,q3⟩:=x.ok K (.vec l e d t) (by rw[gy,kh rfl]);refine⟨q1,q2,?_⟩;obtain q3 |⟨i,Q,R,S,T⟩:=q3;exact .inl q3;exact .inr ⟨i,Q,R,S,A.ke.E (aG.le (qq _) l P) T⟩;rw[iy f]at a;obtain⟨q,m⟩:=o j b a;refine⟨by show j<K+1;omega,?_⟩;exact(x.ok j b (by rw[gy,iy f];exact a)).2.k_ m A rfl fun _ _ _ h=>h
 have key:∀j b,gt ((K,B.vec l e d 0)::h) j=some b->∃c,gt y.Y.h j=some c:=fun j b o=>by rw[u]at o;by_cases f:K=j;exact⟨_,by rw[gy,kh f]⟩;rw[iy f]at o;exact⟨b,by rw[gy,iy f];exact o⟩
 obtain⟨c,g1⟩:=key j b p;obtain⟨I,g2⟩:=key G w r;exact x.inj j G c I i g1 g2 q m;obtain⟨q,m⟩:=N i b O;refine⟨q,fun j c M=>?_⟩;have z:gt ((K,B.vec l e d 0)::h) j=some c:=M;rw[u]at z;by_cases f:K=j;exact m j _ (by rw[gy,kh f]);rw[iy f]at z;exact m j c (by rw[gy,iy f];exact z);simp only[aD]at C ⊢;refine⟨C.1,by show K<K+1;omega,fun b o=>?_⟩;have a:gt ((K,B.vec l e d 0)::h) K=some b:=o;rw[u,kh rfl]at a;cases a;obtain⟨_,g2⟩:=C.2.2 (.vec l e d t) (by rw[gy,kh rfl]);obtain⟨l2,W,V,J,L⟩:=g2 rfl;cases J;exact⟨zF _,fun _=>⟨l,e,d,rfl,L⟩⟩
theorem aT.qK{i:Type}(c:i->X U){P:Ib}{f:FuncId}{o:X i}{e:TypeId}{A:Nat}{r:X U}[N:BF c][Z:i8 0 r]{k:Nat}
  (h:aT P f r ⟨[],0⟩ (fun u q=>∃t,u=.vl k t 0 o.length/\q=⟨[(k,.vec (o.map c).flatten e A t)],k+1⟩))
  (Y:Sg) (K:Nat) (L:Y.nx+k=K):
  aT P f r Y (fun u q=>u=.vl K 0 0 o.length/\q=⟨(K,.vec (o.map c).flatten e A 0)::Y.h,K+1⟩):=fun F x Q m w a g z I p H d=>by
 have J:=aT.yZ c h Y K L;refine(J F x Q m w a g z I p H d).mono ?_;rintro V B ⟨y,E,u,v,G,q1,⟨t,rfl,q3⟩,q4,q5,q6,q7,q8,q9,O⟩;obtain⟨R,C,D,z3,z4,z5,S⟩:=zb3 (F:=F) q3 q6 q7 (fun k b M=>by
  have:=z.ok k b (by rw[g];exact M);rw[g]at this;refine⟨by omega,?_⟩;have j:=this.2.lU;rw[g]at j;cases b with
  |row l e=>exact aG.le ag l j|vec l e s st=>exact aG.le ag l j
  |map W T=>exact fun e p=>⟨aS.le ag _ (j e p).1,aS.le ag _ (j e p).2⟩) (DQ 0 (N.h 0) o)
 exact⟨R,E,_,v,G,q1,⟨rfl,C⟩,by rw[D];exact q4,by rw[D];exact q5,z3,z4,S v q8,q9.trans (z5.le (by rw[g];omega)),by rw[C,g];show Y.nx<=K+1;omega⟩
theorem D7{P:Ib}{T:Tb}{a r:X Oper}{o:Oper}{l:X (Nat×U)}{Y Y1:Sg}{b:X RK}{K:X RK->X U->Sg->Prop}{u:U}{f:FuncId}{args:X U}(j:c9 a (fr n l) o=some true)(e:kM T (fr n l) o.op=some (f,args))(k:aT P f args Y (fun m c=>m=u/\c=Y1)){d:Tmp}(h:o.dst=some d)(g:blt d n=true)
  (i:RH P T a r (fr n ((d,u)::l)) Y1 ((3,⟨fr n l,o,u,true,true,Y,Y1⟩)::b) K):RH P T a (o::r) (fr n l) Y b K :=
 RH.uG j e k (by rw[h,v6 (d:=some d) u g];exact i)
def OM(k:IntKind)(a b:Int):Int:=k.wrap (BitVec.ofInt k.bits a&&&BitVec.ofInt k.bits b).toNat
def Xc(k:IntKind)(a b:Int):Int:=k.wrap (BitVec.ofInt k.bits a|||BitVec.ofInt k.bits b).toNat
def Be(k:IntKind)(a b:Int):Int:=k.wrap (BitVec.ofInt k.bits a &&& ~~~ BitVec.ofInt k.bits b).toNat
theorem qrv(k:IntKind)(a b:Int):lD .andNot k a k b=some (.int k<|Be k a b):=by simp[lD,Be]
theorem l?(k:IntKind)(a b:Int):lD .and k a k b=some (.int k<|OM k a b):=by simp[lD,OM]
theorem Xv(k:IntKind)(a b:Int):lD .or k a k b=some (.int k<|Xc k a b):=by simp[lD,Xc]
def Ad(s:X RX)(i:Int):A Int:=if 0<=i/\i<(s.length:Int)then(s[i.toNat]?).map fun b=>(b.toNat:Int)else none
theorem V!{T:Tb}{Y:Sg}{l:X (Nat×U)}{t:TypeId}{x y:Qo}{s:X RX}{k:IntKind}{i z:Int}(d:T.G4 t=some .string)(f:bM n l x=some (.str s))(g:bM n l y=some (.int k i))(h:Ad s i=some z):bH T Y (fr n l) (.index t x y)=some (.int .u8 z,Y):=by unfold Ad at h;split at h;rename_i e;rcases a:s[i.toNat]? with _|b;rw[a]at h;cases h;rw[a]at h;simp only[zM,zA]at h;subst h;have c:tO i s.length=true:=N5 e;refine vV ?_;simp only[iQ,dF f,dF g,uk,g2,cK,Aq,d,c,zC,jT,a,jL];cases h
def SubH(Y a:Sg):Prop:=∀k b,gt Y.h k=some b->gt a.h k=some b
section
variable{Y a:Sg}(b:SubH Y a)
include b
variable{T:Tb}{tm:X U}
def VE:Op->Rl
 |.alloc _ |.box _ _ |.store _ _ _ |.buildSlice _ _ _ |.makeSlice _ _ _ |.makeMap _ _ |.mapUpdate _ _ _ _ |.insert _ _ _ _ |.mapEntry _ _ _ |.entryStore _ _ _ _=>false|.call c=>(match c.callee with
  |.builtin .append=>false|.builtin .copy=>false
  |.builtin .delete=>false|.builtin .clear=>false
  |_=>true)
 |_=>true
end
def XS:A Nat->Nat->U
 |none,k=>.ptr k 0 0|some n,k=>.sl k 0 n n
structure Al where
 i:Nat
 k:Nat
 o:A Nat
 l:X U
 e:TypeId
def MkU(P:Ib)(T:Tb)(b:X U)(op:Op)(a:Al):Prop :=
 (∀s,bH T s b op=some (XS a.o s.nx,cc s<|.row a.l a.e))\/∃f args,kM T b op=some (f,args)/\∀s,aT P f args s (fun u c=>u=XS a.o s.nx/\c=cc s (.row a.l a.e))
structure Loc(T:Tb)(aB:X Oper)(AC:X Al)(i:Nat)(r:eK)(K:Nat)(q q':X U)(e:TypeId):Prop where
 name:∃al∈AC,al.k=K
 row:gt r.s.h K=some (.row q e)
 out:r.s'=⟨ug r.s.h K (.row q' e),r.s.nx⟩
 dst:r.o.dst=none
 run:∀ τ:Sg,gt τ.h K=some (.row q e)->bH T τ r.tm r.o.op=some (r.u,⟨ug τ.h K (.row q' e),τ.nx⟩)
 pre:∀al∈AC,ki aB i al.i\/(al.k≠K/\aG al.k q')
 want:c9 aB r.tm r.o=some true
structure ChA(P:Ib)(T:Tb)(aB:X Oper)(tm₀:X U)(Yb Y1:Sg)(rs:X eK)(AC:X Al):Prop where
 some:AC≠[]
 names:∀al∈AC,Yb.nx<=al.k/\al.k<Y1.nx
 nodup:∀a∈AC,∀b∈AC,a.k=b.k->a.i=b.i
 le:Yb.nx<=Y1.nx
 at_:∀al∈AC,∃r d,rs[al.i]? = .some r/\r.u=XS al.o al.k/\r.act=false/\r.mv=true/\MkU P T r.tm r.o.op al/\r.o.guard=none/\r.o.dst=.some d
 row:∀al∈AC,aG 0 al.l
 all:∀(i:Nat)(r:eK),rs[i]? = .some r->r.act=false->r.mv=true->∃al∈AC,al.i=i
 own:∀al∈AC,gt Y1.h al.k=.some (.row al.l al.e)
 rQ:∀j,(∀al∈AC,al.k≠j)->gt Y1.h j=gt Yb.h j
 r6:∀(i:Nat)(r:eK),rs[i]? = .some r->r.act=true->(∀al∈AC,ki aB i al.i)\/∃K q q' e,Loc T aB AC i r K q q' e
 early:∀(i:Nat)(r:eK),rs[i]? = .some r->r.act=false->r.mv=false->(∀al∈AC,ki aB i al.i)\/(aS Yb.nx r.u/\(c9 aB r.tm r.o=.some true->bH T r.s r.tm r.o.op=.some (r.u,r.s')->VE r.o.op=true/\bH T ⟨Yb.h,Y1.nx⟩ r.tm r.o.op=.some (r.u,⟨Yb.h,Y1.nx⟩)))
section
variable{P:Ib}{T:Tb}(a:j0 P T)(b:Ie Oper){tm₀:X U}{c Y1:Sg}{rs:X eK}{tm':X U}{Y':Sg}{d:X Al}
 (jM:p_ P T b.toList tm₀ Y1 rs tm' Y') (cQ:Bq b.toList=true) (RN:QJ T b.toList rs) (qF:ChA P T b.toList tm₀ c Y1 rs d)
include jM qF
include a cQ RN
end
def Xr(mk K:Nat)(b:X U):X Al->Prop
 |[]=>True|a::r=>(testBit mk a.i=true\/(a.k≠K/\aG a.k b))/\Xr mk K b r
def RA(P:Ib)(T:Tb)(b:X Oper)(l:Nat)(j:Sg)(m:X Al):X Oper->X U->Sg->X RK->X Al->(X RK->X U->Sg->Prop)->Prop
 |[],a,Y,g,q,K=>q=[]/\K g a Y|o::r,a,Y,g,q,K=>
  (c9 b a o=some true/\∃u,bH T Y a o.op=some (u,Y)/\RA P T b l j m r (eH a o.dst u) Y ((1,⟨a,o,u,false,false,Y,Y⟩)::g) q K)\/ (c9 b a o=some true/\∃u p,bH T Y a o.op=some (u,p)/\RA P T b l j m r (eH a o.dst u) p ((3,⟨a,o,u,true,true,Y,p⟩)::g) q K)\/ (c9 b a o=some true/\∃f args u,kM T a o.op=some (f,args)/\aT P f args Y (fun w p=>w=u/\p=Y)/\RA P T b l j m r (eH a o.dst u) Y ((2,⟨a,o,u,true,false,Y,Y⟩)::g) q K)\/ (c9 b a o=some true/\∃f args u p,kM T a o.op=some (f,args)/\aT P f args Y (fun w y=>w=u/\y=p)/\RA P T b l j m r (eH a o.dst u) p ((3,⟨a,o,u,true,true,Y,p⟩)::g) q K)\/ (c9 b a o=some false/\RA P T b l j m r (eH a o.dst<|.a7 []) Y ((0,⟨a,o,.a7 [],false,false,Y,Y⟩)::g) q K)\/ (c9 b a o=some true/\∃u,uY P T a o.op u/\aS l u/\RA P T b l j m r (eH a o.dst u) Y ((6,⟨a,o,u,false,false,Y,Y⟩)::g) q K)\/ (c9 b a o=some true/\∃u,bH T Y a o.op=some (u,Y)/\bH T j a o.op=some (u,j)/\VE o.op=true/\aS l u/\RA P T b l j m r (eH a o.dst u) Y ((5,⟨a,o,u,false,false,Y,Y⟩)::g) q K)\/ (∃s x d,q=s::x/\s.i=g.length/\MkU P T a o.op s/\o.guard=none/\o.dst=some d/\RA P T b l j m r (eH a o.dst<|XS s.o s.k) Y ((4,⟨a,o,XS s.o s.k,false,true,Y,Y⟩)::g) x K)\/ (c9 b a o=some true/\∃u KK c t e mk,(dU b [])[g.length]? = some mk/\o.dst=none/\gt Y.h KK=some (.row c e)/\(∀ v:Sg,gt v.h KK=some (.row c e)->bH T v a o.op=some (u,⟨ug v.h KK<|.row t e,v.nx⟩))/\(∃s∈m,s.k=KK)/\Xr mk KK t m/\
   RA P T b l j m r (eH a o.dst u) ⟨ug Y.h KK<|.row t e,Y.nx⟩ ((7,⟨a,o,u,true,true,Y,⟨ug Y.h KK<|.row t e,Y.nx⟩⟩)::g) q K)
def kf(k:Nat):Nat:=cond (Nat.beq k 4) 0 (cond (Nat.beq k 5) 1<|cond (Nat.beq k 6) 0<|cond (Nat.beq k 7) 3 k)
section
variable{P:Ib}{T:Tb}
end
section
variable{C:PG}{T:Tb}(a:j0 C.prog T){n0:Nat}{Q:Exit->X U->Sg->Prop}{tm:X U}{Y:Sg}
include a
end
section
variable{P:Ib}{T:Tb}{a r:X Oper}{o:Oper}{n b:Nat}{c:Sg}{l:X (Nat×U)}{Y Y':Sg}{g:X RK}{q j:X Al}{K:X RK->X U->Sg->Prop}{u:U}{d:Tmp}
theorem RQ.act(k:c9 a (fr n l) o=some true)(h:bH T Y (fr n l) o.op=some (u,Y'))(f:o.dst=some d)(e:blt d n=true)(i:RA P T a b c j r (fr n ((d,u)::l)) Y' ((3,⟨fr n l,o,u,true,true,Y,Y'⟩)::g) q K):RA P T a b c j (o::r) (fr n l) Y g q K :=
 .inr (.inl ⟨k,u,Y',h,by rw[f,v6 (d:=some d) u e];exact i⟩)
theorem RQ.call{f:FuncId}{args:X U}(m:c9 a (fr n l) o=some true)(e:kM T (fr n l) o.op=some (f,args))(p:aT P f args Y (fun s Y'=>s=u/\Y'=Y))(i:o.dst=some d)(h:blt d n=true)(k:RA P T a b c j r (fr n ((d,u)::l)) Y ((2,⟨fr n l,o,u,true,false,Y,Y⟩)::g) q K):RA P T a b c j (o::r) (fr n l) Y g q K :=
 .inr (.inr<|.inl ⟨m,f,args,u,e,p,by rw[i,v6 (d:=some d) u h];exact k⟩)
theorem RQ.alloc{f:Al}(t:f.i=g.length)(w:∀s,bH T s (fr n l) o.op=some (XS f.o s.nx,cc s<|.row f.l f.e))(p:o.guard=none)(h:o.dst=some d)(m:blt d n=true)(v:RA P T a b c j r (fr n ((d,XS f.o f.k)::l)) Y ((4,⟨fr n l,o,XS f.o f.k,false,true,Y,Y⟩)::g) q K):RA P T a b c j (o::r) (fr n l) Y g (f::q) K :=
 .inr (.inr<|.inr<|.inr<|.inr<|.inr<|.inr<|.inl ⟨f,q,d,rfl,t,.inl w,p,h,by rw[h,v6 (d:=some d) _ m];exact v⟩)
end
section
variable{C:PG}{T:Tb}(a:j0 C.prog T){n0:Nat}{Q:Exit->X U->Sg->Prop}{tm:X U}{Y:Sg}
include a
end
class nn(P:Ib)(T:outParam Tb):Prop where
 ok:j0 P T
class q_(C:PG)(T:outParam Tb):Prop where
 ok:j0 C.prog T
instance{P:Ib}{T:Tb}[h:nn P T]:q_ (PG.of P) T:=⟨h.ok⟩
section
variable{P:Ib}{T:Tb}{a r:X Oper}{o:Oper}{n:Nat}{l:X (Nat×U)}{Y Y':Sg}{u:U}
theorem aX{C:PG}{K:X U->Sg->Prop}{d:Tmp}(c:o.dst=some d)(h:bH T Y (fr n l) o.op=some (u,Y'))(e:RU C T a r (fr n ((d,u)::l)) Y' K)(f:c9 a (fr n l) o=some true:=by exact rfl)(b:blt d n=true:=by exact rfl):RU C T a (o::r) (fr n l) Y K:=RS.op f h c b e
theorem aQ{b:X RK}{K:X RK->X U->Sg->Prop}{d:Tmp}(e:o.dst=some d)(h:bH T Y (fr n l) o.op=some (u,Y))(f:RH P T a r (fr n ((d,u)::l)) Y ((1,⟨fr n l,o,u,false,false,Y,Y⟩)::b) K)(g:c9 a (fr n l) o=some true:=by exact rfl)(c:blt d n=true:=by exact rfl):RH P T a (o::r) (fr n l) Y b K:=RD.look g h e c f
end
theorem st{v11 B:Prop}(h:B)(g:B->v11:=by intro h;(repeat refine Go.Vx.gq ?_);(repeat refine Go.Vx.sq ?_);exact h):v11:=g h
theorem aT.uJ{P:Ib}{f:FuncId}{args a:X U}{Y:Sg}{p:X U}{v:X I}(h:aT P f args ⟨[],0⟩ (fun t _=>t=.a7 p/\aS 0 t))(ha:aG 0 args)(A:eE p=some v)(G:∀m,aF m v=v){Z:Sg}(hg:Gh 0 a Y args Z):aT P f a Y (fun t W=>t=.a7 p/\W=Y):=fun F x V m w j R Q L he K o=>by
 obtain⟨q,a1,a2,a3,a4,a5,a6⟩:=hg F x V R Q L he;have M:=a1 m w K;have J:=bJ.less M.fits<|qo6 q.s;have fA:Mo 0 q (cx<|C7 q.s):=⟨fun k hk=>ag,fun i row e hl=>by show lk (C7 q.s).h i=_;rw[NF,hl];rfl⟩;have fS:∀b,¬ SU m (C7 q.s) b:=fun b ⟨i,c,N,ho,_⟩=>by rw[NF]at N;obtain⟨_,l,e,rfl⟩:=UJ N;simp[Rx.iK]at ho
 refine(h (fun _ _=>False) (cx<|C7 q.s) V m w j rfl ⟨fun k b g=>by simp[cx,gt]at g,fun k k' b b' i g=>by simp[cx,gt]at g,fun i b g=>?_⟩ (fun _ _ O=>O.elim) (fA.ke.E ha a5) J.fits (o.ext (aJ.refl _ _)<|eb M.nx J.nx)).mono ?_;have H:lk (C7 q.s).h i=some b:=g;rw[NF]at H;exact a3.bd i b (UJ H).1;rintro e o9 ⟨y2,FK,t,v',cv,rfl,⟨rfl,_⟩,r,iF,_,_,D,_,_⟩;simp only[aD]at D;obtain⟨d,rfl,B,C⟩:=D;have hv:=(F5 p v A y2 d).1 ⟨B,C⟩;subst hv;have z:cv=.tuple ⟨d⟩:=by rw[<-iF.at];simp only[G0,hJ,G]
 subst z;have T:∀b,b<w.heap.size->o9.heap[b]? = w.heap[b]?:=fun b y=>r.same b y<|fS b;refine⟨x,m,.a7 p,.tuple ⟨d⟩,.tuple ⟨d⟩,rfl,⟨rfl,R⟩,⟨aJ.refl _ _,zF _,fun S fT=>?_,fun b h=>.inl h,fun b y _=>T b y,r.size,r.os,r.tape,r.output⟩,fun S _=>by simp only[G0,hJ,G],Q,L,by simp only[aD];exact⟨d,rfl,((F5 p d A x d).2 rfl).1,((F5 p d A x d).2 rfl).2⟩,Ke.refl _ _,zF _⟩;have u:=K S fT;exact⟨fun i b g=>(u.ok i b g).world (T _<|u.size g),u.inj,u.bd⟩
class gH{v12:Type}(c:v12->X U)(n:outParam Nat):Prop where
 h:∀x,(c x).length=n
instance(k:IntKind):gH (cI k) 1:=⟨wZ k⟩
instance:gH cS 1:=⟨PA⟩
instance{a:Type}(c:a->X U):gH (cL c) 1:=⟨Le c⟩
abbrev U.iM{a:Type}(c:a->X U)(l:X a):U:=.O false (l.map c)
abbrev U.i6(z:Int):U:=.int .i64 z
variable{P:Ib}{f:FuncId}{args:X U}{u:U}
theorem pC(h:aT P f args ⟨[],0⟩ (fun a _=>a=u/\aS 0 a))[q:i8 0 args](Y:Sg):aT P f args Y (fun a Y'=>a=u/\Y'=Y):=C_ h Y
theorem sI{c:Type}{a b:c}(h:some a=some b):a=b:=Option.some.inj h
class Nq(a b:Nat):Prop where
 h:Nat.beq a b=false
instance{b:Nat}:Nq 0 (b+1):=⟨rfl⟩
instance{b:Nat}:Nq (b+1) 0:=⟨rfl⟩
instance{a b:Nat}[q:Nq a b]:Nq (a+1) (b+1):=⟨q.h⟩
class fP(h:X (Nat×B))(K:Nat)(b:outParam B):Prop where
 h:gt h K=some b
instance(priority:=low){K k:Nat}{x b:B}{t:X (Nat×B)}[n:Nq k K][g:fP t K b]:fP ((k,x)::t) K b:=⟨by simp only[gt,n.h,zD,g.h]⟩
instance{K:Nat}{b:B}{t:X (Nat×B)}:fP ((K,b)::t) K b:=⟨by simp[gt]⟩
class yg(b:B):Prop where
 h:∀es cl,b≠.map es cl
instance{l:X U}{e:TypeId}:yg (.row l e):=⟨fun _ _=>nofun⟩
instance{l:X U}{e:TypeId}{s t:Nat}:yg (.vec l e s t):=⟨fun _ _=>nofun⟩
class Ck(n sz:Nat)(l:X U)(r:outParam (X (X U))):Prop where
 h:n*sz<=l.length
 e:bR sz n l=r
instance{s:Nat}{l:X U}:Ck 0 s l []:=⟨by omega,by simp[bR]⟩
instance{n:Nat}{a:U}{l:X U}{r:X (X U)}[q:Ck n 1 l r]:Ck (n+1) 1 (a::l) ([a]::r):=⟨by have:=q.h;simp;omega,by have:=q.e;simp[bR,this]⟩
instance{n:Nat}{a b:U}{l:X U}{r:X (X U)}[q:Ck n 2 l r]:Ck (n+1) 2 (a::b::l) ([a,b]::r):=⟨by have:=q.h;simp;omega,by have:=q.e;simp[bR,this]⟩
instance{n:Nat}{a b c:U}{l:X U}{r:X (X U)}[q:Ck n 3 l r]:Ck (n+1) 3 (a::b::c::l) ([a,b,c]::r):=⟨by have:=q.h;simp;omega,by have:=q.e;simp[bR,this]⟩
class uK(K:Nat)(b:B)(sz:Nat)(u:U)(u':outParam U):Prop where
 h:fz K b sz u=u'
class MA(K:Nat)(b:B)(sz:Nat)(l:X U)(l':outParam (X U)):Prop where
 h:k9 K b sz l=l'
section
variable{K:Nat}{b:B}{sz:Nat}
instance(priority:=low){l:X U}[q:i8 K l]:MA K b sz l l:=⟨sA b sz l q.h⟩
instance:MA K b sz [] []:=⟨JB K b sz⟩
instance{u c:U}{l l':X U}[a:uK K b sz u c][q:MA K b sz l l']:MA K b sz (u::l) (c::l'):=⟨by rw[F9,a.h,q.h]⟩
instance{k:IntKind}{z:Int}:uK K b sz (.int k z) (.int k z):=⟨J9 K b sz k z⟩
instance{x:Rl}:uK K b sz (.bool x) (.bool x):=⟨JA K b sz x⟩
instance{x:X RX}:uK K b sz (.str x) (.str x):=⟨U2 K b sz x⟩
instance:uK K b sz .J .J:=⟨U7 K b sz⟩
instance{t:Rl}{l:X (X U)}:uK K b sz (.O t l) (.O t l):=⟨J8 K b sz t l⟩
instance{l l':X U}[q:MA K b sz l l']:uK K b sz (.agg l) (.agg l'):=⟨by rw[U3,q.h]⟩
instance{l l':X U}[q:MA K b sz l l']:uK K b sz (.a7 l) (.a7 l'):=⟨by rw[TZ,q.h]⟩
instance{f:Fn}{a d c c':X U}[q:MA K b sz a d][r:MA K b sz c c']:uK K b sz (.fn f a c) (.fn f d c'):=⟨by rw[TQ,q.h,r.h]⟩
instance{k st off n:Nat}[q:Nq k K]:uK K b sz (.vl k st off n) (.vl k st off n):=⟨td q.h b sz st off n⟩
instance{k off n c:Nat}[q:Nq k K]:uK K b sz (.sl k off n c) (.sl k off n c):=⟨tf q.h b sz off n c⟩
instance{k st off:Nat}[q:Nq k K]:uK K b sz (.ptr k st off) (.ptr k st off):=⟨tg q.h b sz st off⟩
end
instance{a:Type}{c:a->X U}{sz s K st:Nat}{l:X a}{e:TypeId}[q:gH c sz]:uK K (.vec (l.map c).flatten e sz st) s (.vl K st 0 l.length) (.O false<|l.map c):=⟨J1 q.h l K s e st⟩
instance{K sz n:Nat}{l:X U}{e:TypeId}{r:X (X U)}[q:Ck n sz l r]:uK K (.row l e) sz (.sl K 0 n n) (.O false r):=⟨by rw[WN K l e sz n q.h,q.e]⟩
instance{K sz:Nat}{l:X U}{e:TypeId}:uK K (.row l e) sz (.ptr K 0 0) (.b4 l):=⟨xg K l e sz⟩
instance{K sz:Nat}{b:B}{u a:U}[q:uK K b sz u a]:uK K b sz (mC [u]) a:=⟨q.h⟩
instance{K sz:Nat}{b:B}{u v a:U}{l:X U}[q:uK K b sz (.a7 (u::v::l)) a]:uK K b sz (mC (u::v::l)) a:=⟨q.h⟩
class TE(K:Nat)(b:B)(sz:Nat)(x:B)(x':outParam B):Prop where
 h:fv K b sz x=x'
instance{K sz:Nat}{b:B}{l l':X U}{e:TypeId}[q:MA K b sz l l']:TE K b sz (.row l e) (.row l' e):=⟨by rw[fv,q.h]⟩
instance{K sz:Nat}{b:B}{l l':X U}{e:TypeId}{s st:Nat}[q:MA K b sz l l']:TE K b sz (.vec l e s st) (.vec l' e s st):=⟨by rw[fv,q.h]⟩
class XY(K:Nat)(b:B)(sz:Nat)(h:X (Nat×B))(h':outParam (X (Nat×B))):Prop where
 h:dA K b sz h=h'
section
variable{K:Nat}{b:B}{sz:Nat}
instance:XY K b sz [] []:=⟨rfl⟩
instance(priority:=low){k:Nat}{c c':B}{h h':X (Nat×B)}[n:Nq k K][p:TE K b sz c c'][q:XY K b sz h h']:XY K b sz ((k,c)::h) ((k,c')::h'):=⟨by simp only[dA,n.h,zD,p.h,q.h]⟩
instance{c:B}{h h':X (Nat×B)}[q:XY K b sz h h']:XY K b sz ((K,c)::h) h':=⟨by simp[dA,q.h]⟩
end
class w_(K:Nat)(b:B)(sz:Nat)(l:X (Nat×U))(l':outParam (X (Nat×U))):Prop where
 h:h_ K b sz l=l'
instance{K:Nat}{b:B}{sz:Nat}:w_ K b sz [] []:=⟨rfl⟩
instance{K:Nat}{b:B}{sz i:Nat}{u c:U}{l l':X (Nat×U)}[a:uK K b sz u c][q:w_ K b sz l l']:w_ K b sz ((i,u)::l) ((i,c)::l'):=⟨by rw[h_,a.h,q.h]⟩
variable{n0:Nat}{nx:Nat}{h:X (Nat×B)}{h':X (Nat×B)}{b:B}
theorem rD{d a:X U}(K c:Nat)[g:fP h K b][m:yg b][t:MA K b c d a][q:XY K b c h h']:Gh n0 d ⟨h,nx⟩ a ⟨h',nx⟩:=Gh.fz K b c g.h m.h t.h q.h
variable{n:Nat}{l:X (Nat×U)}{l':X (Nat×U)}
theorem SP(K a:Nat)[g:fP h K b][m:yg b][t:w_ K b a l l'][q:XY K b a h h']:Gh n0 (fr n l) ⟨h,nx⟩ (fr n l') ⟨h',nx⟩:=Gh.h_ K b a g.h m.h t.h q.h
class XU(h:X (Nat×B))(K:Nat)(b:B)(h':outParam (X (Nat×B))):Prop where
 h:ug h K b=h'
instance{K:Nat}{x b:B}{t:X (Nat×B)}:XU ((K,x)::t) K b ((K,b)::t):=⟨by simp[ug]⟩
instance(priority:=low){K k:Nat}{x b:B}{t a:X (Nat×B)}[n:Nq k K][g:XU t K b a]:XU ((k,x)::t) K b ((k,x)::a):=⟨by simp only[ug,n.h,zD,g.h]⟩
class XT(l:X U)(l':outParam (X U)):Prop where
 h:pQ l l'
instance:XT [] []:=⟨.nil⟩
instance(priority:=low){u:U}{l l':X U}[q:XT l l']:XT (u::l) (u::l'):=⟨.cons (.refl _) q.h⟩
instance{l l':X U}[q:XT l l']:XT (.J::l) (.O false []::l'):=⟨.cons (.nil false) q.h⟩
theorem Gh.AB{tm:X U}{q a:X U}{e:TypeId}(K:Nat)[g:fP h K (.row q e)][w:XT q a][u:XU h K (.row a e) h'](c:I5 a=true:=by exact rfl):Gh n0 tm ⟨h,nx⟩ tm ⟨h',nx⟩:=by have:=Gh.qJ (n0:=n0) (tm:=tm) (Y:=⟨h,nx⟩) g.h c w.h;simp only[u.h]at this;exact this
theorem NZ:0<=n:=qq n
theorem NL{a b:Nat}(h:ble a b=true:=by exact rfl):a<=b:=zY h
theorem sB{a b:Nat}(h:ble a b=true):a<=b:=zY h
variable{T:Tb}{fn:Func}{k:Code}{Y:Sg}{R:U->Sg->Prop}
theorem bg0[t:nn P T](n:Nat)(j:T.fn f=some fn)(h:I6 (PG.of P) Y.nx k (fr n []) Y fun e c d=>(e=.normal\/e=.ret)/\∃l,lB T d c fn.results.toList=some l/\∃g a,Y.nx<=a.nx/\Gh Y.nx [mC l] d [g] a/\R g a)(o:fn.ntmps=n:=by exact rfl)(i:fn.body=some k:=by exact rfl)(m:ble 0 n=true:=by exact rfl):aT P f [] Y R:=Jv t.ok j i (dJ (by rw[o];exact OF<|sB m) (zF _) h)
theorem m6[t:nn P T]{a:U}(n:Nat)(m:T.fn f=some fn)(h:I6 (PG.of P) Y.nx k (fr n [(0,a)]) Y fun e d g=>(e=.normal\/e=.ret)/\∃l,lB T g d fn.results.toList=some l/\∃i c,Y.nx<=c.nx/\Gh Y.nx [mC l] g [i] c/\R i c)(p:fn.ntmps=n:=by exact rfl)(j:fn.body=some k:=by exact rfl)(o:ble 1 n=true:=by exact rfl):aT P f [a] Y R:=Jv t.ok m j (dJ (by rw[p];exact OF<|sB o) (zF _) h)
theorem eO[t:nn P T]{a b:U}(n:Nat)(m:T.fn f=some fn)(h:I6 (PG.of P) Y.nx k (fr n [(0,a),(1,b)]) Y fun e d g=>(e=.normal\/e=.ret)/\∃l,lB T g d fn.results.toList=some l/\∃i c,Y.nx<=c.nx/\Gh Y.nx [mC l] g [i] c/\R i c)(p:fn.ntmps=n:=by exact rfl)(j:fn.body=some k:=by exact rfl)(o:ble 2 n=true:=by exact rfl):aT P f [a,b] Y R:=Jv t.ok m j (dJ (by rw[p];exact OF<|sB o) (zF _) h)
variable{c:U}
theorem HV[t:nn P T]{a b:U}(n:Nat)(o:T.fn f=some fn)(h:I6 (PG.of P) Y.nx k (fr n [(0,a),(1,b),(2,c)]) Y fun e g i=>(e=.normal\/e=.ret)/\∃l,lB T i g fn.results.toList=some l/\∃j d,Y.nx<=d.nx/\Gh Y.nx [mC l] i [j] d/\R j d)(q:fn.ntmps=n:=by exact rfl)(m:fn.body=some k:=by exact rfl)(p:ble 3 n=true:=by exact rfl):aT P f [a,b,c] Y R:=Jv t.ok o m (dJ (by rw[q];exact OF<|sB p) (zF _) h)
theorem vi[t:nn P T]{a b d:U}(n:Nat)(p:T.fn f=some fn)(h:I6 (PG.of P) Y.nx k (fr n [(0,a),(1,b),(2,c),(3,d)]) Y fun e i j=>(e=.normal\/e=.ret)/\∃l,lB T j i fn.results.toList=some l/\∃m g,Y.nx<=g.nx/\Gh Y.nx [mC l] j [m] g/\R m g)(r:fn.ntmps=n:=by exact rfl)(o:fn.body=some k:=by exact rfl)(q:ble 4 n=true:=by exact rfl):aT P f [a,b,c,d] Y R:=Jv t.ok p o (dJ (by rw[r];exact OF<|sB q) (zF _) h)
theorem bg5[t:nn P T]{a b d e:U}(n:Nat)(p:T.fn f=some fn)(h:I6 (PG.of P) Y.nx k (fr n [(0,a),(1,b),(2,c),(3,d),(4,e)]) Y fun e i j=>(e=.normal\/e=.ret)/\∃l,lB T j i fn.results.toList=some l/\∃m g,Y.nx<=g.nx/\Gh Y.nx [mC l] j [m] g/\R m g)(r:fn.ntmps=n:=by exact rfl)(o:fn.body=some k:=by exact rfl)(q:ble 5 n=true:=by exact rfl):aT P f [a,b,c,d,e] Y R:=Jv t.ok p o (dJ (by rw[r];exact OF<|sB q) (zF _) h)
class OC(u u':U):Prop where
 h:Wk u u'
class yb(l l':X U):Prop where
 h:pQ l l'
instance(priority:=low){u:U}:OC u u:=⟨.refl u⟩
instance:OC .J (.O false []):=⟨.nil false⟩
instance{l l':X U}[q:yb l l']:OC (.agg l) (.agg l'):=⟨.agg q.h⟩
instance{l l':X U}[q:yb l l']:OC (.a7 l) (.a7 l'):=⟨.a7 q.h⟩
instance{u a:U}[q:OC u a]:OC (mC [u]) a:=⟨q.h⟩
instance{u v a:U}{l:X U}[q:OC (.a7 (u::v::l)) a]:OC (mC (u::v::l)) a:=⟨q.h⟩
instance:yb [] []:=⟨.nil⟩
instance{u d:U}{l l':X U}[a:OC u d][q:yb l l']:yb (u::l) (d::l'):=⟨.cons a.h q.h⟩
theorem lC{e:Nat->X U->Sg->Prop}{m a:Nat}(p:e m (fr n l') ⟨h',a⟩)(r:pV l l':=by((repeat refine⟨rfl,?_⟩);exact trivial))(q:Vx.cut a h=h':=by exact rfl)(i:n0<=a:=by first |exact qq _ |exact zY rfl)(o:a<=nx:=by exact zY rfl)[s:BS a l'][t:BH a h']:∃j d g,j<m+1/\e j d g/\n0<=g.nx/\Gh n0 (fr n l) ⟨h,nx⟩ d g:=⟨m,_,_,zN _,p,i,OE r q i o⟩
theorem xC{E:X U->Sg->Prop}{a:Nat}(j:E (fr n l') ⟨h',a⟩)(o:pV l l':=by((repeat refine⟨rfl,?_⟩);exact trivial))(m:Vx.cut a h=h':=by exact rfl)(g:n0<=a:=by first |exact qq _ |exact zY rfl)(i:a<=nx:=by exact zY rfl)[p:BS a l'][q:BH a h']:∃d e,E d e/\n0<=e.nx/\Gh n0 (fr n l) ⟨h,nx⟩ d e:=⟨_,_,j,g,OE o m g i⟩
section
variable{T:Tb}{n:Nat}{l:X (Nat×U)}{Y:Sg}{rs:X ResultVar}
theorem rT{us:X U}(g:lB T Y (fr n l) rs=some us)(e:Gh 0 [mC us] Y [u] ⟨[],0⟩)[q:BU 0 u]:(Exit.ret=.normal\/Exit.ret=.ret)/\∃l',lB T Y (fr n l) rs=some l'/\∃a d,(⟨[],0⟩:Sg).nx<=d.nx/\Gh (⟨[],0⟩:Sg).nx [mC l'] Y [a] d/\a=u/\aS 0 a:=⟨.inr rfl,us,g,u,⟨[],0⟩,zF _,e,rfl,q.h⟩
theorem jO{a:Tmp}{t:X ResultVar}{v:U}(i:rs=.tmp a::t)(h:bM n l (.tmp a)=some v)(g:t=[])(j:v=u)[q:BU 0 u]:(Exit.ret=.normal\/Exit.ret=.ret)/\∃l',lB T Y (fr n l) rs=some l'/\∃d e,(⟨[],0⟩:Sg).nx<=e.nx/\Gh (⟨[],0⟩:Sg).nx [mC l'] Y [d] e/\d=u/\aS 0 d:=by subst i;subst g;subst j;exact rT (eL h eB) (GF _ rfl)
theorem MX{a b:Tmp}{t:X ResultVar}{v w:U}(i:rs=.tmp a :: .tmp b::t)(h:bM n l (.tmp a)=some v)(h':bM n l (.tmp b)=some w)(g:t=[])(j : .a7 [v,w]=u)[q:BU 0 u]:(Exit.ret=.normal\/Exit.ret=.ret)/\∃l',lB T Y (fr n l) rs=some l'/\∃d e,(⟨[],0⟩:Sg).nx<=e.nx/\Gh (⟨[],0⟩:Sg).nx [mC l'] Y [d] e/\d=u/\aS 0 d:=by subst i;subst g;subst j;exact rT (eL h<|eL h' eB) (GF _ rfl)
end
theorem fR{d:U}(K a:Nat)[g:fP h K b][m:yg b][t:uK K b a d u][q:XY K b a h h'][p:BU 0 u]:Gh 0 [d] ⟨h,nx⟩ [u] ⟨[],0⟩:=Gh.trans (rD K a) (GF u rfl)
theorem wR{a:U}[w:OC a u][p:BU 0 u]:Gh 0 [a] Y [u] ⟨[],0⟩:=Gh.trans (Gh.wk<|.cons w.h .nil) (GF u rfl)
section
variable{C:PG}{n0 n:Nat}{Q:Exit->X U->Sg->Prop}{l:X (Nat×U)}{Y:Sg}
theorem cF{i:Type}{c:Qo}{p q:Code}{t:Rl}{a b r:A i}(O:cond t a b=r)(d:t=true->a=r->I6 C n0 p (fr n l) Y Q)(e:t=false->b=r->I6 C n0 q (fr n l) Y Q)(g:bM n l c=some (.bool t):=by exact rfl):I6 C n0 (.cond c p q) (fr n l) Y Q:=eD g (fun h=>d h<|Ij h O) (fun h=>e h<|Ik h O)
end
class M9(op:BinOp)(k:IntKind)(a:Int)(k':IntKind)(b:Int)(r:outParam I):Prop where
 h:lD op k a k' b=some r
section
variable{k:IntKind}{a b:Int}
instance:M9 .add k a k b (.int k<|k.wrap<|a+b):=⟨Ee k a b⟩
instance:M9 .sub k a k b (.int k<|k.wrap<|a-b):=⟨z8g k a b⟩
instance:M9 .mul k a k b (.int k<|k.wrap<|a*b):=⟨Dy k a b⟩
instance:M9 .eql k a k b (.bool<|a==b):=⟨Ed k a b⟩
instance:M9 .neq k a k b (.bool<|a != b):=⟨Dx k a b⟩
instance:M9 .lss k a k b (.bool<|decide (a<b)):=⟨Dz k a b⟩
instance:M9 .leq k a k b (.bool<|decide (a<=b)):=⟨Ea k a b⟩
instance:M9 .gtr k a k b (.bool<|decide (a>b)):=⟨Eb k a b⟩
instance:M9 .geq k a k b (.bool<|decide (a>=b)):=⟨Ec k a b⟩
end
class dY(T:Tb)(t:TypeId)(d:outParam TypeDesc):Prop where
 h:T.G4 t=some d
class qL(T:Tb)(t:TypeId)(n:outParam Nat):Prop where
 h:cC T t=some n
section
variable{P:Ib}{T:Tb}{a r:X Oper}{o:Oper}{n:Nat}{l:X (Nat×U)}{Y Y':Sg}{u:U}{d:Tmp}
theorem wT{j:Nat}{b:Rl}(g:o.guard=some (j,true))(i:CC a j=some d)(m:bM n l (.tmp d)=some (.bool b))(e:b=true):c9 a (fr n l) o=some true:=D_ g i m e
theorem wF{j:Nat}{b:Rl}(g:o.guard=some (j,false))(i:CC a j=some d)(m:bM n l (.tmp d)=some (.bool b))(e:b=false):c9 a (fr n l) o=some true:=D_ g i m e
theorem wA{v11:Prop}(h:v11:=by first |exact rfl |exact Go.Vx.wT rfl rfl rfl (by first |with_reducible_and_instances assumption |exact rfl)|exact Go.Vx.wF rfl rfl rfl (by first |with_reducible_and_instances assumption |exact rfl)):v11:=h
variable{C:PG}{K:X U->Sg->Prop}
theorem RS.w(g:o.dst=some d)(h:bH T Y (fr n l) o.op=some (u,Y'))(i:RU C T a r (fr n ((d,u)::l)) Y' K)(j:c9 a (fr n l) o=some true:=by exact Go.Vx.wA)(e:blt d n=true:=by exact rfl):RU C T a (o::r) (fr n l) Y K:=RS.op j h g e i
theorem RS.wn(e:o.dst=none)(h:bH T Y (fr n l) o.op=some (u,Y'))(g:RU C T a r (fr n l) Y' K)(i:c9 a (fr n l) o=some true:=by exact Go.Vx.wA):RU C T a (o::r) (fr n l) Y K:=RS.oP i h e g
theorem RD.w{e:X RK}{K:X RK->X U->Sg->Prop}(i:o.dst=some d)(h:bH T Y (fr n l) o.op=some (u,Y))(j:RH P T a r (fr n ((d,u)::l)) Y ((1,⟨fr n l,o,u,false,false,Y,Y⟩)::e) K)(m:c9 a (fr n l) o=some true:=by exact Go.Vx.wA)(g:blt d n=true:=by exact rfl):RH P T a (o::r) (fr n l) Y e K:=RD.look m h i g j
def Rr(n:Nat)(l:X (Nat×U))(o:Oper):A (Tmp×FuncId×X U):=match o.dst,o.op with
 |some d,.call c=>match c.callee with
  |.value f=>match bM n l f with
   |some (.fn (.func g) [] [])=>match OK n l c.args.toList with
    |some e=>some (d,g,e)|none=>none
   |_=>none
  |_=>none
 |_,_=>none
theorem iE{g:FuncId}{e:X U}(h:Rr n l o=some (d,g,e))(v:T.fn g=some fn)(t:fn.body.isSome=true):o.dst=some d/\kM T (fr n l) o.op=some (g,e):=by
 unfold Rr at h;split at h
 ·next w c j m=>
  split at h
  ·next f p=>
   split at h
   ·next x q=>
    split at h
    ·next i s=>simp only[zA,zB]at h;obtain⟨rfl,rfl,rfl⟩:=h;exact⟨j,by rw[m];exact tJ p q v t s ca⟩
    cases h
   cases h
  cases h
 cases h
theorem aM(h:Rr n l o=some (d,f,args))(p:aT C.prog f args Y (fun q Y'=>q=u/\Y'=Y))(g:T.fn f=some fn)(j:RU C T a r (fr n ((d,u)::l)) Y K)(e:fn.body.isSome=true:=by exact rfl)(m:c9 a (fr n l) o=some true:=by exact Go.Vx.wA)(i:blt d n=true:=by exact rfl):RU C T a (o::r) (fr n l) Y K:=RS.call m (iE h g e).2 p (iE h g e).1 i j
theorem RS.fc{args':X U}{e:Sg}(h:Rr n l o=some (d,f,args))(j:Gh Y.nx args Y args' e)(t:aT C.prog f args' e (fun v Y'=>v=u/\Y'=e))(i:T.fn f=some fn)(p:RU C T a r (fr n ((d,u)::l)) e K)(q:Y.nx<=e.nx:=by exact zY rfl)(g:fn.body.isSome=true:=by exact rfl)(s:c9 a (fr n l) o=some true:=by exact Go.Vx.wA)(m:blt d n=true:=by exact rfl):RU C T a (o::r) (fr n l) Y K:=RS.lV s (iE h i g).2 j q t (iE h i g).1 m p
theorem eA{e:X RK}{K:X RK->X U->Sg->Prop}(h:Rr n l o=some (d,f,args))(q:∀s,aT P f args s fun t Y'=>t=u/\Y'=s)(i:T.fn f=some fn)(m:RH P T a r (fr n ((d,u)::l)) Y ((0,⟨fr n l,o,u,false,false,Y,Y⟩)::e) K)(g:fn.body.isSome=true:=by exact rfl)(p:c9 a (fr n l) o=some true:=by exact Go.Vx.wA)(j:blt d n=true:=by exact rfl):RH P T a (o::r) (fr n l) Y e K:=RD.free p (iE h i g).2 q (iE h i g).1 j m
end
theorem vw{a:X U}{v:I}{i:Sg}(h:aT P f args ⟨[],0⟩ (fun d _=>d=u/\aS 0 d))(o:Gh 0 a Y args i)[j:i8 0 args](p:cK u=some v:=by simp only[cK,eE,I5,Y9,zC]<;>rfl)(e:∀m,G0 m v=v:=by exact fun m=>by simp[G0,aF]):aT P f a Y (fun d g=>d=u/\g=Y):=aT.view h j.h p e o
structure Hd(B:Prop):Prop where
 h:B
section
variable{C:PG}{n0:Nat}{tm:X U}{Y:Sg}{Q:Exit->X U->Sg->Prop}
theorem rg0[t:q_ C T]{i:Nat}{d:Ie Oper}{L:X Oper}(h:RU C T L L tm Y (fun a e=>Q .normal a e))(g:d.toList=L):I6 C n0 (.region i d false) tm Y Q:=I6.region t.ok (by rw[g];exact h)
theorem AJ[t:q_ C T]{i:Nat}{d:Ie Oper}{o:Oper}{r:X Oper}(g:d.toList=o::r)(h:RU C T (o::r) (o::r) tm Y (fun a e=>Q .normal a e)):I6 C n0 (.region i d false) tm Y Q:=rg0 h g
end
section
variable{C:PG}{T:Tb}{e r:X Oper}{o:Oper}{n:Nat}{l:X (Nat×U)}{Y Y':Sg}{u:U}{K:X U->Sg->Prop}{d:Tmp}
theorem RS.nt{j:Nat}{b:Rl}{a:Tmp}(p:o.guard=some (j,true))(q:CC e j=some a)(t:bM n l (.tmp a)=some (.bool b))(g:b=false)(m:o.dst=some d)(i:blt d n=true)(s:RU C T e r (fr n ((d,.a7 [])::l)) Y K):RU C T e (o::r) (fr n l) Y K:=RS.no (yq p q t g) m i s
theorem RS.nf{j:Nat}{b:Rl}{a:Tmp}(p:o.guard=some (j,false))(q:CC e j=some a)(t:bM n l (.tmp a)=some (.bool b))(g:b=true)(m:o.dst=some d)(i:blt d n=true)(s:RU C T e r (fr n ((d,.a7 [])::l)) Y K):RU C T e (o::r) (fr n l) Y K:=RS.no (yq p q t g) m i s
variable{x:Qo}
theorem RS.mo(j:o.op=.move x)(p:bM n l x=some u)(g:o.dst=some d)(m:c9 e (fr n l) o=some true)(a:blt d n=true)(i:RU C T e r (fr n ((d,u)::l)) Y K):RU C T e (o::r) (fr n l) Y K:=RS.w g (by rw[j];exact kN p) i m a
theorem RS.in{op:BinOp}{t D:TypeId}{y:Qo}{k g:IntKind}{a b:Int}{v:I}(p:o.op=.binOp op t x y D)(z:bM n l x=some (.int k a))(A:bM n l y=some (.int g b))[h:M9 op k a g b v](q:jL v=some u)(j:o.dst=some d)(s:c9 e (fr n l) o=some true)(i:blt d n=true)(m:RU C T e r (fr n ((d,u)::l)) Y K):RU C T e (o::r) (fr n l) Y K:=RS.w j (by rw[p];exact wY z A h.h q) m s i
theorem RS.DV{c a b:Qo}{t:Rl}(p:o.op=.pick c a b)(g:bM n l c=some (.bool t))(q:t=true)(h:bM n l a=some u)(j:o.dst=some d)(s:c9 e (fr n l) o=some true)(i:blt d n=true)(m:RU C T e r (fr n ((d,u)::l)) Y K):RU C T e (o::r) (fr n l) Y K:=RS.w j (by rw[p];exact qwj g q h) m s i
theorem RS.p0{c a b:Qo}{t:Rl}(p:o.op=.pick c a b)(g:bM n l c=some (.bool t))(q:t=false)(h:bM n l b=some u)(j:o.dst=some d)(s:c9 e (fr n l) o=some true)(i:blt d n=true)(m:RU C T e r (fr n ((d,u)::l)) Y K):RU C T e (o::r) (fr n l) Y K:=RS.w j (by rw[p];exact qwi g q h) m s i
theorem RS.ex{i:Nat}{q:X U}(m:o.op=.extract x i)(s:bM n l x=some (.a7 q))(h:nth q i=some u)(g:o.dst=some d)(p:c9 e (fr n l) o=some true)(a:blt d n=true)(j:RU C T e r (fr n ((d,u)::l)) Y K):RU C T e (o::r) (fr n l) Y K:=RS.w g (by rw[m];exact z8q s h) j p a
theorem RS.un{op:UnOp}{t:TypeId}{v:U}{v1 a:I}(m:o.op=.unOp op t x)(y:bM n l x=some v)(h:cK v=some v1)(q:T5 op v1=some a)(p:jL a=some u)(i:o.dst=some d)(s:c9 e (fr n l) o=some true)(g:blt d n=true)(j:RU C T e r (fr n ((d,u)::l)) Y K):RU C T e (o::r) (fr n l) Y K:=RS.w i (by rw[m];exact VC y h q p) j s g
theorem RS.a(m:o.op=.assign x)(q:bM n l x=some u)(i:o.dst=some d)(p:c9 e (fr n l) o=some true)(g:blt d n=true)(j:RU C T e r (fr n ((d,u)::l)) Y K):RU C T e (o::r) (fr n l) Y K:=RS.as p m q i j g
end
class i5(T:Tb)(t:TypeId)(a b:outParam Nat)(z:outParam I):Prop where
 h:T.inf t=some (a,b,z)
instance{T:Tb}{t:TypeId}{a b:Nat}{z:I}[q:i5 T t a b z]:qL T t a:=⟨bG q.h⟩
class oW(T:Tb)(t:TypeId)(zu:outParam (X U)):Prop where
 h:∃a b z,T.inf t=some (a,b,z)/\qN z.cells.toList=some zu/\I5 zu=true
class EN(u:U)(cs:outParam (X U)):Prop where
 h:xB u=some cs
instance{l:X U}:EN (.agg l) l:=⟨rfl⟩
instance{k:IntKind}{z:Int}:EN (.int k z) [.int k z]:=⟨rfl⟩
instance{b:Rl}:EN (.bool b) [.bool b]:=⟨rfl⟩
instance{s:X RX}:EN (.str s) [.str s]:=⟨rfl⟩
instance{t:Rl}{l:X (X U)}:EN (.O t l) [.O t l]:=⟨rfl⟩
instance{k st off:Nat}:EN (.ptr k st off) [.ptr k st off]:=⟨rfl⟩
instance{k st off n:Nat}:EN (.vl k st off n) [.vl k st off n]:=⟨rfl⟩
instance{k off n c:Nat}:EN (.sl k off n c) [.sl k off n c]:=⟨rfl⟩
instance{k:Nat}:EN (.map k) [.map k]:=⟨rfl⟩
instance{f:Fn}{a c:X U}:EN (.fn f a c) [.fn f a c]:=⟨rfl⟩
class ON(q:X U)(off n:Nat)(cs:outParam (X U)):Prop where
 h:lW q off n=some cs
instance{q:X U}:ON q 0 0 []:=⟨by simp[lW]⟩
instance{a:U}{q cs:X U}{n:Nat}[s:ON q 0 n cs]:ON (a::q) 0 (n+1) (a::cs):=⟨by
 have:=s.h;unfold lW at*;split at this
 ·next h=>cases this;rw[kh (by simp at*;omega)];simp
 cases this⟩
instance{a:U}{q cs:X U}{o n:Nat}[s:ON q o n cs]:ON (a::q) (o+1) n cs:=⟨by
 have:=s.h;unfold lW at*;split at this
 ·next h=>cases this;rw[kh (by simp at*;omega)];simp
 cases this⟩
instance(priority:=low){a:Type}{c:a->X U}{x:a}{sz:Nat}[q:gH c sz]:ON (c x) 0 sz (c x):=⟨by
 unfold lW;rw[kh (by rw[q.h];omega),Xl,zW (by rw[q.h];exact zF _)]⟩
class Jq(q:X U)(n:Nat):Prop where
 h:q.length=n
instance:Jq [] 0:=⟨rfl⟩
instance{a:U}{q:X U}{n:Nat}[s:Jq q n]:Jq (a::q) (n+1):=⟨by simp[s.h]⟩
instance(priority:=low){a:Type}{c:a->X U}{x:a}{sz:Nat}[q:gH c sz]:Jq (c x) sz:=⟨q.h x⟩
class SM(q:X U)(off:Nat)(cs:X U)(q':outParam (X U)):Prop where
 h:rV q off cs=some q'
instance{q:X U}:SM q 0 [] q:=⟨by simp[rV]⟩
instance{a b:U}{q cs q':X U}[s:SM q 0 cs q']:SM (a::q) 0 (b::cs) (b::q'):=⟨by
 have:=s.h;unfold rV at*;split at this
 ·next h=>cases this;rw[kh (by simp at*;omega)];simp
 cases this⟩
instance{a:U}{q cs q':X U}{o:Nat}[s:SM q o cs q']:SM (a::q) (o+1) cs (a::q'):=⟨by
 have:=s.h;unfold rV at*;split at this
 ·next h=>cases this;rw[kh (by simp at*;omega)];simp[show o+1+cs.length=(o+cs.length)+1 by omega]
 cases this⟩
instance(priority:=low){a:Type}{c:a->X U}{x:a}{sz:Nat}{q:X U}[s:gH c sz][t:Jq q sz]:SM q 0 (c x) (c x):=⟨by
 unfold rV;have d:=s.h x;have e:=t.h;rw[kh ag,Aa ag];simp⟩
class A_(a b:X U)(c:outParam (X U)):Prop where
 h:a++b=c
instance{b:X U}:A_ [] b b:=⟨rfl⟩
instance{x:U}{a b c:X U}[s:A_ a b c]:A_ (x::a) b (x::c):=⟨by rw[fV,s.h]⟩
class r_(pl:X (Nat×Nat))(i:Nat)(o s:outParam Nat):Prop where
 h:nth pl i=some (o,s)
instance{o s:Nat}{pl:X (Nat×Nat)}:r_ ((o,s)::pl) 0 o s:=⟨rfl⟩
instance{a:Nat×Nat}{i o s:Nat}{pl:X (Nat×Nat)}[q:r_ pl i o s]:r_ (a::pl) (i+1) o s:=⟨q.h⟩
variable{zu:X U}{q':X U}{cs:X U}{s:Nat}{qs:X (Nat×U)}
theorem z83{place:Nat->A (Nat×Nat)}{a:X U}{i o:Nat}{v:U}(g:place i=some (o,s))(d:xB v=some a)(e:a.length=s)(j:rV zu o a=some q')(m:rY place q' qs=some cs):rY place zu ((i,v)::qs)=some cs:=by
 have:Nat.beq a.length s=true:=by simp[beq_eq,e]
 simp only[rY,g,d,this,zC,j,m]
class y_(pl:X (Nat×Nat))(zu:X U)(qs:X (Nat×U))(cs:outParam (X U)):Prop where
 h:rY (nth pl) zu qs=some cs
instance{pl:X (Nat×Nat)}{zu:X U}:y_ pl zu [] zu:=⟨rfl⟩
instance{pl:X (Nat×Nat)}{zu q' cs c0:X U}{i o s:Nat}{v:U}{qs:X (Nat×U)}[p:r_ pl i o s][c:EN v c0][l:Jq c0 s][q:SM zu o c0 q'][r:y_ pl q' qs cs]:y_ pl zu ((i,v)::qs) cs:=⟨z83 p.h c.h l.h q.h r.h⟩
class u_(a b:Nat)(c:outParam Nat):Prop where
 h:a*b=c
instance{b:Nat}:u_ 0 b 0:=⟨lg b⟩
instance{b:Nat}:u_ 1 b b:=⟨Nat.one_mul b⟩
instance{a:Nat}:u_ (a+2) 1 (a+2):=⟨Nat.mul_one _⟩
class x_(s:Nat)(zu:X U)(qs:X (Nat×U))(cs:outParam (X U)):Prop where
 h:rY (fun i=>some (i*s,s)) zu qs=some cs
instance{s:Nat}{zu:X U}:x_ s zu [] zu:=⟨rfl⟩
instance{zu q' cs c0:X U}{i o s:Nat}{v:U}{qs:X (Nat×U)}[m:u_ i s o][c:EN v c0][l:Jq c0 s][q:SM zu o c0 q'][r:x_ s q' qs cs]:x_ s zu ((i,v)::qs) cs:=⟨z83 (by rw[m.h]) c.h l.h q.h r.h⟩
class n_(z:X U)(k:Nat)(zs:outParam (X U)):Prop where
 h:y3 z k=zs
instance{z:X U}:n_ z 0 []:=⟨rfl⟩
instance{z a b:X U}{k:Nat}[q:n_ z k a][p:A_ z a b]:n_ z (k+1) b:=⟨by
 have:=q.h;have:=p.h;simp only[y3,Jg,Wx]at*;simp_all⟩
class jF{v12:Type}(c:v12->X U)(cs:X U)(x:outParam v12):Prop where
 h:c x=cs
instance{k:IntKind}{z:Int}:jF (cI k) [.int k z] z:=⟨rfl⟩
instance{s:X RX}:jF cS [.str s] s:=⟨rfl⟩
instance{a:Type}{c:a->X U}{l:X a}:jF (cL c) [.O false<|l.map c] l:=⟨rfl⟩
instance(priority:=low){a:Type}{c:a->X U}{x:a}:jF c (c x) x:=⟨rfl⟩
instance(priority:=low){a:Type}{c:a->X U}{x:a}:XT (c x) (c x):=⟨pQ.refl _⟩
class uL(T:Tb)(t:TypeId)(zu:outParam (X U))(pl:outParam (X (Nat×Nat))):Prop where
 h:BdT T t zu pl
class ck(a:Nat)(b:outParam Nat):Prop where
 h:a+1=b
instance:ck 0 1:=⟨rfl⟩
instance:ck 1 2:=⟨rfl⟩
instance:ck 2 3:=⟨rfl⟩
instance:ck 3 4:=⟨rfl⟩
instance:ck 4 5:=⟨rfl⟩
instance:ck 5 6:=⟨rfl⟩
instance:ck 6 7:=⟨rfl⟩
instance:ck 7 8:=⟨rfl⟩
instance:ck 8 9:=⟨rfl⟩
instance:ck 9 10:=⟨rfl⟩
instance:ck 10 11:=⟨rfl⟩
instance:ck 12 13:=⟨rfl⟩
instance:ck 13 14:=⟨rfl⟩
class CL(a b:Nat)(c:outParam Nat):Prop where
 h:a+b=c
instance{b:Nat}:CL 0 b b:=⟨Wy b⟩
class s_(a:Nat)(b:outParam Nat):Prop where
 h:a+1=b
instance{a b:Nat}[q:ck a b]:s_ a b:=⟨q.h⟩
instance(priority:=low){a:Nat}:s_ a (a+1):=⟨rfl⟩
section
variable{T:Tb}{n:Nat}{l:X (Nat×U)}{h h':X (Nat×B)}{nx nx':Nat}{u v w:U}{op:Op}{e:TypeId}
theorem EW(m:op=.alloc e)[z:oW T e zu][j:ck nx nx']:bH T ⟨h,nx⟩ (fr n l) op=some (.ptr nx 0 0,⟨(nx,.row zu e)::h,nx'⟩):=by subst m;have o:=j.h;subst o;obtain⟨a,b,q,d,g,i⟩:=z.h;exact z6d d g i
variable{x:Qo}
theorem EO(g:op=.box e x)(i:bM n l x=some v)[c:EN v cs](a:I5 cs=true)[d:ck nx nx']:bH T ⟨h,nx⟩ (fr n l) op=some (.ptr nx 0 0,⟨(nx,.row cs e)::h,nx'⟩):=by subst g;have j:=d.h;subst j;exact Dj i c.h a
variable{t:TypeId}{a:Qo}{k:Nat}{off:Nat}{sz:Nat}{q:X U}
theorem FN(m:op=.store t a x)(d:bM n l a=some (.ptr k 0 off))(o:bM n l x=some v)[g:fP h k (.row q e)][s:qL T t sz][c:EN v cs][p:SM q off cs q'][w:XU h k (.row q' e) h'](j:Nat.beq cs.length sz=true)(i:I5 cs=true):bH T ⟨h,nx⟩ (fr n l) op=some (.L2,⟨h',nx⟩):=by subst m;refine z6g s.h d o c.h j i (q:=q) (q':=q') ?_ ?_ ?_;simp only[cellsOf,g.h];rfl;simp only[GJ,g.h];exact p.h;simp only[P4,g.h,w.h]
variable{d:TypeDesc}
theorem EG(m:op=.load t x)(o:bM n l x=some (.ptr k 0 off))[j:dY T t d](i:rH d=true)[g:fP h k (.row q e)][s:qL T t sz][p:ON q off sz cs]:bH T ⟨h,nx⟩ (fr n l) op=some (.agg cs,⟨h,nx⟩):=by subst m;exact vX j.h i s.h o (by simp only[cellsOf,g.h];rfl) p.h
theorem EB(m:op=.load t x)(p:bM n l x=some (.ptr k 0 off))[j:dY T t d](i:rH d=false)[g:fP h k (.row q e)](o:nth q off=some u):bH T ⟨h,nx⟩ (fr n l) op=some (u,⟨h,nx⟩):=by subst m;exact uA j.h i p (by simp only[cellsOf,g.h];rfl) o
theorem EH(j:op=.load t x)(m:bM n l x=some (.b4 q))[i:dY T t d](g:rH d=true)[s:qL T t sz][p:ON q 0 sz cs]:bH T ⟨h,nx⟩ (fr n l) op=some (.agg cs,⟨h,nx⟩):=by subst j;exact z8j i.h g s.h m p.h
theorem EA(j:op=.load t x)(o:bM n l x=some (.b4 q))[i:dY T t d](g:rH d=false)(m:nth q 0=some u):bH T ⟨h,nx⟩ (fr n l) op=some (u,⟨h,nx⟩):=by subst j;exact Sb i.h g o m
theorem EE{f:Nat}{j:Ie Field}{i:Field}{m:Nat}(y:op=.fieldAddr t x f)(A:bM n l x=some (.ptr k 0 off))[p:dY T t (.struct j)][g:fP h k (.row q e)](r:nth j.toList f=some i)(z:cC T i.type=some (s+1))(o:off+i.offset=m):bH T ⟨h,nx⟩ (fr n l) op=some (.ptr k 0 m,⟨h,nx⟩):=by subst y;exact nC p.h r z A (by simp only[live,g.h];rfl) o
theorem EC{f:Nat}{i:Ie Field}{g:Field}(o:op=.fieldAddr t x f)(y:bM n l x=some (.b4 q))[j:dY T t (.struct i)](m:nth i.toList f=some g)(r:cC T g.type=some (s+1))(p:q.drop g.offset=q'):bH T ⟨h,nx⟩ (fr n l) op=some (.b4 q',⟨h,nx⟩):=by subst o;exact J_ j.h m r y p
variable{f:Type}{c:f->X U}{b:Rl}{xs:X f}
theorem AI{i:Qo}{k:IntKind}{z:Int}{y:f}(o:op=.indexAddr t x i)(r:bM n l x=some (.O b<|xs.map c))(m:bM n l i=some (.int k z))[j:dY T t (.slice e)][p:qL T e sz][g:gH c sz](A:aC xs z=some y):bH T ⟨h,nx⟩ (fr n l) op=some (.b4<|c y,⟨h,nx⟩):=by subst o;exact eM r m (Lg c j.h p.h g.h A rfl)
variable{args:Ie Qo}{ts:Ie TypeId}
theorem EI{q:X TypeId}(j:op=.call { callee:=.builtin .len,args:=args,argTypes:=ts })(g:args.toList=[x])(m:ts.toList=t::q)(o:bM n l x=some (.O b<|xs.map c))[i:dY T t (.slice e)]:bH T ⟨h,nx⟩ (fr n l) op=some (.int .i64 xs.length,⟨h,nx⟩):=by subst j;exact H3 g m o (z0t c i.h)
theorem EL{i:TypeId}{q:X TypeId}{K st m:Nat}(p:op=.call { callee:=.builtin .len,args:=args,argTypes:=ts })(j:args.toList=[x])(r:ts.toList=t::q)(y:bM n l x=some (.vl K st 0 m))[o:dY T t (.slice e)][g:fP h K (.vec cs i sz st)]:bH T ⟨h,nx⟩ (fr n l) op=some (.int .i64 m,⟨h,nx⟩):=by subst p;exact H3 j r y (uh o.h g.h)
theorem FT{pl:X (Nat×Nat)}{g:Ie (Nat×Qo)}(m:op=.build t g)[q:uL T t zu pl](i:DH n l g.toList=some qs)(c:y_ pl zu qs cs)(j:I5 cs=true):bH T ⟨h,nx⟩ (fr n l) op=some (.agg cs,⟨h,nx⟩):=by subst m;exact d? q.h i c.h j
variable{z:I}
theorem GN{b:Nat}{m:X U}{j:Ie (Nat×Qo)}(E:op=.buildSlice t k j)(A:DH n l j.toList=some qs)[y:dY T t (.slice e)][i:i5 T e sz b z][F:oW T e zu](H:n_ zu k m)(c:x_ sz m qs cs)(C:I5 cs=true)(o:ble (k*sz) 16777216=true)(p:ble k 16777216=true)(r:Nat.beq z.cells.toList.length sz=true)(D:ck nx nx'):bH T ⟨h,nx⟩ (fr n l) op=some (.sl nx 0 k k,⟨(nx,.row cs e)::h,nx'⟩):=by subst E;have G:=D.h;subst G;obtain⟨a,J,q,g1,g2,K⟩:=F.h;have g:=i.h;rw[g1]at g;cases g;exact F2 y.h i.h A o p r g2 (by rw[H.h];exact c.h) C
variable{Y:Sg}
theorem FW(g:op=.move x)(i:bM n l x=some u):bH T Y (fr n l) op=some (u,Y):=by subst g;exact kN i
theorem FX(g:op=.assign x)(i:bM n l x=some u):bH T Y (fr n l) op=some (u,Y):=by subst g;exact qsb i
variable{y:Qo}
theorem FZ{b:BinOp}{C:TypeId}{k g:IntKind}{i j:Int}{r:I}(m:op=.binOp b t x y C)(p:bM n l x=some (.int k i))(A:bM n l y=some (.int g j))[q:M9 b k i g j r](o:jL r=some u):bH T Y (fr n l) op=some (u,Y):=by subst m;exact wY p A q.h o
theorem GH{c b:Qo}{t:Rl}(i:op=.pick c a b)(g:bM n l c=some (.bool t))(j:t=true)(m:bM n l a=some u):bH T Y (fr n l) op=some (u,Y):=by subst i;exact qwj g j m
theorem GI{c b:Qo}{t:Rl}(i:op=.pick c a b)(g:bM n l c=some (.bool t))(j:t=false)(m:bM n l b=some u):bH T Y (fr n l) op=some (u,Y):=by subst i;exact qwi g j m
theorem GG{i:Nat}(g:op=.extract x i)(m:bM n l x=some (.a7 q))(j:nth q i=some u):bH T Y (fr n l) op=some (u,Y):=by subst g;exact z8q m j
theorem GM{b:UnOp}{v1 g:I}(m:op=.unOp b t x)(p:bM n l x=some v)(i:cK v=some v1)(j:T5 b v1=some g)(o:jL g=some u):bH T Y (fr n l) op=some (u,Y):=by subst m;exact VC p i j o
theorem HF{E C G:TypeId}{a st A K r j o:Nat}{m:f}{p:X U}(L:op=.call { callee:=.builtin .append,args:=args,argTypes:=ts })(H:args.toList=[x,y])(O:ts.toList=[t,E])(Q:bM n l x=some (.vl a st 0 xs.length))(S:bM n l y=some (.sl K 0 1 1))[d1:dY T t (.slice e)][d2:dY T E (.slice G)][g:fP h a (.vec (xs.map c).flatten e r st)][i:i5 T e j o z][g2:fP h K (.row q C)][s:ON q 0 j cs][w:XT cs p][d:jF c p m][W:gH c j][D:s_ st A][ug:XU h a (.vec (List.map c<|xs++[m]).flatten e j A) h'](F:r=j)(M:ble 1 j=true)(J:xR cs=(List.map c [m]).flatten)(V:Nat.beq z.cells.toList.length j=true)(N:(xs.length+1)*o<=140737488355328/\xs.length+1<=140737488355328):bH T ⟨h,nx⟩ (fr n l) op=some (.vl a A 0 (xs++[m]).length,⟨h',nx⟩):=by subst L;subst F;obtain⟨sz,rfl⟩:∃sz,r=sz+1:=⟨r-1,by have:=zY M;omega⟩;have C:=D.h;subst C;have:=rG (Y:=⟨h,nx⟩) H O Q S (CE c [m] d1.h d2.h i.h V W.h g.h (DM c [m] (q:=q) (by simp only[rowOf,g2.h]) (by rw[Nat.one_mul];exact s.h) rfl J) N);rw[ug.h]at this;exact this
theorem vS{C F:TypeId}{a st p o j m:Nat}{ys:X f}(H:op=.call { callee:=.builtin .append,args:=args,argTypes:=ts })(G:args.toList=[x,y])(L:ts.toList=[t,C])(M:bM n l x=some (.vl a st 0 xs.length))(N:bM n l y=some (.O b<|ys.map c))[d1:dY T t (.slice e)][d2:dY T C (.slice F)][g:fP h a (.vec (xs.map c).flatten e o st)][i:i5 T e j m z][A:gH c j][r:s_ st p][ug:XU h a (.vec (List.map c<|xs++ys).flatten e j p) h'](D:o=j)(J:ble 1 j=true)(O:Nat.beq z.cells.toList.length j=true)(K:(xs.length+ys.length)*m<=140737488355328/\xs.length+ys.length<=140737488355328):bH T ⟨h,nx⟩ (fr n l) op=some (.vl a p 0 (xs++ys).length,⟨h',nx⟩):=by subst H;subst D;obtain⟨sz,rfl⟩:∃sz,o=sz+1:=⟨o-1,by have:=zY J;omega⟩;have E:=r.h;subst E;have:=rG (Y:=⟨h,nx⟩) G L M N<|CE c ys d1.h d2.h i.h O A.h g.h (Lq c A.h) K;rw[ug.h]at this;exact this
end
variable{v11:Prop}
theorem uN (h:v11:=by first
 |exact Go.Vx.EA rfl rfl rfl rfl
 |exact Go.Vx.EB rfl rfl rfl rfl
 |exact Go.Vx.EC rfl rfl (by exact rfl) (by exact Go.Vx.qL.h) (by exact rfl)
 |exact Go.Vx.EE rfl rfl (by exact rfl) (by exact Go.Vx.qL.h) (by exact Go.Vx.CL.h)
 |exact Go.Vx.EG rfl rfl rfl
 |exact Go.Vx.EH rfl rfl rfl
 |exact Go.Vx.EI rfl rfl rfl rfl
 |exact Go.Vx.EL rfl rfl rfl rfl
 |exact Go.Vx.EO rfl rfl rfl
 |exact Go.Vx.EW rfl
 |exact Go.Vx.FN rfl rfl rfl rfl rfl
 |exact Go.Vx.FT rfl rfl (by exact inferInstance) rfl):v11:=h
theorem CM (h:v11:=by first
 |exact Go.Vx.FW rfl rfl
 |exact Go.Vx.FX rfl rfl
 |exact Go.Vx.FZ rfl rfl rfl rfl
 |exact Go.Vx.GG rfl rfl rfl
 |exact Go.Vx.GH rfl rfl (by first |with_reducible_and_instances assumption |exact rfl) rfl
 |exact Go.Vx.GI rfl rfl (by first |with_reducible_and_instances assumption |exact rfl) rfl
 |exact Go.Vx.GM rfl rfl rfl rfl rfl
 |exact Go.Vx.uN):v11:=h
theorem AH (h:v11:=by first
 |exact Go.Vx.GN rfl rfl (by exact inferInstance) (by exact inferInstance) rfl rfl rfl rfl (by exact inferInstance)
 |exact Go.Vx.HF rfl rfl rfl rfl rfl rfl rfl rfl rfl (by with_reducible assumption)
 |exact Go.Vx.vS rfl rfl rfl rfl rfl rfl rfl rfl (by with_reducible assumption)
 |exact Go.Vx.uN):v11:=h
section
variable{T:Tb}{a r:X Oper}{o:Oper}{n:Nat}{l:X (Nat×U)}{Y Y':Sg}{u:U}{C:PG}{K:X U->Sg->Prop}{d:Tmp}
theorem cE(i:RU C T a r (fr n ((d,u)::l)) Y' K)(h:bH T Y (fr n l) o.op=some (u,Y'):=by exact Go.Vx.AH)(g:o.dst=some d:=by exact rfl)(j:c9 a (fr n l) o=some true:=by exact Go.Vx.wA)(e:blt d n=true:=by exact rfl):RU C T a (o::r) (fr n l) Y K:=RS.op j h g e i
variable{P:Ib}{c:X RK}{K:X RK->X U->Sg->Prop}
theorem dS(i:RH P T a r (fr n ((d,u)::l)) Y' ((3,⟨fr n l,o,u,true,true,Y,Y'⟩)::c) K)(h:bH T Y (fr n l) o.op=some (u,Y'):=by exact Go.Vx.AH)(g:o.dst=some d:=by exact rfl)(j:c9 a (fr n l) o=some true:=by exact Go.Vx.wA)(e:blt d n=true:=by exact rfl):RH P T a (o::r) (fr n l) Y c K:=RD.act j h g e i
theorem tC(g:RH P T a r (fr n l) Y' ((3,⟨fr n l,o,u,true,true,Y,Y'⟩)::c) K)(h:bH T Y (fr n l) o.op=some (u,Y'):=by exact Go.Vx.AH)(e:o.dst=none:=by exact rfl)(i:c9 a (fr n l) o=some true:=by exact Go.Vx.wA):RH P T a (o::r) (fr n l) Y c K:=SQ i h e g
theorem RD.ou(i:RH P T a r (fr n ((d,u)::l)) Y ((1,⟨fr n l,o,u,false,false,Y,Y⟩)::c) K)(h:bH T Y (fr n l) o.op=some (u,Y):=by exact Go.Vx.CM)(g:o.dst=some d:=by exact rfl)(j:c9 a (fr n l) o=some true:=by exact Go.Vx.wA)(e:blt d n=true:=by exact rfl):RH P T a (o::r) (fr n l) Y c K:=RD.look j h g e i
theorem RD.nt{e:Tmp}{j:Nat}{b:Rl}(p:o.guard=some (j,true))(q:CC a j=some e)(v:bM n l (.tmp e)=some (.bool b))(g:b=false)(m:o.dst=some d)(t:RH P T a r (fr n ((d,.a7 [])::l)) Y ((0,⟨fr n l,o,.a7 [],false,false,Y,Y⟩)::c) K)(i:blt d n=true:=by exact rfl):RH P T a (o::r) (fr n l) Y c K:=RD.no (yq p q v g) m i t
theorem RD.nf{e:Tmp}{j:Nat}{b:Rl}(p:o.guard=some (j,false))(q:CC a j=some e)(v:bM n l (.tmp e)=some (.bool b))(g:b=true)(m:o.dst=some d)(t:RH P T a r (fr n ((d,.a7 [])::l)) Y ((0,⟨fr n l,o,.a7 [],false,false,Y,Y⟩)::c) K)(i:blt d n=true:=by exact rfl):RH P T a (o::r) (fr n l) Y c K:=RD.no (yq p q v g) m i t
theorem dO{K:X U->Sg->Prop}{e:Type}{i:X e}{z:Int}{y:e}(g:aC i z=some y)(p:RU C T a r (fr n ((d,u)::l)) Y K)(h:aC i z=some y->bH T Y (fr n l) o.op=some (u,Y):=by intro g;exact Go.Vx.AI rfl rfl rfl g)(m:o.dst=some d:=by exact rfl)(q:c9 a (fr n l) o=some true:=by exact Go.Vx.wA)(j:blt d n=true:=by exact rfl):RU C T a (o::r) (fr n l) Y K:=RS.op q (h g) m j p
theorem iR{e:Type}{i:X e}{z:Int}{y:e}(g:aC i z=some y)(p:RH P T a r (fr n ((d,u)::l)) Y ((1,⟨fr n l,o,u,false,false,Y,Y⟩)::c) K)(h:aC i z=some y->bH T Y (fr n l) o.op=some (u,Y):=by intro g;exact Go.Vx.AI rfl rfl rfl g)(m:o.dst=some d:=by exact rfl)(q:c9 a (fr n l) o=some true:=by exact Go.Vx.wA)(j:blt d n=true:=by exact rfl):RH P T a (o::r) (fr n l) Y c K:=RD.look q (h g) m j p
theorem RS.ou{K:X U->Sg->Prop}(i:RU C T a r (fr n ((d,u)::l)) Y' K)(h:bH T Y (fr n l) o.op=some (u,Y'):=by exact Go.Vx.uN)(g:o.dst=some d:=by exact rfl)(j:c9 a (fr n l) o=some true:=by exact Go.Vx.wA)(e:blt d n=true:=by exact rfl):RU C T a (o::r) (fr n l) Y K:=RS.op j h g e i
theorem RS.oz{K:X U->Sg->Prop}(g:RU C T a r (fr n l) Y' K)(h:bH T Y (fr n l) o.op=some (u,Y'):=by exact Go.Vx.uN)(e:o.dst=none:=by exact rfl)(i:c9 a (fr n l) o=some true:=by exact Go.Vx.wA):RU C T a (o::r) (fr n l) Y K:=RS.oP i h e g
end
theorem gd{B:Prop}(h:B) (g:Hd B->v11:=by
 intro h
 repeat' first
  |(refine Go.Vx.RD.nt rfl rfl rfl ?_ rfl ?_;· first |with_reducible_and_instances assumption |exact rfl)
  |(refine Go.Vx.RD.nf rfl rfl rfl ?_ rfl ?_;· first |with_reducible_and_instances assumption |exact rfl)
  |refine Go.Vx.RD.ou ?_
 exact h.h):v11:=g ⟨h⟩
theorem gs{B: Prop}(h:B) (g:Hd B->v11:=by
  intro h
  first
    |refine Go.Vx.gq ?_
    |with_reducible refine Go.Vx.sq ?_
    |with_reducible refine Go.Vx.I6.skip ?_
    |with_reducible refine Go.Vx.RS.done ?_
    |with_reducible refine Go.Vx.I6.ret ?_
    |with_reducible refine Go.Vx.I6.exit ?_
    |(refine Go.Vx.RS.nt rfl rfl rfl ?_ rfl rfl ?_;· first |with_reducible_and_instances assumption |exact rfl)
    |(refine Go.Vx.RS.nf rfl rfl rfl ?_ rfl rfl ?_;· first |with_reducible_and_instances assumption |exact rfl)
    |(refine Go.Vx.RS.mo rfl rfl rfl ?_ rfl ?_;· exact Go.Vx.wA)
    |(refine Go.Vx.RS.in rfl rfl rfl rfl rfl ?_ rfl ?_;· exact Go.Vx.wA)
    | (refine Go.Vx.RS.DV rfl rfl ?_ rfl rfl ?_ rfl ?_; · first | with_reducible_and_instances assumption | exact rfl
       exact Go.Vx.wA)
    | (refine Go.Vx.RS.p0 rfl rfl ?_ rfl rfl ?_ rfl ?_; · first | with_reducible_and_instances assumption | exact rfl
       exact Go.Vx.wA)
    |(refine Go.Vx.RS.a rfl rfl rfl ?_ rfl ?_;· exact Go.Vx.wA)
    |(refine Go.Vx.RS.ex rfl rfl rfl rfl ?_ rfl ?_;· exact Go.Vx.wA)
    |(refine Go.Vx.RS.un rfl rfl rfl rfl rfl rfl ?_ rfl ?_;· exact Go.Vx.wA)
    |refine Go.Vx.RS.ou ?_
    |refine Go.Vx.RS.oz ?_
  exact h.h):v11:=g ⟨h⟩
theorem go{B:Prop}(h:B)(g:Hd B->v11:=by intro h;(repeat' first |refine Go.Vx.gs ?_ |refine Go.Vx.AJ rfl ?_);exact h.h):v11:=g ⟨h⟩
theorem gn{B:Prop}(h:B)(g:Hd B->v11:=by intro h;(repeat' refine Go.Vx.gs ?_);exact h.h):v11:=g ⟨h⟩
theorem gr{B:Prop}(h:B)(g:Hd B->v11:=by intro h;refine Go.Vx.gn ?_;refine Go.Vx.AJ rfl ?_;refine Go.Vx.gn ?_;exact h.h):v11:=g ⟨h⟩
theorem gx{d:Type}{a b:d}(h:some a=some b)(g:a=b->v11:=by intro e;subst e;refine Go.Vx.go ?_;exact Go.Vx.jO rfl rfl rfl rfl):v11:=g (sI h)
theorem gy{d:Type}{a b:d}(h:some a=some b)(g:a=b->v11:=by intro e;subst e;refine Go.Vx.go ?_;exact Go.Vx.xC ⟨rfl,rfl⟩):v11:=g (sI h)
theorem gB{d:Type}{t:Rl}{a b r:A d}(h:cond t a b=r):(t=true/\a=r)\/(t=false/\b=r):=by cases t;exact .inr ⟨rfl,h⟩;exact .inl ⟨rfl,h⟩
abbrev B.bv{a:Type}(c:a->X U)(l:X a)(e:TypeId)(d st:Nat):B:=.vec (l.map c).flatten e d st
abbrev dL(P:Ib)(f:FuncId)(args:X U)(u:U):Prop:=aT P f args ⟨[],0⟩ (fun a _=>a=u/\aS 0 a)
section
variable{C:PG}{n0 n:Nat}{Q:Exit->X U->Sg->Prop}{l:X (Nat×U)}{h:X (Nat×B)}{nx:Nat}{c:Code}
theorem gV(i:Nat)(e:TypeId)(a d:Nat)(p:I6 C n0 c (fr n ((i,.vl nx 0 0 0)::l)) ⟨(nx,.vec [] e a 0)::h,d⟩ Q)(j:bM n l (.tmp i)=some .J:=by exact rfl)(o:blt 0 a=true:=by exact rfl)(m:nx+1=d:=by exact rfl)(h0:n0<=nx:=by first |exact qq _ |exact zY rfl)(g:i_ n (some i)=true:=by exact rfl):I6 C n0 c (fr n l) ⟨h,nx⟩ Q:=by subst m;refine dJ (Gh.uI i e a ?_ h0 j g) (XK h0) p;exact lt_of_succ_le (zY o)
theorem gL{l':X (Nat×U)}{Y:Sg}{id:Nat}(a:Nat->X U->Sg->Prop)(E:X U->Sg->Prop)(k:Nat)(p:a k (fr n l') Y)
  (out:∀d Y,E d Y->Q .normal d Y)
  (round:∀m d Y,a m d Y->I6 C n0 c d Y (wS (fun g o=>∃j i e,j<m/\a j i e/\n0<=e.nx/\Gh n0 g o i e)<|v8 id<|AW n0 E Q))
  (q:n0<=Y.nx:=by first |exact qq _ |exact zY rfl) (r:pV l l':=by((repeat refine⟨rfl,?_⟩);exact trivial)):I6 C n0 (.block id<|.loop c) (fr n l) Y Q:=dJ (Gh.sub r) q (I6.uH a E k p out round)
theorem dE{T:Tb}[t:q_ C T]{i:X U}{Y:Sg}{id:Nat}{a:Ie Oper}(d:X (Nat×Nat))(h:RH C.prog T a.toList a.toList i Y [] (fun g e j=>flE a.toList (g.reverse.map (·.1)) d=true/\sd T g.reverse d/\Q .normal e j))(m:Bq a.toList=true:=by kernel_rfl):I6 C n0 (.region id a true) i Y Q:=I6.uB t.ok d m h
end
theorem gF{o:Type}{t:Rl}{a b r:A o}{v11 d i:Prop}(O:cond t a b=r)(j:t=true->a=r->d)(m:t=false->b=r->i) (g:cond t a b=r->Hd (t=true->a=r->d)->Hd (t=false->b=r->i)->v11:=by intro e h k;refine Go.Vx.go ?_;exact Go.Vx.cF e h.h k.h):v11:=g O ⟨j⟩ ⟨m⟩
abbrev qY{Z:Type}(K:A Z)(L:X (Nat×U))(v10:Sg)(r:Z)(n:Nat)(a:X U)(Y:Sg):Prop:=K=some r/\a=fr n L/\Y=v10
variable{Z:Type}{L:X (Nat×U)}{v10:Sg}{r:Z}{n:Nat}{Q:X U->Sg->Prop}
theorem tX{K:A Z}(h:K=some r->Q (fr n L) v10):∀a Y,qY K L v10 r n a Y->Q a Y:=by rintro _ _ ⟨J,rfl,rfl⟩;exact h J
section
variable{C:PG}{n0 n nx:Nat}{Q:Exit->X U->Sg->Prop}{l:X (Nat×U)}{c:Code}{Y:Sg}{id:Nat}{h:X (Nat×B)}
theorem Wx0{K:A Z}(J:K=some r)(j:pV l L:=by((repeat refine⟨rfl,?_⟩);exact trivial))(i:Vx.cut v10.nx h=v10.h:=by exact rfl)(e:n0<=v10.nx:=by first |exact qq _ |exact zY rfl)(g:v10.nx<=nx:=by exact zY rfl)[m:BS v10.nx L][o:BH v10.nx v10.h]:∃a d,qY K L v10 r n a d/\n0<=d.nx/\Gh n0 (fr n l) ⟨h,nx⟩ a d:=xC ⟨J,rfl,rfl⟩ j i e g
theorem Wn0{m:Nat}{K:Nat->A Z}(J:K m=some r)(o:pV l L:=by((repeat refine⟨rfl,?_⟩);exact trivial))(j:Vx.cut v10.nx h=v10.h:=by exact rfl)(e:n0<=v10.nx:=by first |exact qq _ |exact zY rfl)(i:v10.nx<=nx:=by exact zY rfl)[p:BS v10.nx L][q:BH v10.nx v10.h]:∃g a d,g<m+1/\qY (K g) L v10 r n a d/\n0<=d.nx/\Gh n0 (fr n l) ⟨h,nx⟩ a d:=⟨m,_,_,zN _,⟨J,rfl,rfl⟩,e,OE o j e i⟩
end
abbrev pR{a:Type}{Z:Type}(K:a->A Z)(L:a->X (Nat×U))(v10:a->Sg)(r:Z)(n:Nat)(e:X U)(Y:Sg):Prop:=∃d,K d=some r/\e=fr n (L d)/\Y=v10 d
variable{d:Type}
theorem tW{K:d->A Z}{L:d->X (Nat×U)}{v10:d->Sg}(h:∀a,K a=some r->Q (fr n<|L a) (v10 a)):∀e Y,pR K L v10 r n e Y->Q e Y:=by rintro _ _ ⟨a,J,rfl,rfl⟩;exact h a J
section
variable{C:PG}{n0 n nx:Nat}{Q:Exit->X U->Sg->Prop}{l:X (Nat×U)}{c:Code}{Y:Sg}{id:Nat}{h:X (Nat×B)}{a:d}
theorem oX{k:Nat}(K:Nat->d->A Z)(L:d->X (Nat×U))(v10:d->Sg)(E:Z->Nat->X U->Sg->Prop)(J:K k a=some r)(out:∀o Y,E r n o Y->Q .normal o Y)
  (round:∀m a,K (m+1) a=some r->I6 C n0 c (fr n<|L a) (v10 a) (wS (fun g p=>∃j i e,j<m+1/\pR (K j) L v10 r n i e/\n0<=e.nx/\Gh n0 g p i e)<|v8 id<|AW n0 (E r n) Q))
  (t:n0<=(v10 a).nx:=by first |exact qq _ |exact zY rfl) (v:pV l (L a):=by((repeat refine⟨rfl,?_⟩);exact trivial)) (q:∀a,K 0 a=none:=by intros;rfl):I6 C n0 (.block id<|.loop c) (fr n l) (v10 a) Q :=
 gL (fun m=>pR (K m) L v10 r n) (E r n) k ⟨a,J,rfl,rfl⟩ out (fun m=>by
  rintro _ _ ⟨a,J,rfl,rfl⟩;cases m with
  |zero=>rw[q]at J;cases J|succ m=>exact round m a J) t v
theorem yd(r:Z)(K:d->A Z)(L:d->X (Nat×U))(v10:d->Sg)(out:∀a,K a=some r->Q .normal (fr n<|L a) (v10 a))(h:I6 C n0 c (fr n l) Y (AW n0 (pR K L v10 r n) Q)):I6 C n0 c (fr n l) Y Q:=OG _ (tW out) h
theorem Wx1{K:d->A Z}{L:d->X (Nat×U)}{v10:d->Sg}(J:K a=some r)(o:pV l (L a):=by((repeat refine⟨rfl,?_⟩);exact trivial))(m:Vx.cut (v10 a).nx h=(v10 a).h:=by exact rfl)(i:n0<=(v10 a).nx:=by first |exact qq _ |exact zY rfl)(j:(v10 a).nx<=nx:=by exact zY rfl)[p:BS (v10 a).nx (L a)][q:BH (v10 a).nx (v10 a).h]:∃e g,pR K L v10 r n e g/\n0<=g.nx/\Gh n0 (fr n l) ⟨h,nx⟩ e g:=xC ⟨a,J,rfl,rfl⟩ o m i j
theorem Wn1{m:Nat}{K:Nat->d->A Z}{L:d->X (Nat×U)}{v10:d->Sg}(J:K m a=some r)(q:pV l (L a):=by((repeat refine⟨rfl,?_⟩);exact trivial))(p:Vx.cut (v10 a).nx h=(v10 a).h:=by exact rfl)(i:n0<=(v10 a).nx:=by first |exact qq _ |exact zY rfl)(o:(v10 a).nx<=nx:=by exact zY rfl)[t:BS (v10 a).nx (L a)][v:BH (v10 a).nx (v10 a).h]:∃j e g,j<m+1/\pR (K j) L v10 r n e g/\n0<=g.nx/\Gh n0 (fr n l) ⟨h,nx⟩ e g:=⟨m,_,_,zN _,⟨a,J,rfl,rfl⟩,i,OE q p i o⟩
end
abbrev kW{d g:Type}{Z:Type}(K:d->g->A Z)(L:d->g->X (Nat×U))(v10:d->g->Sg)(r:Z)(n:Nat)(i:X U)(Y:Sg):Prop:=∃a e,K a e=some r/\i=fr n (L a e)/\Y=v10 a e
variable{f:Type}
theorem mR{K:d->f->A Z}{L:d->f->X (Nat×U)}{v10:d->f->Sg}(h:∀a e,K a e=some r->Q (fr n<|L a e) (v10 a e)):∀g Y,kW K L v10 r n g Y->Q g Y:=by rintro _ _ ⟨a,e,J,rfl,rfl⟩;exact h a e J
section
variable{C:PG}{n0 n nx:Nat}{Q:Exit->X U->Sg->Prop}{l:X (Nat×U)}{c:Code}{Y:Sg}{id:Nat}{h:X (Nat×B)}{a:d}{b:f}
theorem BV{k:Nat}(K:Nat->d->f->A Z)(L:d->f->X (Nat×U))(v10:d->f->Sg)(E:Z->Nat->X U->Sg->Prop)(J:K k a b=some r)(out:∀o Y,E r n o Y->Q .normal o Y)
  (round:∀m a b,K (m+1) a b=some r->I6 C n0 c (fr n<|L a b) (v10 a b) (wS (fun g p=>∃j i e,j<m+1/\kW (K j) L v10 r n i e/\n0<=e.nx/\Gh n0 g p i e)<|v8 id<|AW n0 (E r n) Q))
  (t:n0<=(v10 a b).nx:=by first |exact qq _ |exact zY rfl) (v:pV l (L a b):=by((repeat refine⟨rfl,?_⟩);exact trivial)) (q:∀a b,K 0 a b=none:=by intros;rfl):I6 C n0 (.block id<|.loop c) (fr n l) (v10 a b) Q :=
 gL (fun m=>kW (K m) L v10 r n) (E r n) k ⟨a,b,J,rfl,rfl⟩ out (fun m=>by
  rintro _ _ ⟨a,b,J,rfl,rfl⟩;cases m with
  |zero=>rw[q]at J;cases J|succ m=>exact round m a b J) t v
theorem M7(r:Z)(K:d->f->A Z)(L:d->f->X (Nat×U))(v10:d->f->Sg)(out:∀a b,K a b=some r->Q .normal (fr n<|L a b) (v10 a b))(h:I6 C n0 c (fr n l) Y (AW n0 (kW K L v10 r n) Q)):I6 C n0 c (fr n l) Y Q:=OG _ (mR out) h
theorem Wx2{K:d->f->A Z}{L:d->f->X (Nat×U)}{v10:d->f->Sg}(J:K a b=some r)(o:pV l (L a b):=by((repeat refine⟨rfl,?_⟩);exact trivial))(m:Vx.cut (v10 a b).nx h=(v10 a b).h:=by exact rfl)(i:n0<=(v10 a b).nx:=by first |exact qq _ |exact zY rfl)(j:(v10 a b).nx<=nx:=by exact zY rfl)[p:BS (v10 a b).nx (L a b)][q:BH (v10 a b).nx (v10 a b).h]:∃e g,kW K L v10 r n e g/\n0<=g.nx/\Gh n0 (fr n l) ⟨h,nx⟩ e g:=xC ⟨a,b,J,rfl,rfl⟩ o m i j
theorem Wn2{m:Nat}{K:Nat->d->f->A Z}{L:d->f->X (Nat×U)}{v10:d->f->Sg}(J:K m a b=some r)(q:pV l (L a b):=by((repeat refine⟨rfl,?_⟩);exact trivial))(p:Vx.cut (v10 a b).nx h=(v10 a b).h:=by exact rfl)(i:n0<=(v10 a b).nx:=by first |exact qq _ |exact zY rfl)(o:(v10 a b).nx<=nx:=by exact zY rfl)[t:BS (v10 a b).nx (L a b)][v:BH (v10 a b).nx (v10 a b).h]:∃j e g,j<m+1/\kW (K j) L v10 r n e g/\n0<=g.nx/\Gh n0 (fr n l) ⟨h,nx⟩ e g:=⟨m,_,_,zN _,⟨a,b,J,rfl,rfl⟩,i,OE q p i o⟩
end
abbrev Jl{d f g:Type}{Z:Type}(K:d->f->g->A Z)(L:d->f->g->X (Nat×U))(v10:d->f->g->Sg)(r:Z)(n:Nat)(i:X U)(Y:Sg):Prop:=∃a e a3,K a e a3=some r/\i=fr n (L a e a3)/\Y=v10 a e a3
variable{i:Type}
theorem Wo3{K:d->f->i->A Z}{L:d->f->i->X (Nat×U)}{v10:d->f->i->Sg}(h:∀a e a3,K a e a3=some r->Q (fr n<|L a e a3) (v10 a e a3)):∀g Y,Jl K L v10 r n g Y->Q g Y:=by rintro _ _ ⟨a,e,a3,J,rfl,rfl⟩;exact h a e a3 J
section
variable{C:PG}{n0 n nx:Nat}{Q:Exit->X U->Sg->Prop}{l:X (Nat×U)}{c:Code}{Y:Sg}{id:Nat}{h:X (Nat×B)}{a:d}{b:f}{a3:i}
theorem nN{k:Nat}(K:Nat->d->f->i->A Z)(L:d->f->i->X (Nat×U))(v10:d->f->i->Sg)(E:Z->Nat->X U->Sg->Prop)(J:K k a b a3=some r)(out:∀p Y,E r n p Y->Q .normal p Y)
  (round:∀m a b a3,K (m+1) a b a3=some r->I6 C n0 c (fr n<|L a b a3) (v10 a b a3) (wS (fun g q=>∃o j e,o<m+1/\Jl (K o) L v10 r n j e/\n0<=e.nx/\Gh n0 g q j e)<|v8 id<|AW n0 (E r n) Q))
  (v:n0<=(v10 a b a3).nx:=by first |exact qq _ |exact zY rfl) (w:pV l (L a b a3):=by((repeat refine⟨rfl,?_⟩);exact trivial)) (t:∀a b a3,K 0 a b a3=none:=by intros;rfl):I6 C n0 (.block id<|.loop c) (fr n l) (v10 a b a3) Q :=
 gL (fun m=>Jl (K m) L v10 r n) (E r n) k ⟨a,b,a3,J,rfl,rfl⟩ out (fun m=>by
  rintro _ _ ⟨a,b,a3,J,rfl,rfl⟩;cases m with
  |zero=>rw[t]at J;cases J|succ m=>exact round m a b a3 J) v w
theorem Wj3(r:Z)(K:d->f->i->A Z)(L:d->f->i->X (Nat×U))(v10:d->f->i->Sg)(out:∀a b a3,K a b a3=some r->Q .normal (fr n<|L a b a3) (v10 a b a3))(h:I6 C n0 c (fr n l) Y (AW n0 (Jl K L v10 r n) Q)):I6 C n0 c (fr n l) Y Q:=OG _ (Wo3 out) h
theorem Wx3{K:d->f->i->A Z}{L:d->f->i->X (Nat×U)}{v10:d->f->i->Sg}(J:K a b a3=some r)(p:pV l (L a b a3):=by((repeat refine⟨rfl,?_⟩);exact trivial))(o:Vx.cut (v10 a b a3).nx h=(v10 a b a3).h:=by exact rfl)(j:n0<=(v10 a b a3).nx:=by first |exact qq _ |exact zY rfl)(m:(v10 a b a3).nx<=nx:=by exact zY rfl)[q:BS (v10 a b a3).nx (L a b a3)][t:BH (v10 a b a3).nx (v10 a b a3).h]:∃e g,Jl K L v10 r n e g/\n0<=g.nx/\Gh n0 (fr n l) ⟨h,nx⟩ e g:=xC ⟨a,b,a3,J,rfl,rfl⟩ p o j m
theorem Wn3{m:Nat}{K:Nat->d->f->i->A Z}{L:d->f->i->X (Nat×U)}{v10:d->f->i->Sg}(J:K m a b a3=some r)(t:pV l (L a b a3):=by((repeat refine⟨rfl,?_⟩);exact trivial))(q:Vx.cut (v10 a b a3).nx h=(v10 a b a3).h:=by exact rfl)(j:n0<=(v10 a b a3).nx:=by first |exact qq _ |exact zY rfl)(p:(v10 a b a3).nx<=nx:=by exact zY rfl)[v:BS (v10 a b a3).nx (L a b a3)][w:BH (v10 a b a3).nx (v10 a b a3).h]:∃o e g,o<m+1/\Jl (K o) L v10 r n e g/\n0<=g.nx/\Gh n0 (fr n l) ⟨h,nx⟩ e g:=⟨m,_,_,zN _,⟨a,b,a3,J,rfl,rfl⟩,j,OE t q j p⟩
end
abbrev o_{d f i g:Type}{Z:Type}(K:d->f->i->g->A Z)(L:d->f->i->g->X (Nat×U))(v10:d->f->i->g->Sg)(r:Z)(n:Nat)(j:X U)(Y:Sg):Prop:=∃a e a3 a4,K a e a3 a4=some r/\j=fr n (L a e a3 a4)/\Y=v10 a e a3 a4
section
variable{C:PG}{n0 n nx:Nat}{Q:Exit->X U->Sg->Prop}{l:X (Nat×U)}{c:Code}{Y:Sg}{id:Nat}{h:X (Nat×B)}{a:Type}{b:d}{e:f}{a3:i}{a4:a}
theorem Wl4{k:Nat}(K:Nat->d->f->i->a->A Z)(L:d->f->i->a->X (Nat×U))(v10:d->f->i->a->Sg)(E:Z->Nat->X U->Sg->Prop)(J:K k b e a3 a4=some r)(out:∀q Y,E r n q Y->Q .normal q Y)
  (round:∀m b e a3 a4,K (m+1) b e a3 a4=some r->I6 C n0 c (fr n<|L b e a3 a4) (v10 b e a3 a4) (wS (fun j t=>∃p o g,p<m+1/\o_ (K p) L v10 r n o g/\n0<=g.nx/\Gh n0 j t o g)<|v8 id<|AW n0 (E r n) Q))
  (w:n0<=(v10 b e a3 a4).nx:=by first |exact qq _ |exact zY rfl) (x:pV l (L b e a3 a4):=by((repeat refine⟨rfl,?_⟩);exact trivial)) (v:∀b e a3 a4,K 0 b e a3 a4=none:=by intros;rfl):I6 C n0 (.block id<|.loop c) (fr n l) (v10 b e a3 a4) Q :=
 gL (fun m=>o_ (K m) L v10 r n) (E r n) k ⟨b,e,a3,a4,J,rfl,rfl⟩ out (fun m=>by
  rintro _ _ ⟨b,e,a3,a4,J,rfl,rfl⟩;cases m with
  |zero=>rw[v]at J;cases J|succ m=>exact round m b e a3 a4 J) w x
theorem Wx4{K:d->f->i->a->A Z}{L:d->f->i->a->X (Nat×U)}{v10:d->f->i->a->Sg}(J:K b e a3 a4=some r)(q:pV l (L b e a3 a4):=by((repeat refine⟨rfl,?_⟩);exact trivial))(p:Vx.cut (v10 b e a3 a4).nx h=(v10 b e a3 a4).h:=by exact rfl)(m:n0<=(v10 b e a3 a4).nx:=by first |exact qq _ |exact zY rfl)(o:(v10 b e a3 a4).nx<=nx:=by exact zY rfl)[t:BS (v10 b e a3 a4).nx (L b e a3 a4)][v:BH (v10 b e a3 a4).nx (v10 b e a3 a4).h]:∃g j,o_ K L v10 r n g j/\n0<=j.nx/\Gh n0 (fr n l) ⟨h,nx⟩ g j:=xC ⟨b,e,a3,a4,J,rfl,rfl⟩ q p m o
theorem Wn4{m:Nat}{K:Nat->d->f->i->a->A Z}{L:d->f->i->a->X (Nat×U)}{v10:d->f->i->a->Sg}(J:K m b e a3 a4=some r)(v:pV l (L b e a3 a4):=by((repeat refine⟨rfl,?_⟩);exact trivial))(t:Vx.cut (v10 b e a3 a4).nx h=(v10 b e a3 a4).h:=by exact rfl)(o:n0<=(v10 b e a3 a4).nx:=by first |exact qq _ |exact zY rfl)(q:(v10 b e a3 a4).nx<=nx:=by exact zY rfl)[w:BS (v10 b e a3 a4).nx (L b e a3 a4)][x:BH (v10 b e a3 a4).nx (v10 b e a3 a4).h]:∃p g j,p<m+1/\o_ (K p) L v10 r n g j/\n0<=j.nx/\Gh n0 (fr n l) ⟨h,nx⟩ g j:=⟨m,_,_,zN _,⟨b,e,a3,a4,J,rfl,rfl⟩,o,OE v t o q⟩
end
section
variable{C:PG}{n0 n nx:Nat}{Q:Exit->X U->Sg->Prop}{l:X (Nat×U)}{c:Code}{Y:Sg}{h:X (Nat×B)}
abbrev Wez(L:X (Nat×U))(v10:Sg)(n:Nat)(a:X U)(Y:Sg):Prop:=a=fr n L/\Y=v10
theorem kI(L:X (Nat×U))(v10:Sg)(out:Q .normal (fr n L) v10)(h:I6 C n0 c (fr n l) Y (AW n0 (Wez L v10 n) Q)):I6 C n0 c (fr n l) Y Q:=OG _ (by rintro _ _ ⟨rfl,rfl⟩;exact out) h
theorem mL(o:pV l L:=by((repeat refine⟨rfl,?_⟩);exact trivial))(m:Vx.cut v10.nx h=v10.h:=by exact rfl)(g:n0<=v10.nx:=by first |exact qq _ |exact zY rfl)(j:v10.nx<=nx:=by exact zY rfl)[p:BS v10.nx L][q:BH v10.nx v10.h]:∃a e,Wez L v10 n a e/\n0<=e.nx/\Gh n0 (fr n l) ⟨h,nx⟩ a e:=xC ⟨rfl,rfl⟩ o m g j
end
variable{v11:Prop}
theorem gG{t:Rl}{a b r:A f}{j m:Prop}(O:cond t a b=r)(o:t=true->a=r->j)(v:t=false->b=r->m) (g:cond t a b=r->Hd (t=true->a=r->j)->Hd (t=false->b=r->m)->v11:=by intro e h k;refine go ?_;refine cF e (fun p q=>?_) k.h;refine go ?_;apply eX;exact h.h p q):v11:=g O ⟨o⟩ ⟨v⟩
variable{P:Prop}
theorem gI{B:Prop}(h:P)(k:B) (g:P->Hd B->v11:=by intro h k;refine go ?_;refine dO h ?_;refine go ?_;exact k.h):v11:=g h ⟨k⟩
theorem gJ{B:Prop}(h:P)(k:B) (g:P->Hd B->v11:=by intro h k;refine gd ?_;refine iR h ?_;refine gd ?_;exact k.h):v11:=g h ⟨k⟩
theorem wx(J:P) (g:P->v11:=by
 intro J;refine go ?_
 first |exact Wx1 J |exact Wn1 J |exact Wx2 J |exact Wn2 J |exact Wx0 J |exact Wx3 J |exact Wn3 J |exact Wx4 J |exact Wn4 J |exact Wn0 J):v11:=g J
end Go.Vx
