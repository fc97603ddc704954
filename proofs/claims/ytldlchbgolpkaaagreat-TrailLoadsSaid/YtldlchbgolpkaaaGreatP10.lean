import Derived.Test.YtldlchbgolpkaaaGreatP9
set_option linter.all false
namespace Go.Vx
open Go Go.Rx
def stF:V Nat->Nat->Nat
 |[],_=>0|a::_,0=>a
 |_::l,i+1=>stF l i
def si:V Nat->Nat->D1
 |[],_=>true|a::l,nx=>cond (DA l a) false (cond (Nat.blt a nx) (si l nx) false)
def z6o:∀{l:V Nat}{nx:Nat},si l nx=true->l.Nodup/\∀k∈l,k<nx
 |[],nx,_=>⟨List.nodup_nil,fun k h=>by cases h⟩|a::l,nx,h=>by
  simp only[si]at h;cases h1:DA l a with
  |true=>rw[h1]at h;cases h|false=>rw[h1,zD]at h;rcases h2:Nat.blt a nx with _|_;rw[h2]at h;cases h;rw[h2,zC]at h;have⟨q1,q2⟩:=z6o h;refine⟨List.nodup_cons.2 ⟨fun hm=>?_,q1⟩,fun k hk=>?_⟩;rw[(xq l a).2 hm]at h1;cases h1;rcases zI.1 hk with rfl |hk;exact zY h2;exact q2 k hk
def qy(N:Nat):V (Nat×B)->D1
 |[]=>true|(k,_)::h=>cond (Nat.blt k N) (qy N h) false
def LK(ns:V Nat)(nx:Nat)(h:V (Nat×B)):V (Nat×B)->Prop
 |[]=>True|(k,b)::r=>gt h (nm ns nx k)=some (rB (nm ns nx) b)/\LK ns nx h r
def zc9{ns:V Nat}{nx N:Nat}{h:V (Nat×B)}:∀{h0:V (Nat×B)},LK ns nx h h0->qy N h0=true->GN N h0->∀k b,gt h0 k=some b->k<N/\BelB N b/\gt h (nm ns nx k)=some (rB (nm ns nx) b)
 |[],_,_,_,k,b,hg=>by cases hg
 |(j,c)::h0,hh,hk,hb,k,b,hg=>by simp[LK]at hh;simp only[qy]at hk;rcases h2:Nat.blt j N with _|_;rw[h2]at hk;cases hk;rw[h2,zC]at hk;simp[GN]at hb;simp[gt,beq_eq]at hg;by_cases e:j=k;subst e;simp[yC,zC,zA]at hg;subst hg;exact⟨zY h2,hb.1,hh.1⟩;simp[e,yB,zD]at hg;exact zc9 hh.2 hk hb.2 k b hg
def RG(Z:Nat->Nat)(l:V U)[q:eQ 0 l]:iQ Z l=l:=MG Z l q.h
def H7{v11:Type}(Z:Nat->Nat)(c:v11->V U)(l:V v11)[q:BF c]:yK Z (l.map c)=l.map c:=de Z _ (uH c (q.h 0) l)
def Ez{K v09:Type}(Z:Nat->Nat)(kU:K->U)(vU:v09->U)(es:V (K×v09×Nat))[p:Jx kU][q:Jx vU]:(es.map (mE kU vU)).map (rM Z)=es.map (mE kU vU):=by rw[List.map_map];refine List.map_congr_left fun e _=>?_;simp[Function.comp,mE,rM,O' Z _ (p.h 0 _),O' Z _ (q.h 0 _)]
def LS(ns:V Nat)(nx N:Nat)(h:V (Nat×B)):V (Nat×B)->V (Nat×B)
 |[]=>h|(k,b)::r=>cond (Nat.blt k N) (ug (LS ns nx N h r) (nm ns nx k) (rB (nm ns nx) b)) ((nm ns nx k,rB (nm ns nx) b)::LS ns nx N h r)
def Q2(N:Nat)(h:V (Nat×B)):D1:=(List.range N).all fun k=>(gt h k).isSome
def z5l{ns:V Nat}{nx N:Nat}{h:V (Nat×B)}(hl:ns.length=N)(hi:∀i j,nm ns nx i=nm ns nx j->i=j)(E6:∀k,k<N->(gt h (nm ns nx k)).isSome=true)(iC:∀k,N<=k->gt h (nm ns nx k)=none):∀(r:V (Nat×B))(k:Nat),gt (LS ns nx N h r) k=match gt (AW ns nx r) k with
  |some b=>some b|none=>gt h k
 |[],k=>by simp[LS,AW,gt]
 |(j,b)::r,k=>by
  have ih:=z5l hl hi E6 iC r;simp[LS,AW,eN];cases hj:Nat.blt j N with
  |true=>
   have hjN:j<N:=zY hj;simp[zC,R8];by_cases e:nm ns nx j=k;subst e;have hs:=E6 j hjN;have:(gt (LS ns nx N h r) (nm ns nx j)).isSome=true:=by rw[ih];split<;>simp_all
   rcases hg:gt (LS ns nx N h r) (nm ns nx j)with _|c;rw[hg]at this;cases this;simp;simp[e,ih]
  |false=>simp[zD,eN];by_cases e:nm ns nx j=k;simp[e];simp[e,ih]
def b7.st{P:H0}{f:FuncId}{args0 args:V U}{h0:V (Nat×B)}{N N1:Nat}{U0 U1:(Nat->Nat)->U}{h1:(Nat->Nat)->V (Nat×B)}{S1:(Nat->Nat)->Sg}(ns:V Nat){X:Sg}
  (h:b7 P f args0 ⟨h0,N⟩ (fun u X'=>∃t:Nat->Nat,u=U0 t/\X'=⟨h1 t,N1⟩)) [ha:eQ N args0] [hb:BH N h0]
  (hn:si ns X.nx=true:=by rfl) (hN:ns.length=N:=by rfl) (hk:qy N h0=true:=by rfl) (qN:Q2 N h0=true:=by rfl) (hal1:∀t,Q2 N (h1 t)=true:=by intro t;rfl)
  (hh:LK ns X.nx X.h h0:=by simp only[LK,gt,Nat.beq,zC,zD,nm,rB,RG,iQ,rU,H7,Ez,and_true,true_and]<;>first |rfl |exact⟨rfl,trivial⟩|exact⟨rfl,rfl,trivial⟩|exact⟨rfl,rfl⟩)
  (bW:iQ (nm ns X.nx) args0=args:=by(simp only[nm,RG,iQ,rU,H7])<;>rfl)
  (hU:∀t,rU (nm ns X.nx) (U0 t)=U1 t:=by(intro t;simp only[nm,RG,iQ,rU,H7])<;>rfl)
  (hS:∀t,(⟨LS ns X.nx N X.h (h1 t),X.nx+(N1-N)⟩:Sg)=S1 t:=by(intro t;simp only[LS,Nat.blt,Nat.ble,Nat.sub_self,Nat.add_zero,Nat.reduceAdd,Nat.reduceSub,ug,Nat.beq,zC,zD,nm,rB,RG,iQ,rU,H7,Ez])<;>rfl):
  b7 P f args X (fun u X'=>∃t:Nat->Nat,u=U1 t/\X'=S1 t):=by
 subst hN;have⟨g1,g2⟩:=z6o hn;have oN:=zc9 hh hk hb.h;have hi:∀i j,nm ns X.nx i=nm ns X.nx j->i=j:=fun i j h=>zbu g1 g2 h;have hA:∀{h:V (Nat×B)},Q2 ns.length h=true->∀k,k<ns.length->(gt h k).isSome=true:=fun{h} he k hk=>by unfold Q2 at he;rw[List.all_eq_true]at he;exact he k (List.mem_range.2 hk)
 have E6:∀k,k<ns.length->(gt X.h (nm ns X.nx k)).isSome=true:=fun k hk=>by have:=hA qN k hk;rcases hg:gt h0 k with _|b;rw[hg]at this;cases this;rw[(oN k b hg).2.2];rfl
 intro F x vs m w cargs hx hh' k9 he dR nX;have iC:∀k,ns.length<=k->gt X.h (nm ns X.nx k)=none:=fun k hk=>by rcases hg:gt X.h (nm ns X.nx k)with _|b;rfl;have h2:=(hh'.ok (nm ns X.nx k) b (by rw[hx];exact hg)).1;rw[hx,M7 ns X.nx k hk]at h2;omega
 have h3:=b7.frame ns h X g1 g2 ha.h oN;rw[bW]at h3;have h4:b7 P f args X (fun u X'=>∃t:Nat->Nat,u=U1 t/\X'=S1 t):=b7.post h3 ?_;exact h4 F x vs m w cargs hx hh' k9 he dR nX;rintro u X' ⟨u0,Q6,⟨t,rfl,rfl⟩,sL,rfl,rfl⟩;refine⟨U1 t,S1 t,?_,?_,t,rfl,rfl⟩;rw[<-hS t];exact Nat.le_add_right _ _;rw[<-hS t,<-hU t];refine Gh.same (n0:=X.nx) (tm:=[rU (nm ns X.nx) (U0 t)]) (X:=Xh ns X ⟨h1 t,N1⟩) (LS ns X.nx ns.length X.h (h1 t)) (fun k=>?_);show _=gt (AW ns X.nx (h1 t)++IZ ns X.h) k;rw[z5l rfl hi E6 iC,ig,Nw];cases hg:gt (AW ns X.nx (h1 t)) k with
 |some b=>rfl|none=>by_cases hkn:k∈ns;exfalso;have⟨j,hj,e⟩:=List.getElem_of_mem hkn;have⟨_,e2⟩:=IX ns X.nx j hj;rw[e]at e2;rw[<-e2,ae hi]at hg;have:=hA (hal1 t) j hj;rcases G1:gt (h1 t) j with _|c;rw[G1]at this;cases this;rw[G1]at hg;cases hg;rw[if_neg hkn]
variable{n:Nat}
def zdu{F:Nat->lP->Prop}{y:Cx}{K:Nat}{l:V U}{e:TypeId}{sz t:Nat}{h:V (Nat×B)}(hy:y.X=⟨(K,.vec l e sz t)::h,K+1⟩)(hh:jY y)(hf:Fr F y)(hb:∀k b,gt h k=some b->k<K/\BelB K b)(hl:aM 0 l):
  ∃y':Cx,y'.X=⟨(K,.vec l e sz 0)::h,K+1⟩/\y'.s=y.s/\jY y'/\Fr F y'/\Ke K y y'/\∀v,aD y (.vl K t 0 n) v->aD y' (.vl K 0 0 n) v:=by
 have gy:∀j,gt y.X.h j=if K=j then some (.vec l e sz t)else gt h j:=fun j=>by rw[hy];exact eN _ _ _ _
 have Xd:∀j,gt ((K,B.vec l e sz 0)::h) j=if K=j then some (.vec l e sz 0)else gt h j:=fun j=>eN _ _ _ _;have lL:y.X.nx=K+1:=by rw[hy]
 let y':Cx:=⟨y.Y,⟨(K,.vec l e sz 0)::h,K+1⟩,y.s⟩
 have gI:Mo K y y':=by refine⟨fun j h1 h2=>⟨by show j<K+1;omega,fun b' cP=>?_⟩,fun _ _ _ h=>h⟩;have uN:gt ((K,B.vec l e sz 0)::h) j=some b':=cP;rw[Xd,if_neg (by omega)]at uN;exact⟨b',by rw[gy,if_neg (by omega)];exact uN,zF _,fun _=>⟨rfl,fun l e sz st h=>⟨l,h⟩⟩⟩
 refine⟨y',rfl,rfl,⟨fun j b hbj=>?_,fun j j' b b' i hbj hbj' h1 h2=>?_,hh.bd⟩,fun i b J=>?_,gI.ke,fun v hv=>?_⟩;have uN:gt ((K,B.vec l e sz 0)::h) j=some b:=hbj;rw[Xd]at uN;by_cases e1:K=j;subst e1;rw[if_pos rfl]at uN;cases uN;refine⟨by show K<K+1;omega,?_⟩;have⟨_,q1,q2,q3⟩:=hh.ok K (.vec l e sz t) (by rw[gy,if_pos rfl]);refine⟨q1,q2,?_⟩;rcases q3 with q3 |⟨i,l',r1,r2,r3⟩;exact .inl q3;exact .inr ⟨i,l',r1,r2,gI.ke.E (aM.le (Nat.zero_le _) l hl) r3⟩;rw[if_neg e1]at uN;have⟨h1,h2⟩:=hb j b uN;refine⟨by show j<K+1;omega,?_⟩;exact(hh.ok j b (by rw[gy,if_neg e1];exact uN)).2.monoB h2 gI rfl fun _ _ _ h=>h
 have key:∀j b,gt ((K,B.vec l e sz 0)::h) j=some b->∃c,gt y.X.h j=some c:=fun j b hb=>by rw[Xd]at hb;by_cases e1:K=j;exact⟨_,by rw[gy,if_pos e1]⟩;rw[if_neg e1]at hb;exact⟨b,by rw[gy,if_neg e1];exact hb⟩
 have⟨c,g1⟩:=key j b hbj;have⟨c',g2⟩:=key j' b' hbj';exact hh.inj j j' c c' i g1 g2 h1 h2;have⟨h1,h2⟩:=hf i b J;refine⟨h1,fun j c hc=>?_⟩;have Jl:gt ((K,B.vec l e sz 0)::h) j=some c:=hc;rw[Xd]at Jl;by_cases e1:K=j;exact h2 j _ (by rw[gy,if_pos e1]);rw[if_neg e1]at Jl;exact h2 j c (by rw[gy,if_neg e1];exact Jl);simp only[aD]at hv ⊢;refine⟨hv.1,by show K<K+1;omega,fun b hb=>?_⟩;have uN:gt ((K,B.vec l e sz 0)::h) K=some b:=hb;rw[Xd,if_pos rfl]at uN;cases uN;obtain⟨_,g2⟩:=hv.2.2 (.vec l e sz t) (by rw[gy,if_pos rfl]);obtain⟨l2,e2,sz2,g3,g4⟩:=g2 rfl;cases g3;exact⟨zF _,fun _=>⟨l,e,sz,rfl,g4⟩⟩
def qc{v11:Type}(c:v11->V U){P:H0}{f:FuncId}{ys:V v11}{e:TypeId}{sz:Nat}{a7:V U}[hc:BF c][ha:eQ 0 a7]{k:Nat}
  (h:b7 P f a7 ⟨[],0⟩ (fun u X'=>∃t',u=.vl k t' 0 ys.length/\X'=⟨[(k,.vec (ys.map c).flatten e sz t')],k+1⟩)) (X:Sg) (K:Nat) (hK:X.nx+k=K):
  b7 P f a7 X (fun u X'=>u=.vl K 0 0 ys.length/\X'=⟨(K,.vec (ys.map c).flatten e sz 0)::X.h,K+1⟩):=fun F x vs m w cargs hx hh k9 he dR bW=>by
 have h1:=b7.own1 c h X K hK;refine(h1 F x vs m w cargs hx hh k9 he dR bW).mono ?_;rintro e' w₁ ⟨y,aK,u,v,cv,q1,⟨t',rfl,q3⟩,q4,q5,q6,q7,q8,q9,q10⟩;obtain⟨y',z1,z2,z3,z4,z5,z6⟩:=zdu (F:=F) q3 q6 q7 (fun k b hb=>by
  have:=hh.ok k b (by rw[hx];exact hb);rw[hx]at this;refine⟨by omega,?_⟩;have KJ:=this.2.belB;rw[hx]at KJ;cases b with
  |row l e=>exact aM.le (by omega) l KJ|vec l e s st=>exact aM.le (by omega) l KJ
  |map es cl=>exact fun e he=>⟨bA.le (by omega) _ (KJ e he).1,bA.le (by omega) _ (KJ e he).2⟩) (w7 0 (hc.h 0) ys)
 exact⟨y',aK,_,v,cv,q1,⟨rfl,z1⟩,by rw[z2];exact q4,by rw[z2];exact q5,z3,z4,z6 v q8,q9.trans (z5.le (by rw[hx];omega)),by rw[z1,hx];show X.nx<=K+1;omega⟩
def AR{P:H0}{T:Tb}{aB r:V Oper}{o:Oper}{l:V (Nat×U)}{X X1:Sg}{bD:V RK}{K:V RK->V U->Sg->Prop}{u:U}{f:FuncId}{args:V U}(hw:cX aB (fr n l) o=some true)(hc:kN T (fr n l) o.op=some (f,args))(lN:b7 P f args X (fun u' X'=>u'=u/\X'=X1)){d:Tmp}(he:o.dst=some d)(hd:Nat.blt d n=true)
  (hk:RH P T aB r (fr n ((d,u)::l)) X1 ((3,⟨fr n l,o,u,true,true,X,X1⟩)::bD) K):RH P T aB (o::r) (fr n l) X bD K :=
 RH.callM hw hc lN (by rw[he,uF (d:=some d) u hd];exact hk)
def GM(k:IntKind)(a b:Int):Int:=k.wrap (BitVec.ofInt k.bits a&&&BitVec.ofInt k.bits b).toNat
def In(k:IntKind)(a b:Int):Int:=k.wrap (BitVec.ofInt k.bits a|||BitVec.ofInt k.bits b).toNat
def RT(k:IntKind)(a b:Int):Int:=k.wrap (BitVec.ofInt k.bits a &&& ~~~ BitVec.ofInt k.bits b).toNat
def qw7(k:IntKind)(a b:Int):kS .andNot k a k b=some (.int k (RT k a b)):=by simp[kS,RT]
def ce(k:IntKind)(a b:Int):kS .and k a k b=some (.int k (GM k a b)):=by simp[kS,GM]
def Th(k:IntKind)(a b:Int):kS .or k a k b=some (.int k (In k a b)):=by simp[kS,In]
def X6(s:V Xv)(i:Int):M Int:=if 0<=i/\i<(s.length:Int)then(s[i.toNat]?).map fun b=>(b.toNat:Int)else none
def V'{T:Tb}{X:Sg}{l:V (Nat×U)}{t:TypeId}{x y:EW}{s:V Xv}{k:IntKind}{i z:Int}(hd:T.und t=some .string)(hx:bZ n l x=some (.str s))(hy:bZ n l y=some (.int k i))(h:X6 s i=some z):bO T X (fr n l) (.index t x y)=some (.int .u8 z,X):=by unfold X6 at h;split at h;rename_i hp;rcases hb:s[i.toNat]? with _|b;rw[hb]at h;cases h;rw[hb]at h;simp[zM,zA]at h;subst h;have e1:sK i s.length=true:=NX hp;apply vV;simp[j4,eY hx,eY hy,ze,g2,toV,XK,hd,e1,zC,jD,hb,iI];cases h
def SubH(X τ:Sg):Prop:=∀k b,gt X.h k=some b->gt τ.h k=some b
section
variable{X τ:Sg}(hs:SubH X τ)
include hs
variable{T:Tb}{tm:V U}
def SZ:Op->D1
 |.alloc _ |.box _ _ |.store _ _ _ |.buildSlice _ _ _ |.makeSlice _ _ _ |.makeMap _ _ |.mapUpdate _ _ _ _ |.insert _ _ _ _ |.mapEntry _ _ _ |.entryStore _ _ _ _=>false|.call c=>(match c.callee with
  |.builtin .append=>false|.builtin .copy=>false
  |.builtin .delete=>false|.builtin .clear=>false
  |_=>true)
 |_=>true
end
def VE:M Nat->Nat->U
 |none,k=>.ptr k 0 0|some n,k=>.sl k 0 n n
structure Al where
 i:Nat
 k:Nat
 o:M Nat
 l:V U
 e:TypeId
def MkU(P:H0)(T:Tb)(tm:V U)(op:Op)(al:Al):Prop :=
 (∀s,bO T s tm op=some (VE al.o s.nx,newU s (.row al.l al.e)))\/∃f args,kN T tm op=some (f,args)/\∀s,b7 P f args s (fun u s'=>u=VE al.o s.nx/\s'=newU s (.row al.l al.e))
structure Loc(T:Tb)(aB:V Oper)(AO:V Al)(i:Nat)(r:eX)(K:Nat)(q q':V U)(e:TypeId):Prop where
 name:∃al∈AO,al.k=K
 row:gt r.s.h K=some (.row q e)
 out:r.s'=⟨ug r.s.h K (.row q' e),r.s.nx⟩
 dst:r.o.dst=none
 run:∀ τ:Sg,gt τ.h K=some (.row q e)->bO T τ r.tm r.o.op=some (r.u,⟨ug τ.h K (.row q' e),τ.nx⟩)
 pre:∀al∈AO,Pre aB i al.i\/(al.k≠K/\aM al.k q')
 want:cX aB r.tm r.o=some true
structure ChA(P:H0)(T:Tb)(aB:V Oper)(tm₀:V U)(Xb X1:Sg)(rs:V eX)(AO:V Al):Prop where
 some:AO≠[]
 names:∀al∈AO,Xb.nx<=al.k/\al.k<X1.nx
 nodup:∀a∈AO,∀b∈AO,a.k=b.k->a.i=b.i
 le:Xb.nx<=X1.nx
 at_:∀al∈AO,∃r d,rs[al.i]? = .some r/\r.u=VE al.o al.k/\r.act=false/\r.mv=true/\MkU P T r.tm r.o.op al/\r.o.guard=none/\r.o.dst=.some d
 row:∀al∈AO,aM 0 al.l
 all:∀(i:Nat)(r:eX),rs[i]? = .some r->r.act=false->r.mv=true->∃al∈AO,al.i=i
 own:∀al∈AO,gt X1.h al.k=.some (.row al.l al.e)
 oth:∀j,(∀al∈AO,al.k≠j)->gt X1.h j=gt Xb.h j
 acts:∀(i:Nat)(r:eX),rs[i]? = .some r->r.act=true->(∀al∈AO,Pre aB i al.i)\/∃K q q' e,Loc T aB AO i r K q q' e
 early:∀(i:Nat)(r:eX),rs[i]? = .some r->r.act=false->r.mv=false->(∀al∈AO,Pre aB i al.i)\/(bA Xb.nx r.u/\(cX aB r.tm r.o=.some true->bO T r.s r.tm r.o.op=.some (r.u,r.s')->SZ r.o.op=true/\bO T ⟨Xb.h,X1.nx⟩ r.tm r.o.op=.some (r.u,⟨Xb.h,X1.nx⟩)))
section
variable{P:H0}{T:Tb}(hT:kT P T)(aB:H2 Oper){tm₀:V U}{Xb X1:Sg}{rs:V eX}{tm':V U}{X':Sg}{AO:V Al}
 (jV:gp P T aB.toList tm₀ X1 rs tm' X') (cK:Y9 aB.toList=true) (PH:ChU T aB.toList rs) (qN:ChA P T aB.toList tm₀ Xb X1 rs AO)
include jV qN
include hT cK PH
end
def Te(mk K:Nat)(q':V U):V Al->Prop
 |[]=>True|al::r=>(Nat.testBit mk al.i=true\/(al.k≠K/\aM al.k q'))/\Te mk K q' r
def RA(P:H0)(T:Tb)(aB:V Oper)(nb:Nat)(Xe:Sg)(qa:V Al):V Oper->V U->Sg->V RK->V Al->(V RK->V U->Sg->Prop)->Prop
 |[],tm,X,bD,q,K=>q=[]/\K bD tm X|o::r,tm,X,bD,q,K=>
  (cX aB tm o=some true/\∃u,bO T X tm o.op=some (u,X)/\RA P T aB nb Xe qa r (eS tm o.dst u) X ((1,⟨tm,o,u,false,false,X,X⟩)::bD) q K)\/ (cX aB tm o=some true/\∃u X',bO T X tm o.op=some (u,X')/\RA P T aB nb Xe qa r (eS tm o.dst u) X' ((3,⟨tm,o,u,true,true,X,X'⟩)::bD) q K)\/ (cX aB tm o=some true/\∃f args u,kN T tm o.op=some (f,args)/\b7 P f args X (fun u' X'=>u'=u/\X'=X)/\RA P T aB nb Xe qa r (eS tm o.dst u) X ((2,⟨tm,o,u,true,false,X,X⟩)::bD) q K)\/ (cX aB tm o=some true/\∃f args u X',kN T tm o.op=some (f,args)/\b7 P f args X (fun u' s'=>u'=u/\s'=X')/\RA P T aB nb Xe qa r (eS tm o.dst u) X' ((3,⟨tm,o,u,true,true,X,X'⟩)::bD) q K)\/ (cX aB tm o=some false/\RA P T aB nb Xe qa r (eS tm o.dst (.tup [])) X ((0,⟨tm,o,.tup [],false,false,X,X⟩)::bD) q K)\/ (cX aB tm o=some true/\∃u,B5 P T tm o.op u/\bA nb u/\RA P T aB nb Xe qa r (eS tm o.dst u) X ((6,⟨tm,o,u,false,false,X,X⟩)::bD) q K)\/ (cX aB tm o=some true/\∃u,bO T X tm o.op=some (u,X)/\bO T Xe tm o.op=some (u,Xe)/\SZ o.op=true/\bA nb u/\RA P T aB nb Xe qa r (eS tm o.dst u) X ((5,⟨tm,o,u,false,false,X,X⟩)::bD) q K)\/ (∃al q' d,q=al::q'/\al.i=bD.length/\MkU P T tm o.op al/\o.guard=none/\o.dst=some d/\RA P T aB nb Xe qa r (eS tm o.dst (VE al.o al.k)) X ((4,⟨tm,o,VE al.o al.k,false,true,X,X⟩)::bD) q' K)\/ (cX aB tm o=some true/\∃u KK c c' e mk,(eE aB [])[bD.length]? = some mk/\o.dst=none/\gt X.h KK=some (.row c e)/\(∀ τ:Sg,gt τ.h KK=some (.row c e)->bO T τ tm o.op=some (u,⟨ug τ.h KK (.row c' e),τ.nx⟩))/\(∃al∈qa,al.k=KK)/\Te mk KK c' qa/\
   RA P T aB nb Xe qa r (eS tm o.dst u) ⟨ug X.h KK (.row c' e),X.nx⟩ ((7,⟨tm,o,u,true,true,X,⟨ug X.h KK (.row c' e),X.nx⟩⟩)::bD) q K)
section
variable{P:H0}{T:Tb}
end
section
variable{C:PG}{T:Tb}(hT:kT C.prog T){n0:Nat}{Q:Exit->V U->Sg->Prop}{tm:V U}{X:Sg}
include hT
end
section
variable{P:H0}{T:Tb}{aB r:V Oper}{o:Oper}{n nb:Nat}{Xe:Sg}{l:V (Nat×U)}{X X':Sg}{bD:V RK}{q qa:V Al}{K:V RK->V U->Sg->Prop}{u:U}
variable{d:Tmp}
def RQ.act(hw:cX aB (fr n l) o=some true)(h:bO T X (fr n l) o.op=some (u,X'))(he:o.dst=some d)(hd:Nat.blt d n=true)(hk:RA P T aB nb Xe qa r (fr n ((d,u)::l)) X' ((3,⟨fr n l,o,u,true,true,X,X'⟩)::bD) q K):RA P T aB nb Xe qa (o::r) (fr n l) X bD q K :=
 .inr (.inl ⟨hw,u,X',h,by rw[he,uF (d:=some d) u hd];exact hk⟩)
def RQ.call{f:FuncId}{args:V U}(hw:cX aB (fr n l) o=some true)(hc:kN T (fr n l) o.op=some (f,args))(lN:b7 P f args X (fun u' X'=>u'=u/\X'=X))(he:o.dst=some d)(hd:Nat.blt d n=true)(hk:RA P T aB nb Xe qa r (fr n ((d,u)::l)) X ((2,⟨fr n l,o,u,true,false,X,X⟩)::bD) q K):RA P T aB nb Xe qa (o::r) (fr n l) X bD q K :=
 .inr (.inr (.inl ⟨hw,f,args,u,hc,lN,by rw[he,uF (d:=some d) u hd];exact hk⟩))
def RQ.alloc{al:Al}(hi:al.i=bD.length)(ho:∀s,bO T s (fr n l) o.op=some (VE al.o s.nx,newU s (.row al.l al.e)))(hg:o.guard=none)(he:o.dst=some d)(hd:Nat.blt d n=true)(hk:RA P T aB nb Xe qa r (fr n ((d,VE al.o al.k)::l)) X ((4,⟨fr n l,o,VE al.o al.k,false,true,X,X⟩)::bD) q K):RA P T aB nb Xe qa (o::r) (fr n l) X bD (al::q) K :=
 .inr (.inr (.inr (.inr (.inr (.inr (.inr (.inl ⟨al,q,d,rfl,hi,.inl ho,hg,he,by rw[he,uF (d:=some d) _ hd];exact hk⟩)))))))
end
section
variable{C:PG}{T:Tb}(hT:kT C.prog T){n0:Nat}{Q:Exit->V U->Sg->Prop}{tm:V U}{X:Sg}
include hT
end
class TbP(P:H0)(T:outParam Tb):Prop where
 ok:kT P T
class Jv(C:PG)(T:outParam Tb):Prop where
 ok:kT C.prog T
instance{P:H0}{T:Tb}[h:TbP P T]:Jv (PG.of P) T:=⟨h.ok⟩
section
variable{P:H0}{T:Tb}{aB r:V Oper}{o:Oper}{n:Nat}{l:V (Nat×U)}{X X':Sg}{u:U}
def aO{C:PG}{K:V U->Sg->Prop}{d:Tmp}(he:o.dst=some d)(h:bO T X (fr n l) o.op=some (u,X'))(hk:RU C T aB r (fr n ((d,u)::l)) X' K)(hw:cX aB (fr n l) o=some true:=by exact rfl)(hd:Nat.blt d n=true:=by exact rfl):RU C T aB (o::r) (fr n l) X K:=RS.op hw h he hd hk
def aQ{bD:V RK}{K:V RK->V U->Sg->Prop}{d:Tmp}(he:o.dst=some d)(h:bO T X (fr n l) o.op=some (u,X))(hk:RH P T aB r (fr n ((d,u)::l)) X ((1,⟨fr n l,o,u,false,false,X,X⟩)::bD) K)(hw:cX aB (fr n l) o=some true:=by exact rfl)(hd:Nat.blt d n=true:=by exact rfl):RH P T aB (o::r) (fr n l) X bD K:=RD.look hw h he hd hk
end
def st{A B:Prop}(h:B)(g:B->A:=by intro h;(repeat refine Go.Vx.gq ?_);(repeat refine Go.Vx.sq ?_);exact h):A:=g h
end Go.Vx
