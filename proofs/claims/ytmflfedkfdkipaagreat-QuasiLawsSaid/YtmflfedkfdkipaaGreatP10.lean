import Derived.Test.YtmflfedkfdkipaaGreatP9
set_option linter.all false
namespace Go.Vx
open Go Go.Rx
variable{n:Nat}
def z8d{F:Nat->lJ->Prop}{y:Cx}{K:Nat}{l:Z U}{e:O}{sz t:Nat}{h:Z (Nat×B)}(hy:y.X=⟨(K,.vec l e sz t)::h,K+1⟩)(hh:i8 y)(hf:Fr F y)(hb:∀k b,gt h k=some b->k<K/\BelB K b)(hl:aF 0 l):
  ∃y':Cx,y'.X=⟨(K,.vec l e sz 0)::h,K+1⟩/\y'.s=y.s/\i8 y'/\Fr F y'/\Ke K y y'/\∀v,aB y (.vl K t 0 n) v->aB y' (.vl K 0 0 n) v:=by
 have gy:∀j,gt y.X.h j=if K=j then some (.vec l e sz t)else gt h j:=fun j=>by rw[hy];exact aQ _ _ _ _
 have Uw:∀j,gt ((K,B.vec l e sz 0)::h) j=if K=j then some (.vec l e sz 0)else gt h j:=fun j=>aQ _ _ _ _;have iE:y.X.nx=K+1:=by rw[hy]
 let y':Cx:=⟨y.Y,⟨(K,.vec l e sz 0)::h,K+1⟩,y.s⟩
 have eY:Mo K y y':=by refine⟨fun j h1 h2=>⟨by show j<K+1;omega,fun b' bV=>?_⟩,fun _ _ _ h=>h⟩;have hb2:gt ((K,B.vec l e sz 0)::h) j=some b':=bV;rw[Uw,if_neg (by omega)]at hb2;exact⟨b',by rw[gy,if_neg (by omega)];exact hb2,zF _,fun _=>⟨rfl,fun l e sz st h=>⟨l,h⟩⟩⟩
 refine⟨y',rfl,rfl,⟨fun j b I?=>?_,fun j j' b b' i I? H? h1 h2=>?_,hh.bd⟩,fun i b J=>?_,eY.ke,fun v hv=>?_⟩;have hb2:gt ((K,B.vec l e sz 0)::h) j=some b:=I?;rw[Uw]at hb2;by_cases e1:K=j;subst e1;rw[if_pos rfl]at hb2;cases hb2;refine⟨by show K<K+1;omega,?_⟩;obtain⟨_,q1,q2,q3⟩:=hh.ok K (.vec l e sz t) (by rw[gy,if_pos rfl]);refine⟨q1,q2,?_⟩;rcases q3 with q3 |⟨i,l',r1,r2,r3⟩;exact .inl q3;exact .inr ⟨i,l',r1,r2,eY.ke.E (aF.le (Nat.zero_le _) l hl) r3⟩;rw[if_neg e1]at hb2;obtain⟨h1,h2⟩:=hb j b hb2;refine⟨by show j<K+1;omega,?_⟩;exact(hh.ok j b (by rw[gy,if_neg e1];exact hb2)).2.monoB h2 eY rfl fun _ _ _ h=>h
 have key:∀j b,gt ((K,B.vec l e sz 0)::h) j=some b->∃c,gt y.X.h j=some c:=fun j b hb=>by rw[Uw]at hb;by_cases e1:K=j;exact⟨_,by rw[gy,if_pos e1]⟩;rw[if_neg e1]at hb;exact⟨b,by rw[gy,if_neg e1];exact hb⟩
 obtain⟨c,g1⟩:=key j b I?;obtain⟨c',g2⟩:=key j' b' H?;exact hh.inj j j' c c' i g1 g2 h1 h2;obtain⟨h1,h2⟩:=hf i b J;refine⟨h1,fun j c hc=>?_⟩;have O5:gt ((K,B.vec l e sz 0)::h) j=some c:=hc;rw[Uw]at O5;by_cases e1:K=j;exact h2 j _ (by rw[gy,if_pos e1]);rw[if_neg e1]at O5;exact h2 j c (by rw[gy,if_neg e1];exact O5);simp only[aB]at hv ⊢;refine⟨hv.1,by show K<K+1;omega,fun b hb=>?_⟩;have hb2:gt ((K,B.vec l e sz 0)::h) K=some b:=hb;rw[Uw,if_pos rfl]at hb2;cases hb2;obtain⟨_,g2⟩:=hv.2.2 (.vec l e sz t) (by rw[gy,if_pos rfl]);obtain⟨l2,e2,sz2,g3,g4⟩:=g2 rfl;cases g3;exact⟨zF _,fun _=>⟨l,e,sz,rfl,g4⟩⟩
def aV.own0{v11:Type}(c:v11->Z U){P:Uz}{f:FuncId}{ys:Z v11}{e:O}{sz:Nat}{a7:Z U}[hc:BF c][ha:nE 0 a7]{k:Nat}
  (h:aV P f a7 ⟨[],0⟩ (fun u X'=>∃t',u=.vl k t' 0 ys.length/\X'=⟨[(k,.vec (ys.map c).flatten e sz t')],k+1⟩)) (X:Sg) (K:Nat) (hK:X.nx+k=K):
  aV P f a7 X (fun u X'=>u=.vl K 0 0 ys.length/\X'=⟨(K,.vec (ys.map c).flatten e sz 0)::X.h,K+1⟩):=fun F x vs m w cargs hx hh fP he eG cJ=>by
 have h1:=aV.own1 c h X K hK;refine(h1 F x vs m w cargs hx hh fP he eG cJ).mono ?_;rintro e' w₁ ⟨y,aI,u,v,cv,q1,⟨t',rfl,q3⟩,q4,q5,q6,q7,q8,q9,q10⟩;obtain⟨y',z1,z2,z3,z4,z5,z6⟩:=z8d (F:=F) q3 q6 q7 (fun k b hb=>by
  have:=hh.ok k b (by rw[hx];exact hb);rw[hx]at this;refine⟨by omega,?_⟩;have tW:=this.2.belB;rw[hx]at tW;cases b with
  |row l e=>exact aF.le (by omega) l tW|vec l e s st=>exact aF.le (by omega) l tW
  |map es cl=>exact fun e he=>⟨aP.le (by omega) _ (tW e he).1,aP.le (by omega) _ (tW e he).2⟩) (Fp 0 (hc.h 0) ys)
 exact⟨y',aI,_,v,cv,q1,⟨rfl,z1⟩,by rw[z2];exact q4,by rw[z2];exact q5,z3,z4,z6 v q8,q9.trans (z5.le (by rw[hx];omega)),by rw[z1,hx];show X.nx<=K+1;omega⟩
def ET{P:Uz}{T:Tb}{aA r:Z Oper}{o:Oper}{l:Z (Nat×U)}{X dK:Sg}{aY:Z RK}{K:Z RK->Z U->Sg->Prop}{u:U}{f:FuncId}{args:Z U}(hw:cA aA (fr n l) o=some true)(hc:jG T (fr n l) o.op=some (f,args))(jT:aV P f args X (fun u' X'=>u'=u/\X'=dK)){d:Tmp}(he:o.dst=some d)(hd:Nat.blt d n=true)
  (hk:RH P T aA r (fr n ((d,u)::l)) dK ((3,⟨fr n l,o,u,true,true,X,dK⟩)::aY) K):RH P T aA (o::r) (fr n l) X aY K :=
 RH.callM hw hc jT (by rw[he,sL (d:=some d) u hd];exact hk)
def FK(k:IntKind)(a b:Int):Int:=k.wrap (BitVec.ofInt k.bits a&&&BitVec.ofInt k.bits b).toNat
def Hl(k:IntKind)(a b:Int):Int:=k.wrap (BitVec.ofInt k.bits a|||BitVec.ofInt k.bits b).toNat
def Q8(k:IntKind)(a b:Int):Int:=k.wrap (BitVec.ofInt k.bits a &&& ~~~ BitVec.ofInt k.bits b).toNat
def qpp(k:IntKind)(a b:Int):jF .andNot k a k b=some (.int k (Q8 k a b)):=by simp[jF,Q8]
def bj(k:IntKind)(a b:Int):jF .and k a k b=some (.int k (FK k a b)):=by simp[jF,FK]
def Re(k:IntKind)(a b:Int):jF .or k a k b=some (.int k (Hl k a b)):=by simp[jF,Hl]
def W4(s:Z O8)(i:Int):I Int:=if 0<=i/\i<(s.length:Int)then(s[i.toNat]?).map fun b=>(b.toNat:Int)else none
def F'{T:Tb}{X:Sg}{l:Z (Nat×U)}{t:O}{x y:Jp}{s:Z O8}{k:IntKind}{i z:Int}(hd:T.und t=some .string)(hx:bO n l x=some (.str s))(hy:bO n l y=some (.int k i))(h:W4 s i=some z):bF T X (fr n l) (.index t x y)=some (.int .u8 z,X):=by unfold W4 at h;split at h;rename_i hp;rcases hb:s[i.toNat]? with _|b;rw[hb]at h;cases h;rw[hb]at h;simp only[zM,zA]at h;subst h;have e1:oM i s.length=true:=JN hp;refine tJ ?_;simp only[gW,dH hx,dH hy,Yn,g2,toV,WI,hd,e1,zC,i9,hb,iB];cases h
def SubH(X τ:Sg):Prop:=∀k b,gt X.h k=some b->gt τ.h k=some b
section
variable{X τ:Sg}(hs:SubH X τ)
include hs
variable{T:Tb}{tm:Z U}
def RC:Op->BQ
 |.alloc _ |.box _ _ |.store _ _ _ |.buildSlice _ _ _ |.makeSlice _ _ _ |.makeMap _ _ |.mapUpdate _ _ _ _ |.insert _ _ _ _ |.mapEntry _ _ _ |.entryStore _ _ _ _=>false|.call c=>(match c.callee with
  |.builtin .append=>false|.builtin .copy=>false
  |.builtin .delete=>false|.builtin .clear=>false
  |_=>true)
 |_=>true
end
def TV:I Nat->Nat->U
 |none,k=>.ptr k 0 0|some n,k=>.sl k 0 n n
structure Al where
 i:Nat
 k:Nat
 o:I Nat
 l:Z U
 e:O
def MkU(P:Uz)(T:Tb)(tm:Z U)(op:Op)(al:Al):Prop :=
 (∀s,bF T s tm op=some (TV al.o s.nx,newU s (.row al.l al.e)))\/∃f args,jG T tm op=some (f,args)/\∀s,aV P f args s (fun u s'=>u=TV al.o s.nx/\s'=newU s (.row al.l al.e))
structure Loc(T:Tb)(aA:Z Oper)(wK:Z Al)(i:Nat)(r:dZ)(K:Nat)(q q':Z U)(e:O):Prop where
 name:∃al∈wK,al.k=K
 row:gt r.s.h K=some (.row q e)
 out:r.s'=⟨ug r.s.h K (.row q' e),r.s.nx⟩
 dst:r.o.dst=none
 run:∀ τ:Sg,gt τ.h K=some (.row q e)->bF T τ r.tm r.o.op=some (r.u,⟨ug τ.h K (.row q' e),τ.nx⟩)
 pre:∀al∈wK,Pre aA i al.i\/(al.k≠K/\aF al.k q')
 want:cA aA r.tm r.o=some true
structure ChA(P:Uz)(T:Tb)(aA:Z Oper)(tm₀:Z U)(Xb dK:Sg)(rs:Z dZ)(wK:Z Al):Prop where
 some:wK≠[]
 names:∀al∈wK,Xb.nx<=al.k/\al.k<dK.nx
 nodup:∀a∈wK,∀b∈wK,a.k=b.k->a.i=b.i
 le:Xb.nx<=dK.nx
 at_:∀al∈wK,∃r d,rs[al.i]? = .some r/\r.u=TV al.o al.k/\r.act=false/\r.mv=true/\MkU P T r.tm r.o.op al/\r.o.guard=none/\r.o.dst=.some d
 row:∀al∈wK,aF 0 al.l
 all:∀(i:Nat)(r:dZ),rs[i]? = .some r->r.act=false->r.mv=true->∃al∈wK,al.i=i
 own:∀al∈wK,gt dK.h al.k=.some (.row al.l al.e)
 oth:∀j,(∀al∈wK,al.k≠j)->gt dK.h j=gt Xb.h j
 acts:∀(i:Nat)(r:dZ),rs[i]? = .some r->r.act=true->(∀al∈wK,Pre aA i al.i)\/∃K q q' e,Loc T aA wK i r K q q' e
 early:∀(i:Nat)(r:dZ),rs[i]? = .some r->r.act=false->r.mv=false->(∀al∈wK,Pre aA i al.i)\/(aP Xb.nx r.u/\(cA aA r.tm r.o=.some true->bF T r.s r.tm r.o.op=.some (r.u,r.s')->RC r.o.op=true/\bF T ⟨Xb.h,dK.nx⟩ r.tm r.o.op=.some (r.u,⟨Xb.h,dK.nx⟩)))
section
variable{P:Uz}{T:Tb}(hT:iK P T)(aA:Bo Oper){tm₀:Z U}{Xb dK:Sg}{rs:Z dZ}{tm':Z U}{X':Sg}{wK:Z Al}
 (iQ:mf P T aA.toList tm₀ dK rs tm' X') (c9:WY aA.toList=true) (O3:ChU T aA.toList rs) (oF:ChA P T aA.toList tm₀ Xb dK rs wK)
include iQ oF
include hT c9 O3
end
def Ra(mk K:Nat)(q':Z U):Z Al->Prop
 |[]=>True|al::r=>(Nat.testBit mk al.i=true\/(al.k≠K/\aF al.k q'))/\Ra mk K q' r
def RA(P:Uz)(T:Tb)(aA:Z Oper)(nb:Nat)(Xe:Sg)(qa:Z Al):Z Oper->Z U->Sg->Z RK->Z Al->(Z RK->Z U->Sg->Prop)->Prop
 |[],tm,X,aY,q,K=>q=[]/\K aY tm X|o::r,tm,X,aY,q,K=>
  (cA aA tm o=some true/\∃u,bF T X tm o.op=some (u,X)/\RA P T aA nb Xe qa r (dX tm o.dst u) X ((1,⟨tm,o,u,false,false,X,X⟩)::aY) q K)\/ (cA aA tm o=some true/\∃u X',bF T X tm o.op=some (u,X')/\RA P T aA nb Xe qa r (dX tm o.dst u) X' ((3,⟨tm,o,u,true,true,X,X'⟩)::aY) q K)\/ (cA aA tm o=some true/\∃f args u,jG T tm o.op=some (f,args)/\aV P f args X (fun u' X'=>u'=u/\X'=X)/\RA P T aA nb Xe qa r (dX tm o.dst u) X ((2,⟨tm,o,u,true,false,X,X⟩)::aY) q K)\/ (cA aA tm o=some true/\∃f args u X',jG T tm o.op=some (f,args)/\aV P f args X (fun u' s'=>u'=u/\s'=X')/\RA P T aA nb Xe qa r (dX tm o.dst u) X' ((3,⟨tm,o,u,true,true,X,X'⟩)::aY) q K)\/ (cA aA tm o=some false/\RA P T aA nb Xe qa r (dX tm o.dst (.tup [])) X ((0,⟨tm,o,.tup [],false,false,X,X⟩)::aY) q K)\/ (cA aA tm o=some true/\∃u,sK P T tm o.op u/\aP nb u/\RA P T aA nb Xe qa r (dX tm o.dst u) X ((6,⟨tm,o,u,false,false,X,X⟩)::aY) q K)\/ (cA aA tm o=some true/\∃u,bF T X tm o.op=some (u,X)/\bF T Xe tm o.op=some (u,Xe)/\RC o.op=true/\aP nb u/\RA P T aA nb Xe qa r (dX tm o.dst u) X ((5,⟨tm,o,u,false,false,X,X⟩)::aY) q K)\/ (∃al q' d,q=al::q'/\al.i=aY.length/\MkU P T tm o.op al/\o.guard=none/\o.dst=some d/\RA P T aA nb Xe qa r (dX tm o.dst (TV al.o al.k)) X ((4,⟨tm,o,TV al.o al.k,false,true,X,X⟩)::aY) q' K)\/ (cA aA tm o=some true/\∃u KK c c' e mk,(dN aA [])[aY.length]? = some mk/\o.dst=none/\gt X.h KK=some (.row c e)/\(∀ τ:Sg,gt τ.h KK=some (.row c e)->bF T τ tm o.op=some (u,⟨ug τ.h KK (.row c' e),τ.nx⟩))/\(∃al∈qa,al.k=KK)/\Ra mk KK c' qa/\
   RA P T aA nb Xe qa r (dX tm o.dst u) ⟨ug X.h KK (.row c' e),X.nx⟩ ((7,⟨tm,o,u,true,true,X,⟨ug X.h KK (.row c' e),X.nx⟩⟩)::aY) q K)
section
variable{P:Uz}{T:Tb}
end
section
variable{C:PG}{T:Tb}(hT:iK C.prog T){n0:Nat}{Q:Exit->Z U->Sg->Prop}{tm:Z U}{X:Sg}
include hT
end
section
variable{P:Uz}{T:Tb}{aA r:Z Oper}{o:Oper}{n nb:Nat}{Xe:Sg}{l:Z (Nat×U)}{X X':Sg}{aY:Z RK}{q qa:Z Al}{K:Z RK->Z U->Sg->Prop}{u:U}
variable{d:Tmp}
def RQ.act(hw:cA aA (fr n l) o=some true)(h:bF T X (fr n l) o.op=some (u,X'))(he:o.dst=some d)(hd:Nat.blt d n=true)(hk:RA P T aA nb Xe qa r (fr n ((d,u)::l)) X' ((3,⟨fr n l,o,u,true,true,X,X'⟩)::aY) q K):RA P T aA nb Xe qa (o::r) (fr n l) X aY q K :=
 .inr (.inl ⟨hw,u,X',h,by rw[he,sL (d:=some d) u hd];exact hk⟩)
def RQ.call{f:FuncId}{args:Z U}(hw:cA aA (fr n l) o=some true)(hc:jG T (fr n l) o.op=some (f,args))(jT:aV P f args X (fun u' X'=>u'=u/\X'=X))(he:o.dst=some d)(hd:Nat.blt d n=true)(hk:RA P T aA nb Xe qa r (fr n ((d,u)::l)) X ((2,⟨fr n l,o,u,true,false,X,X⟩)::aY) q K):RA P T aA nb Xe qa (o::r) (fr n l) X aY q K :=
 .inr (.inr (.inl ⟨hw,f,args,u,hc,jT,by rw[he,sL (d:=some d) u hd];exact hk⟩))
def RQ.alloc{al:Al}(hi:al.i=aY.length)(ho:∀s,bF T s (fr n l) o.op=some (TV al.o s.nx,newU s (.row al.l al.e)))(hg:o.guard=none)(he:o.dst=some d)(hd:Nat.blt d n=true)(hk:RA P T aA nb Xe qa r (fr n ((d,TV al.o al.k)::l)) X ((4,⟨fr n l,o,TV al.o al.k,false,true,X,X⟩)::aY) q K):RA P T aA nb Xe qa (o::r) (fr n l) X aY (al::q) K :=
 .inr (.inr (.inr (.inr (.inr (.inr (.inr (.inl ⟨al,q,d,rfl,hi,.inl ho,hg,he,by rw[he,sL (d:=some d) _ hd];exact hk⟩)))))))
end
section
variable{C:PG}{T:Tb}(hT:iK C.prog T){n0:Nat}{Q:Exit->Z U->Sg->Prop}{tm:Z U}{X:Sg}
include hT
end
class TbP(P:Uz)(T:outParam Tb):Prop where
 ok:iK P T
class mg(C:PG)(T:outParam Tb):Prop where
 ok:iK C.prog T
instance{P:Uz}{T:Tb}[h:TbP P T]:mg (PG.of P) T:=⟨h.ok⟩
section
variable{P:Uz}{T:Tb}{aA r:Z Oper}{o:Oper}{n:Nat}{l:Z (Nat×U)}{X X':Sg}{u:U}
def bT{C:PG}{K:Z U->Sg->Prop}{d:Tmp}(he:o.dst=some d)(h:bF T X (fr n l) o.op=some (u,X'))(hk:RU C T aA r (fr n ((d,u)::l)) X' K)(hw:cA aA (fr n l) o=some true:=by exact rfl)(hd:Nat.blt d n=true:=by exact rfl):RU C T aA (o::r) (fr n l) X K:=RS.op hw h he hd hk
def bM{aY:Z RK}{K:Z RK->Z U->Sg->Prop}{d:Tmp}(he:o.dst=some d)(h:bF T X (fr n l) o.op=some (u,X))(hk:RH P T aA r (fr n ((d,u)::l)) X ((1,⟨fr n l,o,u,false,false,X,X⟩)::aY) K)(hw:cA aA (fr n l) o=some true:=by exact rfl)(hd:Nat.blt d n=true:=by exact rfl):RH P T aA (o::r) (fr n l) X aY K:=RD.look hw h he hd hk
end
def st{v10 B:Prop}(h:B)(g:B->v10:=by intro h;(repeat refine Go.Vx.gq ?_);(repeat refine Go.Vx.sq ?_);exact h):v10:=g h
class gR{v11:Type}(c:v11->Z U)(n:outParam Nat):Prop where
 h:∀x,(c x).length=n
instance(k:IntKind):gR (cI k) 1:=⟨uE k⟩
instance:gR cS 1:=⟨LR⟩
instance{v11:Type}(c:v11->Z U):gR (cL c) 1:=⟨Ec c⟩
abbrev U.iM{v11:Type}(c:v11->Z U)(l:Z v11):U:=.isl false (l.map c)
abbrev U.i6(z:Int):U:=.int .i64 z
variable{P:Uz}
variable{f:FuncId}
variable{args:Z U}
variable{u:U}
def pC(h:aV P f args ⟨[],0⟩ (fun u' _=>u'=u/\aP 0 u'))[q:nE 0 args](X:Sg):aV P f args X (fun u' X'=>u'=u/\X'=X):=aV.pure1C h X
def sI{v11:Type}{a b:v11}(h:some a=some b):a=b:=Option.some.inj h
class Nq(a b:Nat):Prop where
 h:Nat.beq a b=false
instance{b:Nat}:Nq 0 (b+1):=⟨rfl⟩
instance{b:Nat}:Nq (b+1) 0:=⟨rfl⟩
instance{a b:Nat}[q:Nq a b]:Nq (a+1) (b+1):=⟨q.h⟩
class eK(h:Z (Nat×B))(K:Nat)(b:outParam B):Prop where
 h:gt h K=some b
instance(priority:=low){K k:Nat}{x b:B}{t:Z (Nat×B)}[n:Nq k K][g:eK t K b]:eK ((k,x)::t) K b:=⟨by simp only[gt,n.h,zD,g.h]⟩
instance{K:Nat}{b:B}{t:Z (Nat×B)}:eK ((K,b)::t) K b:=⟨by simp[gt]⟩
class Xc(b:B):Prop where
 h:∀es cl,b≠.map es cl
instance{l:Z U}{e:O}:Xc (.row l e):=⟨fun _ _=>nofun⟩
instance{l:Z U}{e:O}{s t:Nat}:Xc (.vec l e s t):=⟨fun _ _=>nofun⟩
class Ck(n sz:Nat)(l:Z U)(r:outParam (Z (Z U))):Prop where
 h:n*sz<=l.length
 e:bR sz n l=r
instance{s:Nat}{l:Z U}:Ck 0 s l []:=⟨by omega,by simp[bR]⟩
instance{n:Nat}{a:U}{l:Z U}{r:Z (Z U)}[q:Ck n 1 l r]:Ck (n+1) 1 (a::l) ([a]::r):=⟨by have:=q.h;simp;omega,by have:=q.e;simp[bR,this]⟩
instance{n:Nat}{a b:U}{l:Z U}{r:Z (Z U)}[q:Ck n 2 l r]:Ck (n+1) 2 (a::b::l) ([a,b]::r):=⟨by have:=q.h;simp;omega,by have:=q.e;simp[bR,this]⟩
instance{n:Nat}{a b c:U}{l:Z U}{r:Z (Z U)}[q:Ck n 3 l r]:Ck (n+1) 3 (a::b::c::l) ([a,b,c]::r):=⟨by have:=q.h;simp;omega,by have:=q.e;simp[bR,this]⟩
class sZ(K:Nat)(b:B)(sz:Nat)(u:U)(u':outParam U):Prop where
 h:fz K b sz u=u'
class IM(K:Nat)(b:B)(sz:Nat)(l:Z U)(l':outParam (Z U)):Prop where
 h:iX K b sz l=l'
section
variable{K:Nat}{b:B}{sz:Nat}
instance(priority:=low){l:Z U}[q:nE K l]:IM K b sz l l:=⟨yH b sz l q.h⟩
instance:IM K b sz [] []:=⟨M8 K b sz⟩
instance{u u':U}{l l':Z U}[a:sZ K b sz u u'][q:IM K b sz l l']:IM K b sz (u::l) (u'::l'):=⟨by rw[G0,a.h,q.h]⟩
instance{k:IntKind}{z:Int}:sZ K b sz (.int k z) (.int k z):=⟨LV K b sz k z⟩
instance{x:Z O8}:sZ K b sz (.str x) (.str x):=⟨Ej K b sz x⟩
instance:sZ K b sz .nils .nils:=⟨Ev K b sz⟩
instance{t:BQ}{l:Z (Z U)}:sZ K b sz (.isl t l) (.isl t l):=⟨LU K b sz t l⟩
instance{l l':Z U}[q:IM K b sz l l']:sZ K b sz (.agg l) (.agg l'):=⟨by rw[Ek,q.h]⟩
instance{l l':Z U}[q:IM K b sz l l']:sZ K b sz (.tup l) (.tup l'):=⟨by rw[Ei,q.h]⟩
instance{f:Fn}{a a' c c':Z U}[q:IM K b sz a a'][r:IM K b sz c c']:sZ K b sz (.fn f a c) (.fn f a' c'):=⟨by rw[Dt,q.h,r.h]⟩
instance{k st off n:Nat}[q:Nq k K]:sZ K b sz (.vl k st off n) (.vl k st off n):=⟨fz_vn q.h b sz st off n⟩
instance{k off n c:Nat}[q:Nq k K]:sZ K b sz (.sl k off n c) (.sl k off n c):=⟨SM q.h b sz off n c⟩
instance{k st off:Nat}[q:Nq k K]:sZ K b sz (.ptr k st off) (.ptr k st off):=⟨SO q.h b sz st off⟩
end
instance{v11:Type}{c:v11->Z U}{sz s K st:Nat}{l:Z v11}{e:O}[q:gR c sz]:sZ K (.vec (l.map c).flatten e sz st) s (.vl K st 0 l.length) (.isl false (l.map c)):=⟨LN q.h l K s e st⟩
instance{K sz n:Nat}{l:Z U}{e:O}{r:Z (Z U)}[q:Ck n sz l r]:sZ K (.row l e) sz (.sl K 0 n n) (.isl false r):=⟨by rw[SN K l e sz n q.h,q.e]⟩
instance{K sz:Nat}{l:Z U}{e:O}:sZ K (.row l e) sz (.ptr K 0 0) (.iptr l):=⟨Uy K l e sz⟩
instance{K sz:Nat}{b:B}{u u':U}[q:sZ K b sz u u']:sZ K b sz (lN [u]) u':=⟨q.h⟩
instance{K sz:Nat}{b:B}{u v u':U}{l:Z U}[q:sZ K b sz (.tup (u::v::l)) u']:sZ K b sz (lN (u::v::l)) u':=⟨q.h⟩
class FzB(K:Nat)(b:B)(sz:Nat)(x:B)(x':outParam B):Prop where
 h:fzB K b sz x=x'
instance{K sz:Nat}{b:B}{l l':Z U}{e:O}[q:IM K b sz l l']:FzB K b sz (.row l e) (.row l' e):=⟨by rw[fzB,q.h]⟩
instance{K sz:Nat}{b:B}{l l':Z U}{e:O}{s st:Nat}[q:IM K b sz l l']:FzB K b sz (.vec l e s st) (.vec l' e s st):=⟨by rw[fzB,q.h]⟩
class U3(K:Nat)(b:B)(sz:Nat)(h:Z (Nat×B))(h':outParam (Z (Nat×B))):Prop where
 h:fzH K b sz h=h'
section
variable{K:Nat}{b:B}{sz:Nat}
instance:U3 K b sz [] []:=⟨rfl⟩
instance(priority:=low){k:Nat}{c c':B}{h h':Z (Nat×B)}[n:Nq k K][p:FzB K b sz c c'][q:U3 K b sz h h']:U3 K b sz ((k,c)::h) ((k,c')::h'):=⟨by simp only[fzH,n.h,zD,p.h,q.h]⟩
instance{c:B}{h h':Z (Nat×B)}[q:U3 K b sz h h']:U3 K b sz ((K,c)::h) h':=⟨by simp[fzH,q.h]⟩
end
class mw(K:Nat)(b:B)(sz:Nat)(l:Z (Nat×U))(l':outParam (Z (Nat×U))):Prop where
 h:fzS K b sz l=l'
instance{K:Nat}{b:B}{sz:Nat}:mw K b sz [] []:=⟨rfl⟩
instance{K:Nat}{b:B}{sz i:Nat}{u u':U}{l l':Z (Nat×U)}[a:sZ K b sz u u'][q:mw K b sz l l']:mw K b sz ((i,u)::l) ((i,u')::l'):=⟨by rw[fzS,a.h,q.h]⟩
variable{n0:Nat}
variable{nx:Nat}
variable{h:Z (Nat×B)}
variable{h':Z (Nat×B)}
variable{b:B}
def rE{tm tm':Z U}(K sz:Nat)[g:eK h K b][m:Xc b][t:IM K b sz tm tm'][q:U3 K b sz h h']:Gh n0 tm ⟨h,nx⟩ tm' ⟨h',nx⟩:=Gh.fz K b sz g.h m.h t.h q.h
variable{n:Nat}
variable{l:Z (Nat×U)}
variable{l':Z (Nat×U)}
def U4(K sz:Nat)[g:eK h K b][m:Xc b][t:mw K b sz l l'][q:U3 K b sz h h']:Gh n0 (fr n l) ⟨h,nx⟩ (fr n l') ⟨h',nx⟩:=Gh.fzS K b sz g.h m.h t.h q.h
class TX(h:Z (Nat×B))(K:Nat)(b:B)(h':outParam (Z (Nat×B))):Prop where
 h:ug h K b=h'
instance{K:Nat}{x b:B}{t:Z (Nat×B)}:TX ((K,x)::t) K b ((K,b)::t):=⟨by simp[ug]⟩
instance(priority:=low){K k:Nat}{x b:B}{t t':Z (Nat×B)}[n:Nq k K][g:TX t K b t']:TX ((k,x)::t) K b ((k,x)::t'):=⟨by simp only[ug,n.h,zD,g.h]⟩
class TW(l:Z U)(l':outParam (Z U)):Prop where
 h:o3 l l'
instance:TW [] []:=⟨.nil⟩
instance(priority:=low){u:U}{l l':Z U}[q:TW l l']:TW (u::l) (u::l'):=⟨.cons (.refl _) q.h⟩
instance{l l':Z U}[q:TW l l']:TW (.nils::l) (.isl false []::l'):=⟨.cons (.nil false) q.h⟩
def Gh.rowC{tm:Z U}{q q':Z U}{e:O}(K:Nat)[g:eK h K (.row q e)][w:TW q q'][u:TX h K (.row q' e) h'](hk:okL q'=true:=by exact rfl):Gh n0 tm ⟨h,nx⟩ tm ⟨h',nx⟩:=by have:=Gh.rowW (n0:=n0) (tm:=tm) (X:=⟨h,nx⟩) g.h hk w.h;simp only[u.h]at this;exact this
def NZ:0<=n:=Nat.zero_le n
def NL{a b:Nat}(h:Nat.ble a b=true:=by exact rfl):a<=b:=zY h
def sB{a b:Nat}(h:Nat.ble a b=true):a<=b:=zY h
variable{T:Tb}
variable{fn:Func}
variable{k:Code}
variable{X:Sg}
variable{R:U->Sg->Prop}
def bg0[t:TbP P T](n:Nat)(hf:T.fn f=some fn)(h:WPU (PG.of P) X.nx k (fr n []) X fun e tm' X'=>(e=.normal\/e=.ret)/\∃l,jY T X' tm' fn.results.toList=some l/\∃u' aS,X.nx<=aS.nx/\Gh X.nx [lN l] X' [u'] aS/\R u' aS)(hn:fn.ntmps=n:=by exact rfl)(hb:fn.body=some k:=by exact rfl)(hk:Nat.ble 0 n=true:=by exact rfl):aV P f [] X R:=Db t.ok hf hb (dY (by rw[hn];exact Da (sB hk)) (zF _) h)
def kR[t:TbP P T]{a:U}(n:Nat)(hf:T.fn f=some fn)(h:WPU (PG.of P) X.nx k (fr n [(0,a)]) X fun e tm' X'=>(e=.normal\/e=.ret)/\∃l,jY T X' tm' fn.results.toList=some l/\∃u' aS,X.nx<=aS.nx/\Gh X.nx [lN l] X' [u'] aS/\R u' aS)(hn:fn.ntmps=n:=by exact rfl)(hb:fn.body=some k:=by exact rfl)(hk:Nat.ble 1 n=true:=by exact rfl):aV P f [a] X R:=Db t.ok hf hb (dY (by rw[hn];exact Da (sB hk)) (zF _) h)
def eO[t:TbP P T]{a b:U}(n:Nat)(hf:T.fn f=some fn)(h:WPU (PG.of P) X.nx k (fr n [(0,a),(1,b)]) X fun e tm' X'=>(e=.normal\/e=.ret)/\∃l,jY T X' tm' fn.results.toList=some l/\∃u' aS,X.nx<=aS.nx/\Gh X.nx [lN l] X' [u'] aS/\R u' aS)(hn:fn.ntmps=n:=by exact rfl)(hb:fn.body=some k:=by exact rfl)(hk:Nat.ble 2 n=true:=by exact rfl):aV P f [a,b] X R:=Db t.ok hf hb (dY (by rw[hn];exact Da (sB hk)) (zF _) h)
variable{c:U}
def TR[t:TbP P T]{a b:U}(n:Nat)(hf:T.fn f=some fn)(h:WPU (PG.of P) X.nx k (fr n [(0,a),(1,b),(2,c)]) X fun e tm' X'=>(e=.normal\/e=.ret)/\∃l,jY T X' tm' fn.results.toList=some l/\∃u' aS,X.nx<=aS.nx/\Gh X.nx [lN l] X' [u'] aS/\R u' aS)(hn:fn.ntmps=n:=by exact rfl)(hb:fn.body=some k:=by exact rfl)(hk:Nat.ble 3 n=true:=by exact rfl):aV P f [a,b,c] X R:=Db t.ok hf hb (dY (by rw[hn];exact Da (sB hk)) (zF _) h)
def Wr[t:TbP P T]{a b d:U}(n:Nat)(hf:T.fn f=some fn)(h:WPU (PG.of P) X.nx k (fr n [(0,a),(1,b),(2,c),(3,d)]) X fun e tm' X'=>(e=.normal\/e=.ret)/\∃l,jY T X' tm' fn.results.toList=some l/\∃u' aS,X.nx<=aS.nx/\Gh X.nx [lN l] X' [u'] aS/\R u' aS)(hn:fn.ntmps=n:=by exact rfl)(hb:fn.body=some k:=by exact rfl)(hk:Nat.ble 4 n=true:=by exact rfl):aV P f [a,b,c,d] X R:=Db t.ok hf hb (dY (by rw[hn];exact Da (sB hk)) (zF _) h)
def bg5[t:TbP P T]{a b d e:U}(n:Nat)(hf:T.fn f=some fn)(h:WPU (PG.of P) X.nx k (fr n [(0,a),(1,b),(2,c),(3,d),(4,e)]) X fun e tm' X'=>(e=.normal\/e=.ret)/\∃l,jY T X' tm' fn.results.toList=some l/\∃u' aS,X.nx<=aS.nx/\Gh X.nx [lN l] X' [u'] aS/\R u' aS)(hn:fn.ntmps=n:=by exact rfl)(hb:fn.body=some k:=by exact rfl)(hk:Nat.ble 5 n=true:=by exact rfl):aV P f [a,b,c,d,e] X R:=Db t.ok hf hb (dY (by rw[hn];exact Da (sB hk)) (zF _) h)
class KZ(u u':U):Prop where
 h:Wk u u'
class Wz(l l':Z U):Prop where
 h:o3 l l'
instance(priority:=low){u:U}:KZ u u:=⟨.refl u⟩
instance:KZ .nils (.isl false []):=⟨.nil false⟩
instance{l l':Z U}[q:Wz l l']:KZ (.agg l) (.agg l'):=⟨.agg q.h⟩
instance{l l':Z U}[q:Wz l l']:KZ (.tup l) (.tup l'):=⟨.tup q.h⟩
instance{u u':U}[q:KZ u u']:KZ (lN [u]) u':=⟨q.h⟩
instance{u v u':U}{l:Z U}[q:KZ (.tup (u::v::l)) u']:KZ (lN (u::v::l)) u':=⟨q.h⟩
instance:Wz [] []:=⟨.nil⟩
instance{u u':U}{l l':Z U}[a:KZ u u'][q:Wz l l']:Wz (u::l) (u'::l'):=⟨.cons a.h q.h⟩
def lC{v07:Nat->Z U->Sg->Prop}{m n1:Nat}(hI:v07 m (fr n l') ⟨h',n1⟩)(ht:IQ l l':=by((repeat refine⟨rfl,?_⟩);exact trivial))(hs:Vx.cut n1 h=h':=by exact rfl)(h1:n0<=n1:=by first |exact Nat.zero_le _ |exact zY rfl)(h2:n1<=nx:=by exact zY rfl)[hb:BS n1 l'][hh:BH n1 h']:∃n' tm' X',n'<m+1/\v07 n' tm' X'/\n0<=X'.nx/\Gh n0 (fr n l) ⟨h,nx⟩ tm' X':=⟨m,_,_,zN _,hI,h1,Gh.toC ht hs h1 h2⟩
def xC{E:Z U->Sg->Prop}{n1:Nat}(hE:E (fr n l') ⟨h',n1⟩)(ht:IQ l l':=by((repeat refine⟨rfl,?_⟩);exact trivial))(hs:Vx.cut n1 h=h':=by exact rfl)(h1:n0<=n1:=by first |exact Nat.zero_le _ |exact zY rfl)(h2:n1<=nx:=by exact zY rfl)[hb:BS n1 l'][hh:BH n1 h']:∃tm' X',E tm' X'/\n0<=X'.nx/\Gh n0 (fr n l) ⟨h,nx⟩ tm' X':=⟨_,_,hE,h1,Gh.toC ht hs h1 h2⟩
section
variable{T:Tb}{n:Nat}{l:Z (Nat×U)}{X:Sg}{rs:Z ResultVar}
def rT{us:Z U}(hr:jY T X (fr n l) rs=some us)(hg:Gh 0 [lN us] X [u] ⟨[],0⟩)[q:BU 0 u]:(Exit.ret=.normal\/Exit.ret=.ret)/\∃l',jY T X (fr n l) rs=some l'/\∃u' aS,(⟨[],0⟩:Sg).nx<=aS.nx/\Gh (⟨[],0⟩:Sg).nx [lN l'] X [u'] aS/\u'=u/\aP 0 u':=⟨.inr rfl,us,hr,u,⟨[],0⟩,zF _,hg,rfl,q.h⟩
def rt1{a:Tmp}{t:Z ResultVar}{v:U}(ht:rs=.tmp a::t)(h:bO n l (.tmp a)=some v)(h0:t=[])(hu:v=u)[q:BU 0 u]:(Exit.ret=.normal\/Exit.ret=.ret)/\∃l',jY T X (fr n l) rs=some l'/\∃u' aS,(⟨[],0⟩:Sg).nx<=aS.nx/\Gh (⟨[],0⟩:Sg).nx [lN l'] X [u'] aS/\u'=u/\aP 0 u':=by subst ht;subst h0;subst hu;exact rT (fH h fW) (DJ _ rfl)
def LJ{a b:Tmp}{t:Z ResultVar}{v w:U}(ht:rs=.tmp a :: .tmp b::t)(h:bO n l (.tmp a)=some v)(h':bO n l (.tmp b)=some w)(h0:t=[])(hu : .tup [v,w]=u)[q:BU 0 u]:(Exit.ret=.normal\/Exit.ret=.ret)/\∃l',jY T X (fr n l) rs=some l'/\∃u' aS,(⟨[],0⟩:Sg).nx<=aS.nx/\Gh (⟨[],0⟩:Sg).nx [lN l'] X [u'] aS/\u'=u/\aP 0 u':=by subst ht;subst h0;subst hu;exact rT (fH h (fH h' fW)) (DJ _ rfl)
end
def fR{u0:U}(K sz:Nat)[g:eK h K b][m:Xc b][t:sZ K b sz u0 u][q:U3 K b sz h h'][p:BU 0 u]:Gh 0 [u0] ⟨h,nx⟩ [u] ⟨[],0⟩:=Gh.trans (rE K sz) (DJ u rfl)
def wR{u0:U}[w:KZ u0 u][p:BU 0 u]:Gh 0 [u0] X [u] ⟨[],0⟩:=Gh.trans (Gh.wk (.cons w.h .nil)) (DJ u rfl)
section
variable{C:PG}{n0 n:Nat}{Q:Exit->Z U->Sg->Prop}{l:Z (Nat×U)}{X:Sg}
def cF{v09:Type}{c:Jp}{p q:Code}{t:BQ}{a b r:I v09}(J:cond t a b=r)(h1:t=true->a=r->WPU C n0 p (fr n l) X Q)(h2:t=false->b=r->WPU C n0 q (fr n l) X Q)(hc:bO n l c=some (.bool t):=by exact rfl):WPU C n0 (.cond c p q) (fr n l) X Q:=dS hc (fun h=>h1 h (Bx h J)) (fun h=>h2 h (By h J))
end
class IK(op:BinOp)(k:IntKind)(a:Int)(k':IntKind)(b:Int)(r:outParam A):Prop where
 h:jF op k a k' b=some r
section
variable{k:IntKind}{a b:Int}
instance:IK .add k a k b (.int k (k.wrap (a+b))):=⟨YY k a b⟩
instance:IK .sub k a k b (.int k (k.wrap (a-b))):=⟨YO k a b⟩
instance:IK .mul k a k b (.int k (k.wrap (a*b))):=⟨YS k a b⟩
instance:IK .eql k a k b (.bool (a==b)):=⟨YX k a b⟩
instance:IK .neq k a k b (.bool (a != b)):=⟨YR k a b⟩
instance:IK .lss k a k b (.bool (decide (a<b))):=⟨YT k a b⟩
instance:IK .leq k a k b (.bool (decide (a<=b))):=⟨YU k a b⟩
instance:IK .gtr k a k b (.bool (decide (a>b))):=⟨YV k a b⟩
instance:IK .geq k a k b (.bool (decide (a>=b))):=⟨YW k a b⟩
end
class eB(T:Tb)(t:O)(d:outParam TypeDesc):Prop where
 h:T.und t=some d
class SzC(T:Tb)(t:O)(n:outParam Nat):Prop where
 h:c6 T t=some n
section
variable{P:Uz}{T:Tb}{aA r:Z Oper}{o:Oper}{n:Nat}{l:Z (Nat×U)}{X X':Sg}{u:U}
variable{d:Tmp}
def wT{j:Nat}{b:BQ}(hg:o.guard=some (j,true))(hj:yE aA j=some d)(hl:bO n l (.tmp d)=some (.bool b))(hb:b=true):cA aA (fr n l) o=some true:=ue hg hj hl hb
def wF{j:Nat}{b:BQ}(hg:o.guard=some (j,false))(hj:yE aA j=some d)(hl:bO n l (.tmp d)=some (.bool b))(hb:b=false):cA aA (fr n l) o=some true:=ue hg hj hl hb
def wA{v10:Prop}(h:v10:=by first |exact rfl |exact Go.Vx.wT rfl rfl rfl (by first |with_reducible_and_instances assumption |exact rfl)|exact Go.Vx.wF rfl rfl rfl (by first |with_reducible_and_instances assumption |exact rfl)):v10:=h
variable{C:PG}
variable{K:Z U->Sg->Prop}
def RS.w(he:o.dst=some d)(h:bF T X (fr n l) o.op=some (u,X'))(hk:RU C T aA r (fr n ((d,u)::l)) X' K)(hw:cA aA (fr n l) o=some true:=by exact Go.Vx.wA)(hd:Nat.blt d n=true:=by exact rfl):RU C T aA (o::r) (fr n l) X K:=RS.op hw h he hd hk
def RS.wn(he:o.dst=none)(h:bF T X (fr n l) o.op=some (u,X'))(hk:RU C T aA r (fr n l) X' K)(hw:cA aA (fr n l) o=some true:=by exact Go.Vx.wA):RU C T aA (o::r) (fr n l) X K:=RS.opn hw h he hk
def RD.w{aY:Z RK}{K:Z RK->Z U->Sg->Prop}(he:o.dst=some d)(h:bF T X (fr n l) o.op=some (u,X))(hk:RH P T aA r (fr n ((d,u)::l)) X ((1,⟨fr n l,o,u,false,false,X,X⟩)::aY) K)(hw:cA aA (fr n l) o=some true:=by exact Go.Vx.wA)(hd:Nat.blt d n=true:=by exact rfl):RH P T aA (o::r) (fr n l) X aY K:=RD.look hw h he hd hk
def La(n:Nat)(l:Z (Nat×U))(o:Oper):I (Tmp×FuncId×Z U):=match o.dst,o.op with
 |some d,.call c=>match c.callee with
  |.value f=>match bO n l f with
   |some (.fn (.func g) [] [])=>match L4 n l c.args.toList with
    |some a7=>some (d,g,a7)|none=>none
   |_=>none
  |_=>none
 |_,_=>none
def g9{g:FuncId}{a7:Z U}(h:La n l o=some (d,g,a7))(hg:T.fn g=some fn)(hb:fn.body.isSome=true):o.dst=some d/\jG T (fr n l) o.op=some (g,a7):=by
 unfold La at h;split at h
 ·next d' c h1 h2=>
  split at h
  ·next f h3=>
   split at h
   ·next g' h4=>
    split at h
    ·next as' h5=>simp only[zA,zB]at h;obtain⟨rfl,rfl,rfl⟩:=h;exact⟨h1,by rw[h2];exact FY h3 h4 hg hb h5 (by simp)⟩
    cases h
   cases h
  cases h
 cases h
def aK(h:La n l o=some (d,f,args))(jT:aV C.prog f args X (fun u' X'=>u'=u/\X'=X))(hg:T.fn f=some fn)(hk:RU C T aA r (fr n ((d,u)::l)) X K)(hb:fn.body.isSome=true:=by exact rfl)(hw:cA aA (fr n l) o=some true:=by exact Go.Vx.wA)(hd:Nat.blt d n=true:=by exact rfl):RU C T aA (o::r) (fr n l) X K:=RS.call hw (g9 h hg hb).2 jT (g9 h hg hb).1 hd hk
def RS.fc{args':Z U}{dK:Sg}(h:La n l o=some (d,f,args))(hG:Gh X.nx args X args' dK)(jT:aV C.prog f args' dK (fun u' X'=>u'=u/\X'=dK))(hg:T.fn f=some fn)(hk:RU C T aA r (fr n ((d,u)::l)) dK K)(hn:X.nx<=dK.nx:=by exact zY rfl)(hb:fn.body.isSome=true:=by exact rfl)(hw:cA aA (fr n l) o=some true:=by exact Go.Vx.wA)(hd:Nat.blt d n=true:=by exact rfl):RU C T aA (o::r) (fr n l) X K:=RS.fcall hw (g9 h hg hb).2 hG hn jT (g9 h hg hb).1 hd hk
def dV{aY:Z RK}{K:Z RK->Z U->Sg->Prop}(h:La n l o=some (d,f,args))(jT:∀s,aV P f args s (fun u' X'=>u'=u/\X'=s))(hg:T.fn f=some fn)(hk:RH P T aA r (fr n ((d,u)::l)) X ((0,⟨fr n l,o,u,false,false,X,X⟩)::aY) K)(hb:fn.body.isSome=true:=by exact rfl)(hw:cA aA (fr n l) o=some true:=by exact Go.Vx.wA)(hd:Nat.blt d n=true:=by exact rfl):RH P T aA (o::r) (fr n l) X aY K:=RD.free hw (g9 h hg hb).2 jT (g9 h hg hb).1 hd hk
end
def vw{args':Z U}{v:A}{dK:Sg}(h:aV P f args ⟨[],0⟩ (fun u' _=>u'=u/\aP 0 u'))(hg:Gh 0 args' X args dK)[ha:nE 0 args](hu:toV u=some v:=by simp only[toV,mR,okL,okC,zC]<;>rfl)(NJ:∀m,ren m v=v:=by exact fun m=>by simp[ren,aE]):aV P f args' X (fun u' X'=>u'=u/\X'=X):=aV.view h ha.h hu NJ hg
structure Hd(B:Prop):Prop where
 h:B
section
variable{C:PG}{n0:Nat}{tm:Z U}{X:Sg}{Q:Exit->Z U->Sg->Prop}
def rg0[t:mg C T]{i:Nat}{aA:Bo Oper}{L:Z Oper}(h:RU C T L L tm X (fun tm' X'=>Q .normal tm' X'))(hl:aA.toList=L):WPU C n0 (.region i aA false) tm X Q:=WPU.region t.ok (by rw[hl];exact h)
def rg1[t:mg C T]{i:Nat}{aA:Bo Oper}{o:Oper}{r:Z Oper}(hl:aA.toList=o::r)(h:RU C T (o::r) (o::r) tm X (fun tm' X'=>Q .normal tm' X')):WPU C n0 (.region i aA false) tm X Q:=rg0 h hl
end
section
variable{C:PG}{T:Tb}{aA r:Z Oper}{o:Oper}{n:Nat}{l:Z (Nat×U)}{X X':Sg}{u:U}{K:Z U->Sg->Prop}{d:Tmp}
def RS.nt{j:Nat}{b:BQ}{d':Tmp}(hg:o.guard=some (j,true))(hj:yE aA j=some d')(hl:bO n l (.tmp d')=some (.bool b))(hb:b=false)(he:o.dst=some d)(hd:Nat.blt d n=true)(hk:RU C T aA r (fr n ((d,.tup [])::l)) X K):RU C T aA (o::r) (fr n l) X K:=RS.no (Xj hg hj hl hb) he hd hk
def RS.nf{j:Nat}{b:BQ}{d':Tmp}(hg:o.guard=some (j,false))(hj:yE aA j=some d')(hl:bO n l (.tmp d')=some (.bool b))(hb:b=true)(he:o.dst=some d)(hd:Nat.blt d n=true)(hk:RU C T aA r (fr n ((d,.tup [])::l)) X K):RU C T aA (o::r) (fr n l) X K:=RS.no (Xj hg hj hl hb) he hd hk
variable{x:Jp}
def RS.mo(ho:o.op=.move x)(hx:bO n l x=some u)(he:o.dst=some d)(hw:cA aA (fr n l) o=some true)(hd:Nat.blt d n=true)(hk:RU C T aA r (fr n ((d,u)::l)) X K):RU C T aA (o::r) (fr n l) X K:=RS.w he (by rw[ho];exact mW hx) hk hw hd
def RS.in{op:BinOp}{t t':O}{y:Jp}{k k':IntKind}{a b:Int}{v:A}(ho:o.op=.binOp op t x y t')(hx:bO n l x=some (.int k a))(hy:bO n l y=some (.int k' b))[h:IK op k a k' b v](hr:iB v=some u)(he:o.dst=some d)(hw:cA aA (fr n l) o=some true)(hd:Nat.blt d n=true)(hk:RU C T aA r (fr n ((d,u)::l)) X K):RU C T aA (o::r) (fr n l) X K:=RS.w he (by rw[ho];exact wX hx hy h.h hr) hk hw hd
def RS.p1{c a b:Jp}{t:BQ}(ho:o.op=.pick c a b)(hc:bO n l c=some (.bool t))(ht:t=true)(h:bO n l a=some u)(he:o.dst=some d)(hw:cA aA (fr n l) o=some true)(hd:Nat.blt d n=true)(hk:RU C T aA r (fr n ((d,u)::l)) X K):RU C T aA (o::r) (fr n l) X K:=RS.w he (by rw[ho];exact que hc ht h) hk hw hd
def RS.p0{c a b:Jp}{t:BQ}(ho:o.op=.pick c a b)(hc:bO n l c=some (.bool t))(ht:t=false)(h:bO n l b=some u)(he:o.dst=some d)(hw:cA aA (fr n l) o=some true)(hd:Nat.blt d n=true)(hk:RU C T aA r (fr n ((d,u)::l)) X K):RU C T aA (o::r) (fr n l) X K:=RS.w he (by rw[ho];exact qud hc ht h) hk hw hd
def RS.ex{i:Nat}{q:Z U}(ho:o.op=.extract x i)(hx:bO n l x=some (.tup q))(h:nth q i=some u)(he:o.dst=some d)(hw:cA aA (fr n l) o=some true)(hd:Nat.blt d n=true)(hk:RU C T aA r (fr n ((d,u)::l)) X K):RU C T aA (o::r) (fr n l) X K:=RS.w he (by rw[ho];exact z5s hx h) hk hw hd
def RS.un{op:UnOp}{t:O}{v:U}{v1 v2:A}(ho:o.op=.unOp op t x)(hx:bO n l x=some v)(h:toV v=some v1)(hu:P0 op v1=some v2)(hq:iB v2=some u)(he:o.dst=some d)(hw:cA aA (fr n l) o=some true)(hd:Nat.blt d n=true)(hk:RU C T aA r (fr n ((d,u)::l)) X K):RU C T aA (o::r) (fr n l) X K:=RS.w he (by rw[ho];exact R9 hx h hu hq) hk hw hd
def RS.a(ho:o.op=.assign x)(hx:bO n l x=some u)(he:o.dst=some d)(hw:cA aA (fr n l) o=some true)(hd:Nat.blt d n=true)(hk:RU C T aA r (fr n ((d,u)::l)) X K):RU C T aA (o::r) (fr n l) X K:=RS.as hw ho hx he hk hd
end
class iS(T:Tb)(t:O)(a b:outParam Nat)(z:outParam A):Prop where
 h:T.inf t=some (a,b,z)
instance{T:Tb}{t:O}{a b:Nat}{z:A}[q:iS T t a b z]:SzC T t a:=⟨bZ q.h⟩
class qP(T:Tb)(t:O)(zu:outParam (Z U)):Prop where
 h:∃a b z,T.inf t=some (a,b,z)/\nH z.cells.toList=some zu/\okL zu=true
class BJ(u:U)(cs:outParam (Z U)):Prop where
 h:uG u=some cs
instance{l:Z U}:BJ (.agg l) l:=⟨rfl⟩
instance{k:IntKind}{z:Int}:BJ (.int k z) [.int k z]:=⟨rfl⟩
instance{b:BQ}:BJ (.bool b) [.bool b]:=⟨rfl⟩
instance{s:Z O8}:BJ (.str s) [.str s]:=⟨rfl⟩
instance{t:BQ}{l:Z (Z U)}:BJ (.isl t l) [.isl t l]:=⟨rfl⟩
instance{k st off:Nat}:BJ (.ptr k st off) [.ptr k st off]:=⟨rfl⟩
instance{k st off n:Nat}:BJ (.vl k st off n) [.vl k st off n]:=⟨rfl⟩
instance{k off n c:Nat}:BJ (.sl k off n c) [.sl k off n c]:=⟨rfl⟩
instance{k:Nat}:BJ (.map k) [.map k]:=⟨rfl⟩
instance{f:Fn}{a c:Z U}:BJ (.fn f a c) [.fn f a c]:=⟨rfl⟩
class L7(q:Z U)(off n:Nat)(cs:outParam (Z U)):Prop where
 h:iZ q off n=some cs
instance{q:Z U}:L7 q 0 0 []:=⟨by simp[iZ]⟩
instance{a:U}{q cs:Z U}{n:Nat}[s:L7 q 0 n cs]:L7 (a::q) 0 (n+1) (a::cs):=⟨by
 have:=s.h;unfold iZ at*;split at this
 ·next h=>cases this;rw[if_pos (by simp at*;omega)];simp
 cases this⟩
instance{a:U}{q cs:Z U}{o n:Nat}[s:L7 q o n cs]:L7 (a::q) (o+1) n cs:=⟨by
 have:=s.h;unfold iZ at*;split at this
 ·next h=>cases this;rw[if_pos (by simp at*;omega)];simp
 cases this⟩
instance(priority:=low){v11:Type}{c:v11->Z U}{x:v11}{sz:Nat}[q:gR c sz]:L7 (c x) 0 sz (c x):=⟨by
 unfold iZ;rw[if_pos (by rw[q.h];omega),List.drop_zero,zW (by rw[q.h];exact zF _)]⟩
class In(q:Z U)(n:Nat):Prop where
 h:q.length=n
instance:In [] 0:=⟨rfl⟩
instance{a:U}{q:Z U}{n:Nat}[s:In q n]:In (a::q) (n+1):=⟨by simp[s.h]⟩
class OM(q:Z U)(off:Nat)(cs:Z U)(q':outParam (Z U)):Prop where
 h:o6 q off cs=some q'
instance{q:Z U}:OM q 0 [] q:=⟨by simp[o6]⟩
instance{a b:U}{q cs q':Z U}[s:OM q 0 cs q']:OM (a::q) 0 (b::cs) (b::q'):=⟨by
 have:=s.h;unfold o6 at*;split at this
 ·next h=>cases this;rw[if_pos (by simp at*;omega)];simp
 cases this⟩
instance{a:U}{q cs q':Z U}{o:Nat}[s:OM q o cs q']:OM (a::q) (o+1) cs (a::q'):=⟨by
 have:=s.h;unfold o6 at*;split at this
 ·next h=>cases this;rw[if_pos (by simp at*;omega)];simp[show o+1+cs.length=(o+cs.length)+1 by omega]
 cases this⟩
instance(priority:=low){v11:Type}{c:v11->Z U}{x:v11}{sz:Nat}{q:Z U}[s:gR c sz][t:In q sz]:OM q 0 (c x) (c x):=⟨by
 unfold o6;have h1:=s.h x;have h2:=t.h;rw[if_pos (by omega),List.drop_eq_nil_of_le (by omega)];simp⟩
class ud(a b:Z U)(c:outParam (Z U)):Prop where
 h:a++b=c
instance{b:Z U}:ud [] b b:=⟨rfl⟩
instance{x:U}{a b c:Z U}[s:ud a b c]:ud (x::a) b (x::c):=⟨by rw[List.cons_append,s.h]⟩
class mh(pl:Z (Nat×Nat))(i:Nat)(o s:outParam Nat):Prop where
 h:nth pl i=some (o,s)
instance{o s:Nat}{pl:Z (Nat×Nat)}:mh ((o,s)::pl) 0 o s:=⟨rfl⟩
instance{a:Nat×Nat}{i o s:Nat}{pl:Z (Nat×Nat)}[q:mh pl i o s]:mh (a::pl) (i+1) o s:=⟨q.h⟩
variable{zu:Z U}
variable{q':Z U}
variable{cs:Z U}
variable{s:Nat}
variable{qs:Z (Nat×U)}
def z54{place:Nat->I (Nat×Nat)}{c0:Z U}{i o:Nat}{v:U}(hp:place i=some (o,s))(hc:uG v=some c0)(hl:c0.length=s)(hq:o6 zu o c0=some q')(hr:pT place q' qs=some cs):pT place zu ((i,v)::qs)=some cs:=by
 have:Nat.beq c0.length s=true:=by simp[beq_eq,hl]
 simp only[pT,hp,hc,this,zC,hq,hr]
class ub(pl:Z (Nat×Nat))(zu:Z U)(qs:Z (Nat×U))(cs:outParam (Z U)):Prop where
 h:pT (nth pl) zu qs=some cs
instance{pl:Z (Nat×Nat)}{zu:Z U}:ub pl zu [] zu:=⟨rfl⟩
instance{pl:Z (Nat×Nat)}{zu q' cs c0:Z U}{i o s:Nat}{v:U}{qs:Z (Nat×U)}[p:mh pl i o s][c:BJ v c0][l:In c0 s][q:OM zu o c0 q'][r:ub pl q' qs cs]:ub pl zu ((i,v)::qs) cs:=⟨z54 p.h c.h l.h q.h r.h⟩
class mn(a b:Nat)(c:outParam Nat):Prop where
 h:a*b=c
instance{b:Nat}:mn 0 b 0:=⟨Nat.zero_mul b⟩
instance{b:Nat}:mn 1 b b:=⟨Nat.one_mul b⟩
instance{a:Nat}:mn (a+2) 1 (a+2):=⟨Nat.mul_one _⟩
class mz(s:Nat)(zu:Z U)(qs:Z (Nat×U))(cs:outParam (Z U)):Prop where
 h:pT (fun i=>some (i*s,s)) zu qs=some cs
instance{s:Nat}{zu:Z U}:mz s zu [] zu:=⟨rfl⟩
instance{zu q' cs c0:Z U}{i o s:Nat}{v:U}{qs:Z (Nat×U)}[m:mn i s o][c:BJ v c0][l:In c0 s][q:OM zu o c0 q'][r:mz s q' qs cs]:mz s zu ((i,v)::qs) cs:=⟨z54 (by rw[m.h]) c.h l.h q.h r.h⟩
class me(z:Z U)(k:Nat)(zs:outParam (Z U)):Prop where
 h:qV z k=zs
instance{z:Z U}:me z 0 []:=⟨rfl⟩
instance{z a b:Z U}{k:Nat}[q:me z k a][p:ud z a b]:me z (k+1) b:=⟨by
 have:=q.h;have:=p.h;simp only[qV,List.replicate_succ,List.flatten_cons]at*;simp_all⟩
class DeC{v11:Type}(c:v11->Z U)(cs:Z U)(x:outParam v11):Prop where
 h:c x=cs
instance{k:IntKind}{z:Int}:DeC (cI k) [.int k z] z:=⟨rfl⟩
instance{s:Z O8}:DeC cS [.str s] s:=⟨rfl⟩
instance{v11:Type}{c:v11->Z U}{l:Z v11}:DeC (cL c) [.isl false (l.map c)] l:=⟨rfl⟩
instance(priority:=low){v11:Type}{c:v11->Z U}{x:v11}:DeC c (c x) x:=⟨rfl⟩
instance(priority:=low){v11:Type}{c:v11->Z U}{x:v11}:TW (c x) (c x):=⟨o3.refl _⟩
class uT(T:Tb)(t:O)(zu:outParam (Z U))(pl:outParam (Z (Nat×Nat))):Prop where
 h:BdT T t zu pl
class SuC(a:Nat)(b:outParam Nat):Prop where
 h:a+1=b
instance:SuC 0 1:=⟨rfl⟩
instance:SuC 1 2:=⟨rfl⟩
instance:SuC 2 3:=⟨rfl⟩
instance:SuC 3 4:=⟨rfl⟩
instance:SuC 4 5:=⟨rfl⟩
instance:SuC 5 6:=⟨rfl⟩
instance:SuC 7 8:=⟨rfl⟩
instance:SuC 9 10:=⟨rfl⟩
class AdC(a b:Nat)(c:outParam Nat):Prop where
 h:a+b=c
instance{b:Nat}:AdC 0 b b:=⟨Nat.zero_add b⟩
class mj(a:Nat)(b:outParam Nat):Prop where
 h:a+1=b
instance{a b:Nat}[q:SuC a b]:mj a b:=⟨q.h⟩
instance(priority:=low){a:Nat}:mj a (a+1):=⟨rfl⟩
section
variable{T:Tb}{n:Nat}{l:Z (Nat×U)}{h h':Z (Nat×B)}{nx nx':Nat}{u v w:U}{op:Op}
variable{e:O}
def oAl(ho:op=.alloc e)[z:qP T e zu][hn:SuC nx nx']:bF T ⟨h,nx⟩ (fr n l) op=some (.ptr nx 0 0,⟨(nx,.row zu e)::h,nx'⟩):=by subst ho;have AT:=hn.h;subst AT;obtain⟨a,b,q,h1,h2,h3⟩:=z.h;exact z3h h1 h2 h3
variable{x:Jp}
def oBx(ho:op=.box e x)(hx:bO n l x=some v)[c:BJ v cs](hk:okL cs=true)[hn:SuC nx nx']:bF T ⟨h,nx⟩ (fr n l) op=some (.ptr nx 0 0,⟨(nx,.row cs e)::h,nx'⟩):=by subst ho;have AT:=hn.h;subst AT;exact Y4 hx c.h hk
variable{t:O}
variable{a:Jp}
variable{k:Nat}
variable{off:Nat}
variable{sz:Nat}
variable{q:Z U}
def oSt(ho:op=.store t a x)(ha:bO n l a=some (.ptr k 0 off))(hx:bO n l x=some v)[g:eK h k (.row q e)][s:SzC T t sz][c:BJ v cs][p:OM q off cs q'][w:TX h k (.row q' e) h'](hl:Nat.beq cs.length sz=true)(hk:okL cs=true):bF T ⟨h,nx⟩ (fr n l) op=some (.junk,⟨h',nx⟩):=by subst ho;refine z3i s.h ha hx c.h hl hk (q:=q) (q':=q') ?_ ?_ ?_;simp only[cellsOf,g.h];rfl;simp only[DN,g.h];exact p.h;simp only[JH,g.h,w.h]
variable{d:TypeDesc}
def oLa(ho:op=.load t x)(hx:bO n l x=some (.ptr k 0 off))[hd:eB T t d](ha:p9 d=true)[g:eK h k (.row q e)][s:SzC T t sz][p:L7 q off sz cs]:bF T ⟨h,nx⟩ (fr n l) op=some (.agg cs,⟨h,nx⟩):=by subst ho;exact vD hd.h ha s.h hx (by simp only[cellsOf,g.h];rfl) p.h
def oLo(ho:op=.load t x)(hx:bO n l x=some (.ptr k 0 off))[hd:eB T t d](ha:p9 d=false)[g:eK h k (.row q e)](hu:nth q off=some u):bF T ⟨h,nx⟩ (fr n l) op=some (u,⟨h,nx⟩):=by subst ho;exact LS hd.h ha hx (by simp only[cellsOf,g.h];rfl) hu
def oIa(ho:op=.load t x)(hx:bO n l x=some (.iptr q))[hd:eB T t d](ha:p9 d=true)[s:SzC T t sz][p:L7 q 0 sz cs]:bF T ⟨h,nx⟩ (fr n l) op=some (.agg cs,⟨h,nx⟩):=by subst ho;exact z5k hd.h ha s.h hx p.h
def oIo(ho:op=.load t x)(hx:bO n l x=some (.iptr q))[hd:eB T t d](ha:p9 d=false)(hu:nth q 0=some u):bF T ⟨h,nx⟩ (fr n l) op=some (u,⟨h,nx⟩):=by subst ho;exact Ll hd.h ha hx hu
def oFa{f:Nat}{fs:Bo Field}{fd:Field}{off':Nat}(ho:op=.fieldAddr t x f)(hx:bO n l x=some (.ptr k 0 off))[hd:eB T t (.struct fs)][g:eK h k (.row q e)](hf:nth fs.toList f=some fd)(hs:c6 T fd.type=some (s+1))(h2:off+fd.offset=off'):bF T ⟨h,nx⟩ (fr n l) op=some (.ptr k 0 off',⟨h,nx⟩):=by subst ho;exact y9 hd.h hf hs hx (by simp only[live,g.h];rfl) h2
def oFi{f:Nat}{fs:Bo Field}{fd:Field}(ho:op=.fieldAddr t x f)(hx:bO n l x=some (.iptr q))[hd:eB T t (.struct fs)](hf:nth fs.toList f=some fd)(hs:c6 T fd.type=some (s+1))(hq:q.drop fd.offset=q'):bF T ⟨h,nx⟩ (fr n l) op=some (.iptr q',⟨h,nx⟩):=by subst ho;exact uk hd.h hf hs hx hq
variable{v11:Type}
variable{c:v11->Z U}
variable{b:BQ}
variable{xs:Z v11}
def oIx{i:Jp}{k:IntKind}{z:Int}{y:v11}(ho:op=.indexAddr t x i)(hx:bO n l x=some (.isl b (xs.map c)))(hi:bO n l i=some (.int k z))[hd:eB T t (.slice e)][hs:SzC T e sz][hc:gR c sz](hy:aC xs z=some y):bF T ⟨h,nx⟩ (fr n l) op=some (.iptr (c y),⟨h,nx⟩):=by subst ho;exact fA hx hi (Ee c hd.h hs.h hc.h hy rfl)
variable{args:Bo Jp}
variable{ts:Bo O}
def oLe{q:Z O}(ho:op=.call { callee:=.builtin .len,args:=args,argTypes:=ts })(ha:args.toList=[x])(ht:ts.toList=t::q)(hx:bO n l x=some (.isl b (xs.map c)))[hd:eB T t (.slice e)]:bF T ⟨h,nx⟩ (fr n l) op=some (.int .i64 xs.length,⟨h,nx⟩):=by subst ho;exact JK ha ht hx (qyg c hd.h)
def oLv{e':O}{q:Z O}{K st m:Nat}(ho:op=.call { callee:=.builtin .len,args:=args,argTypes:=ts })(ha:args.toList=[x])(ht:ts.toList=t::q)(hx:bO n l x=some (.vl K st 0 m))[hd:eB T t (.slice e)][g:eK h K (.vec cs e' sz st)]:bF T ⟨h,nx⟩ (fr n l) op=some (.int .i64 m,⟨h,nx⟩):=by subst ho;exact JK ha ht hx (bi hd.h g.h)
def oBd{pl:Z (Nat×Nat)}{ps:Bo (Nat×Jp)}(ho:op=.build t ps)[q:uT T t zu pl](he:AB n l ps.toList=some qs)(c:ub pl zu qs cs)(hk:okL cs=true):bF T ⟨h,nx⟩ (fr n l) op=some (.agg cs,⟨h,nx⟩):=by subst ho;exact z5r q.h he c.h hk
variable{z:A}
def oBs{b:Nat}{zs:Z U}{ps:Bo (Nat×Jp)}(ho:op=.buildSlice t k ps)(he:AB n l ps.toList=some qs)[hd:eB T t (.slice e)][hi:iS T e sz b z][hz:qP T e zu](zc:me zu k zs)(c:mz sz zs qs cs)(hk:okL cs=true)(h1:Nat.ble (k*sz) 16777216=true)(h2:Nat.ble k 16777216=true)(h3:Nat.beq z.cells.toList.length sz=true)(hn:SuC nx nx'):bF T ⟨h,nx⟩ (fr n l) op=some (.sl nx 0 k k,⟨(nx,.row cs e)::h,nx'⟩):=by subst ho;have AT:=hn.h;subst AT;obtain⟨a,b',q,g1,g2,g3⟩:=hz.h;have e1:=hi.h;rw[g1]at e1;cases e1;exact FW hd.h hi.h he h1 h2 h3 g2 (by rw[zc.h];exact c.h) hk
variable{X:Sg}
def oMv(ho:op=.move x)(hx:bO n l x=some u):bF T X (fr n l) op=some (u,X):=by subst ho;exact mW hx
def oAs(ho:op=.assign x)(hx:bO n l x=some u):bF T X (fr n l) op=some (u,X):=by subst ho;exact qq4 hx
variable{y:Jp}
def oIn{b:BinOp}{t':O}{k k':IntKind}{i j:Int}{r:A}(ho:op=.binOp b t x y t')(hx:bO n l x=some (.int k i))(hy:bO n l y=some (.int k' j))[q:IK b k i k' j r](hr:iB r=some u):bF T X (fr n l) op=some (u,X):=by subst ho;exact wX hx hy q.h hr
def oP1{c b:Jp}{t:BQ}(ho:op=.pick c a b)(hc:bO n l c=some (.bool t))(ht:t=true)(hu:bO n l a=some u):bF T X (fr n l) op=some (u,X):=by subst ho;exact que hc ht hu
def oP0{c b:Jp}{t:BQ}(ho:op=.pick c a b)(hc:bO n l c=some (.bool t))(ht:t=false)(hu:bO n l b=some u):bF T X (fr n l) op=some (u,X):=by subst ho;exact qud hc ht hu
def oEx{i:Nat}(ho:op=.extract x i)(hx:bO n l x=some (.tup q))(hu:nth q i=some u):bF T X (fr n l) op=some (u,X):=by subst ho;exact z5s hx hu
def oUn{b:UnOp}{v1 v2:A}(ho:op=.unOp b t x)(hx:bO n l x=some v)(h1:toV v=some v1)(h2:P0 b v1=some v2)(hq:iB v2=some u):bF T X (fr n l) op=some (u,X):=by subst ho;exact R9 hx h1 h2 hq
def oAp{xt e1 e2:O}{a st bG K s0 s1 by_:Nat}{yv:v11}{cs':Z U}(ho:op=.call { callee:=.builtin .append,args:=args,argTypes:=ts })(ha:args.toList=[x,y])(ht:ts.toList=[t,xt])(hx:bO n l x=some (.vl a st 0 xs.length))(hy:bO n l y=some (.sl K 0 1 1))[d1:eB T t (.slice e)][d2:eB T xt (.slice e2)][g:eK h a (.vec (xs.map c).flatten e s0 st)][i:iS T e s1 by_ z][g2:eK h K (.row q e1)][s:L7 q 0 s1 cs][w:TW cs cs'][d:DeC c cs' yv][lc:gR c s1][b_:mj st bG][ug:TX h a (.vec (List.map c (xs++[yv])).flatten e s1 bG) h'](S6:s0=s1)(hp:Nat.ble 1 s1=true)(hc:oU cs=(List.map c [yv]).flatten)(hz:Nat.beq z.cells.toList.length s1=true)(hr:(xs.length+1)*by_<=140737488355328/\xs.length+1<=140737488355328):bF T ⟨h,nx⟩ (fr n l) op=some (.vl a bG 0 (xs++[yv]).length,⟨h',nx⟩):=by subst ho;subst S6;obtain⟨sz,rfl⟩:∃sz,s0=sz+1:=⟨s0-1,by have:=zY hp;omega⟩;have e1:=b_.h;subst e1;have:=rN (X:=⟨h,nx⟩) ha ht hx hy (C0 c [yv] d1.h d2.h i.h hz lc.h g.h (E8 c [yv] (q:=q) (by simp only[rowOf,g2.h]) (by rw[Nat.one_mul];exact s.h) rfl hc) hr);rw[ug.h]at this;exact this
def oAq{xt e2:O}{a st bG s0 s1 by_:Nat}{ys:Z v11}(ho:op=.call { callee:=.builtin .append,args:=args,argTypes:=ts })(ha:args.toList=[x,y])(ht:ts.toList=[t,xt])(hx:bO n l x=some (.vl a st 0 xs.length))(hy:bO n l y=some (.isl b (ys.map c)))[d1:eB T t (.slice e)][d2:eB T xt (.slice e2)][g:eK h a (.vec (xs.map c).flatten e s0 st)][i:iS T e s1 by_ z][lc:gR c s1][b_:mj st bG][ug:TX h a (.vec (List.map c (xs++ys)).flatten e s1 bG) h'](S6:s0=s1)(hp:Nat.ble 1 s1=true)(hz:Nat.beq z.cells.toList.length s1=true)(hr:(xs.length+ys.length)*by_<=140737488355328/\xs.length+ys.length<=140737488355328):bF T ⟨h,nx⟩ (fr n l) op=some (.vl a bG 0 (xs++ys).length,⟨h',nx⟩):=by subst ho;subst S6;obtain⟨sz,rfl⟩:∃sz,s0=sz+1:=⟨s0-1,by have:=zY hp;omega⟩;have e1:=b_.h;subst e1;have:=rN (X:=⟨h,nx⟩) ha ht hx hy (C0 c ys d1.h d2.h i.h hz lc.h g.h (Ma c lc.h) hr);rw[ug.h]at this;exact this
end
variable{v10:Prop}
def opx (h:v10:=by first
 |exact Go.Vx.oIo rfl rfl rfl rfl
 |exact Go.Vx.oLo rfl rfl rfl rfl
 |exact Go.Vx.oFi rfl rfl (by exact rfl) (by exact Go.Vx.SzC.h) (by exact rfl)
 |exact Go.Vx.oFa rfl rfl (by exact rfl) (by exact Go.Vx.SzC.h) (by exact Go.Vx.AdC.h)
 |exact Go.Vx.oLa rfl rfl rfl
 |exact Go.Vx.oIa rfl rfl rfl
 |exact Go.Vx.oLe rfl rfl rfl rfl
 |exact Go.Vx.oLv rfl rfl rfl rfl
 |exact Go.Vx.oBx rfl rfl rfl
 |exact Go.Vx.oAl rfl
 |exact Go.Vx.oSt rfl rfl rfl rfl rfl
 |exact Go.Vx.oBd rfl rfl (by exact inferInstance) rfl):v10:=h
def opy (h:v10:=by first
 |exact Go.Vx.oMv rfl rfl
 |exact Go.Vx.oAs rfl rfl
 |exact Go.Vx.oIn rfl rfl rfl rfl
 |exact Go.Vx.oEx rfl rfl rfl
 |exact Go.Vx.oP1 rfl rfl (by first |with_reducible_and_instances assumption |exact rfl) rfl
 |exact Go.Vx.oP0 rfl rfl (by first |with_reducible_and_instances assumption |exact rfl) rfl
 |exact Go.Vx.oUn rfl rfl rfl rfl rfl
 |exact Go.Vx.opx):v10:=h
def opz (h:v10:=by first
 |exact Go.Vx.oBs rfl rfl (by exact inferInstance) (by exact inferInstance) rfl rfl rfl rfl (by exact inferInstance)
 |exact Go.Vx.oAp rfl rfl rfl rfl rfl rfl rfl rfl rfl (by with_reducible assumption)
 |exact Go.Vx.oAq rfl rfl rfl rfl rfl rfl rfl rfl (by with_reducible assumption)
 |exact Go.Vx.opx):v10:=h
section
variable{T:Tb}{aA r:Z Oper}{o:Oper}{n:Nat}{l:Z (Nat×U)}{X X':Sg}{u:U}
variable{C:PG}
variable{K:Z U->Sg->Prop}
variable{d:Tmp}
def cP(hk:RU C T aA r (fr n ((d,u)::l)) X' K)(h:bF T X (fr n l) o.op=some (u,X'):=by exact Go.Vx.opz)(he:o.dst=some d:=by exact rfl)(hw:cA aA (fr n l) o=some true:=by exact Go.Vx.wA)(hd:Nat.blt d n=true:=by exact rfl):RU C T aA (o::r) (fr n l) X K:=RS.op hw h he hd hk
variable{P:Uz}
variable{aY:Z RK}
variable{K:Z RK->Z U->Sg->Prop}
def fO(hk:RH P T aA r (fr n ((d,u)::l)) X' ((3,⟨fr n l,o,u,true,true,X,X'⟩)::aY) K)(h:bF T X (fr n l) o.op=some (u,X'):=by exact Go.Vx.opz)(he:o.dst=some d:=by exact rfl)(hw:cA aA (fr n l) o=some true:=by exact Go.Vx.wA)(hd:Nat.blt d n=true:=by exact rfl):RH P T aA (o::r) (fr n l) X aY K:=RD.act hw h he hd hk
def wO(hk:RH P T aA r (fr n l) X' ((3,⟨fr n l,o,u,true,true,X,X'⟩)::aY) K)(h:bF T X (fr n l) o.op=some (u,X'):=by exact Go.Vx.opz)(he:o.dst=none:=by exact rfl)(hw:cA aA (fr n l) o=some true:=by exact Go.Vx.wA):RH P T aA (o::r) (fr n l) X aY K:=Ip hw h he hk
def RD.ou(hk:RH P T aA r (fr n ((d,u)::l)) X ((1,⟨fr n l,o,u,false,false,X,X⟩)::aY) K)(h:bF T X (fr n l) o.op=some (u,X):=by exact Go.Vx.opy)(he:o.dst=some d:=by exact rfl)(hw:cA aA (fr n l) o=some true:=by exact Go.Vx.wA)(hd:Nat.blt d n=true:=by exact rfl):RH P T aA (o::r) (fr n l) X aY K:=RD.look hw h he hd hk
def RD.nt{d':Tmp}{j:Nat}{b:BQ}(hg:o.guard=some (j,true))(hj:yE aA j=some d')(hl:bO n l (.tmp d')=some (.bool b))(hb:b=false)(he:o.dst=some d)(hk:RH P T aA r (fr n ((d,.tup [])::l)) X ((0,⟨fr n l,o,.tup [],false,false,X,X⟩)::aY) K)(hd:Nat.blt d n=true:=by exact rfl):RH P T aA (o::r) (fr n l) X aY K:=RD.no (Xj hg hj hl hb) he hd hk
def RD.nf{d':Tmp}{j:Nat}{b:BQ}(hg:o.guard=some (j,false))(hj:yE aA j=some d')(hl:bO n l (.tmp d')=some (.bool b))(hb:b=true)(he:o.dst=some d)(hk:RH P T aA r (fr n ((d,.tup [])::l)) X ((0,⟨fr n l,o,.tup [],false,false,X,X⟩)::aY) K)(hd:Nat.blt d n=true:=by exact rfl):RH P T aA (o::r) (fr n l) X aY K:=RD.no (Xj hg hj hl hb) he hd hk
def aW{K:Z U->Sg->Prop}{v11:Type}{xs:Z v11}{z:Int}{y:v11}(hy:aC xs z=some y)(hk:RU C T aA r (fr n ((d,u)::l)) X K)(h:aC xs z=some y->bF T X (fr n l) o.op=some (u,X):=by intro hy;exact Go.Vx.oIx rfl rfl rfl hy)(he:o.dst=some d:=by exact rfl)(hw:cA aA (fr n l) o=some true:=by exact Go.Vx.wA)(hd:Nat.blt d n=true:=by exact rfl):RU C T aA (o::r) (fr n l) X K:=RS.op hw (h hy) he hd hk
def cY{v11:Type}{xs:Z v11}{z:Int}{y:v11}(hy:aC xs z=some y)(hk:RH P T aA r (fr n ((d,u)::l)) X ((1,⟨fr n l,o,u,false,false,X,X⟩)::aY) K)(h:aC xs z=some y->bF T X (fr n l) o.op=some (u,X):=by intro hy;exact Go.Vx.oIx rfl rfl rfl hy)(he:o.dst=some d:=by exact rfl)(hw:cA aA (fr n l) o=some true:=by exact Go.Vx.wA)(hd:Nat.blt d n=true:=by exact rfl):RH P T aA (o::r) (fr n l) X aY K:=RD.look hw (h hy) he hd hk
def RS.ou{K:Z U->Sg->Prop}(hk:RU C T aA r (fr n ((d,u)::l)) X' K)(h:bF T X (fr n l) o.op=some (u,X'):=by exact Go.Vx.opx)(he:o.dst=some d:=by exact rfl)(hw:cA aA (fr n l) o=some true:=by exact Go.Vx.wA)(hd:Nat.blt d n=true:=by exact rfl):RU C T aA (o::r) (fr n l) X K:=RS.op hw h he hd hk
def RS.oz{K:Z U->Sg->Prop}(hk:RU C T aA r (fr n l) X' K)(h:bF T X (fr n l) o.op=some (u,X'):=by exact Go.Vx.opx)(he:o.dst=none:=by exact rfl)(hw:cA aA (fr n l) o=some true:=by exact Go.Vx.wA):RU C T aA (o::r) (fr n l) X K:=RS.opn hw h he hk
end
def gd{B:Prop}(h:B) (g:Hd B->v10:=by
 intro h
 repeat' first
  |(refine Go.Vx.RD.nt rfl rfl rfl ?_ rfl ?_;· first |with_reducible_and_instances assumption |exact rfl)
  |(refine Go.Vx.RD.nf rfl rfl rfl ?_ rfl ?_;· first |with_reducible_and_instances assumption |exact rfl)
  |refine Go.Vx.RD.ou ?_
 exact h.h):v10:=g ⟨h⟩
def gs{B: Prop}(h:B) (g:Hd B->v10:=by
  intro h
  first
    |refine Go.Vx.gq ?_
    |with_reducible refine Go.Vx.sq ?_
    |with_reducible refine Go.Vx.WPU.skip ?_
    |with_reducible refine Go.Vx.RS.done ?_
    |with_reducible refine Go.Vx.WPU.ret ?_
    |with_reducible refine Go.Vx.WPU.exit ?_
    |(refine Go.Vx.RS.nt rfl rfl rfl ?_ rfl rfl ?_;· first |with_reducible_and_instances assumption |exact rfl)
    |(refine Go.Vx.RS.nf rfl rfl rfl ?_ rfl rfl ?_;· first |with_reducible_and_instances assumption |exact rfl)
    |(refine Go.Vx.RS.mo rfl rfl rfl ?_ rfl ?_;· exact Go.Vx.wA)
    |(refine Go.Vx.RS.in rfl rfl rfl rfl rfl ?_ rfl ?_;· exact Go.Vx.wA)
    | (refine Go.Vx.RS.p1 rfl rfl ?_ rfl rfl ?_ rfl ?_; · first | with_reducible_and_instances assumption | exact rfl
       exact Go.Vx.wA)
    | (refine Go.Vx.RS.p0 rfl rfl ?_ rfl rfl ?_ rfl ?_; · first | with_reducible_and_instances assumption | exact rfl
       exact Go.Vx.wA)
    |(refine Go.Vx.RS.a rfl rfl rfl ?_ rfl ?_;· exact Go.Vx.wA)
    |(refine Go.Vx.RS.ex rfl rfl rfl rfl ?_ rfl ?_;· exact Go.Vx.wA)
    |(refine Go.Vx.RS.un rfl rfl rfl rfl rfl rfl ?_ rfl ?_;· exact Go.Vx.wA)
    |refine Go.Vx.RS.ou ?_
    |refine Go.Vx.RS.oz ?_
  exact h.h):v10:=g ⟨h⟩
def go{B:Prop}(h:B)(g:Hd B->v10:=by intro h;(repeat' first |refine Go.Vx.gs ?_ |refine Go.Vx.rg1 rfl ?_);exact h.h):v10:=g ⟨h⟩
def gn{B:Prop}(h:B)(g:Hd B->v10:=by intro h;(repeat' refine Go.Vx.gs ?_);exact h.h):v10:=g ⟨h⟩
def gr{B:Prop}(h:B)(g:Hd B->v10:=by intro h;refine Go.Vx.gn ?_;refine Go.Vx.rg1 rfl ?_;refine Go.Vx.gn ?_;exact h.h):v10:=g ⟨h⟩
def gx{v11:Type}{a b:v11}(h:some a=some b)(g:a=b->v10:=by intro e;subst e;refine Go.Vx.go ?_;exact Go.Vx.rt1 rfl rfl rfl rfl):v10:=g (sI h)
def gy{v11:Type}{a b:v11}(h:some a=some b)(g:a=b->v10:=by intro e;subst e;refine Go.Vx.go ?_;exact Go.Vx.xC ⟨rfl,rfl⟩):v10:=g (sI h)
def gB{v09:Type}{t:BQ}{a b r:I v09}(h:cond t a b=r):(t=true/\a=r)\/(t=false/\b=r):=by cases t;exact .inr ⟨rfl,h⟩;exact .inl ⟨rfl,h⟩
abbrev B.bv{v11:Type}(c:v11->Z U)(l:Z v11)(e:O)(sz st:Nat):B:=.vec (l.map c).flatten e sz st
abbrev dJ(P:Uz)(f:FuncId)(args:Z U)(u:U):Prop:=aV P f args ⟨[],0⟩ (fun u' _=>u'=u/\aP 0 u')
section
variable{C:PG}{n0 n:Nat}{Q:Exit->Z U->Sg->Prop}{l:Z (Nat×U)}{h:Z (Nat×B)}{nx:Nat}{c:Code}
def gV(i:Nat)(e:O)(sz n1:Nat)(hw:WPU C n0 c (fr n ((i,.vl nx 0 0 0)::l)) ⟨(nx,.vec [] e sz 0)::h,n1⟩ Q)(hi:bO n l (.tmp i)=some .nils:=by exact rfl)(hs:Nat.blt 0 sz=true:=by exact rfl)(hn:nx+1=n1:=by exact rfl)(h0:n0<=nx:=by first |exact Nat.zero_le _ |exact zY rfl)(hd:lu n (some i)=true:=by exact rfl):WPU C n0 c (fr n l) ⟨h,nx⟩ Q:=by subst hn;refine dY (Gh.nilS i e sz ?_ h0 hi hd) (Nat.le_succ_of_le h0) hw;exact Nat.lt_of_succ_le (zY hs)
def gL{l':Z (Nat×U)}{X:Sg}{id:Nat}(v07:Nat->Z U->Sg->Prop)(E:Z U->Sg->Prop)(k:Nat)(h0:v07 k (fr n l') X)
  (out:∀tm X,E tm X->Q .normal tm X) (round:∀m tm X,v07 m tm X->WPU C n0 c tm X (BT (fun tm' X'=>∃n' hX aS,n'<m/\v07 n' hX aS/\n0<=aS.nx/\Gh n0 tm' X' hX aS) (xB id (PO n0 E Q))))
  (hn:n0<=X.nx:=by first |exact Nat.zero_le _ |exact zY rfl) (ht:IQ l l':=by((repeat refine⟨rfl,?_⟩);exact trivial)):WPU C n0 (.block id (.loop c)) (fr n l) X Q:=dY (Gh.sub ht) hn (WPU.loopK v07 E k h0 out round)
def dE{T:Tb}[t:mg C T]{tm:Z U}{X:Sg}{id:Nat}{aA:Bo Oper}(pr:Z (Nat×Nat))(h:RH C.prog T aA.toList aA.toList tm X [] (fun ks tm' X'=>flE aA.toList (ks.reverse.map (·.1)) pr=true/\Za T ks.reverse pr/\Q .normal tm' X'))(c9:WY aA.toList=true:=by kernel_rfl):WPU C n0 (.region id aA true) tm X Q:=WPU.drawE t.ok pr c9 h
end
def gF{v09:Type}{t:BQ}{a b r:I v09}{v10 A1 A2:Prop}(J:cond t a b=r)(h1:t=true->a=r->A1)(h2:t=false->b=r->A2) (g:cond t a b=r->Hd (t=true->a=r->A1)->Hd (t=false->b=r->A2)->v10:=by intro e h k;refine Go.Vx.go ?_;exact Go.Vx.cF e h.h k.h):v10:=g J ⟨h1⟩ ⟨h2⟩
end Go.Vx
