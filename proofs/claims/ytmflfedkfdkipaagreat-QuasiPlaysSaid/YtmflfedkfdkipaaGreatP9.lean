import Derived.Test.YtmflfedkfdkipaaGreatP8
set_option linter.all false
namespace Go.Vx
open Go Go.Rx
variable{n:Nat}
theorem zaf{F:Nat->mI->Prop}{y:Cx}{K:Nat}{l:X U}{e:TypeId}{sz t:Nat}{h:X (Nat×B)}(hy:y.Y=⟨(K,.vec l e sz t)::h,K+1⟩)(hh:iZ y)(hf:Fr F y)(hb:∀k b,gt h k=some b->k<K/\BelB K b)(hl:aG 0 l):
  ∃y':Cx,y'.Y=⟨(K,.vec l e sz 0)::h,K+1⟩/\y'.s=y.s/\iZ y'/\Fr F y'/\Ke K y y'/\∀v,aC y (.vl K t 0 n) v->aC y' (.vl K 0 0 n) v:=by
 have gy:∀j,gt y.Y.h j=if K=j then some (.vec l e sz t)else gt h j:=fun j=>by rw[hy];exact aP _ _ _ _
 have Xp:∀j,gt ((K,B.vec l e sz 0)::h) j=if K=j then some (.vec l e sz 0)else gt h j:=fun j=>aP _ _ _ _;have iR:y.Y.nx=K+1:=by rw[hy]
 let y':Cx:=⟨y.I,⟨(K,.vec l e sz 0)::h,K+1⟩,y.s⟩
 have fD:Mo K y y':=by refine⟨fun j h1 h2=>⟨by show j<K+1;omega,fun b' cK=>?_⟩,fun _ _ _ h=>h⟩;have hb2:gt ((K,B.vec l e sz 0)::h) j=some b':=cK;rw[Xp,if_neg qq0]at hb2;exact⟨b',by rw[gy,if_neg qq0];exact hb2,zF _,fun _=>⟨rfl,fun l e sz st h=>⟨l,h⟩⟩⟩
 refine⟨y',rfl,rfl,⟨fun j b hbj=>?_,fun j j' b b' i hbj hbj' h1 h2=>?_,hh.bd⟩,fun i b O=>?_,fD.ke,fun v hv=>?_⟩;have hb2:gt ((K,B.vec l e sz 0)::h) j=some b:=hbj;rw[Xp]at hb2;by_cases e1:K=j;subst e1;rw[if_pos rfl]at hb2;cases hb2;refine⟨by show K<K+1;omega,?_⟩;obtain⟨_,q1,q2,q3⟩:=hh.ok K (.vec l e sz t) (by rw[gy,if_pos rfl]);refine⟨q1,q2,?_⟩;rcases q3 with q3 |⟨i,l',r1,r2,r3⟩;exact .inl q3;exact .inr ⟨i,l',r1,r2,fD.ke.E (aG.le (Nat.zero_le _) l hl) r3⟩;rw[if_neg e1]at hb2;obtain⟨h1,h2⟩:=hb j b hb2;refine⟨by show j<K+1;omega,?_⟩;exact(hh.ok j b (by rw[gy,if_neg e1];exact hb2)).2.monoB h2 fD rfl fun _ _ _ h=>h
 have key:∀j b,gt ((K,B.vec l e sz 0)::h) j=some b->∃c,gt y.Y.h j=some c:=fun j b hb=>by rw[Xp]at hb;by_cases e1:K=j;exact⟨_,by rw[gy,if_pos e1]⟩;rw[if_neg e1]at hb;exact⟨b,by rw[gy,if_neg e1];exact hb⟩
 obtain⟨c,g1⟩:=key j b hbj;obtain⟨c',g2⟩:=key j' b' hbj';exact hh.inj j j' c c' i g1 g2 h1 h2;obtain⟨h1,h2⟩:=hf i b O;refine⟨h1,fun j c hc=>?_⟩;have P9:gt ((K,B.vec l e sz 0)::h) j=some c:=hc;rw[Xp]at P9;by_cases e1:K=j;exact h2 j _ (by rw[gy,if_pos e1]);rw[if_neg e1]at P9;exact h2 j c (by rw[gy,if_neg e1];exact P9);simp only[aC]at hv ⊢;refine⟨hv.1,by show K<K+1;omega,fun b hb=>?_⟩;have hb2:gt ((K,B.vec l e sz 0)::h) K=some b:=hb;rw[Xp,if_pos rfl]at hb2;cases hb2;obtain⟨_,g2⟩:=hv.2.2 (.vec l e sz t) (by rw[gy,if_pos rfl]);obtain⟨l2,e2,sz2,g3,g4⟩:=g2 rfl;cases g3;exact⟨zF _,fun _=>⟨l,e,sz,rfl,g4⟩⟩
theorem qp{v12:Type}(c:v12->X U){P:DC}{f:FuncId}{ys:X v12}{e:TypeId}{sz:Nat}{a7:X U}[hc:BF c][ha:m9 0 a7]{k:Nat}
  (h:aW P f a7 ⟨[],0⟩ (fun u Y'=>∃t',u=.vl k t' 0 ys.length/\Y'=⟨[(k,.vec (ys.map c).flatten e sz t')],k+1⟩))
  (Y:Sg) (K:Nat) (hK:Y.nx+k=K):
  aW P f a7 Y (fun u Y'=>u=.vl K 0 0 ys.length/\Y'=⟨(K,.vec (ys.map c).flatten e sz 0)::Y.h,K+1⟩):=fun F x vs m w cargs hx hh fG he dV cC=>by
 have h1:=aW.own1 c h Y K hK;refine(h1 F x vs m w cargs hx hh fG he dV cC).mono ?_;rintro e' w₁ ⟨y,aL,u,v,cv,q1,⟨t',rfl,q3⟩,q4,q5,q6,q7,q8,q9,q10⟩;obtain⟨y',z1,z2,z3,z4,z5,z6⟩:=zaf (F:=F) q3 q6 q7 (fun k b hb=>by
  have:=hh.ok k b (by rw[hx];exact hb);rw[hx]at this;refine⟨by omega,?_⟩;have uO:=this.2.belB;rw[hx]at uO;cases b with
  |row l e=>exact aG.le qq0 l uO|vec l e s st=>exact aG.le qq0 l uO
  |map es cl=>exact fun e he=>⟨aT.le qq0 _ (uO e he).1,aT.le qq0 _ (uO e he).2⟩) (NK 0 (hc.h 0) ys)
 exact⟨y',aL,_,v,cv,q1,⟨rfl,z1⟩,by rw[z2];exact q4,by rw[z2];exact q5,z3,z4,z6 v q8,q9.trans (z5.le (by rw[hx];omega)),by rw[z1,hx];show Y.nx<=K+1;omega⟩
theorem JW{P:DC}{T:Tb}{aA r:X Oper}{o:Oper}{l:X (Nat×U)}{Y Y1:Sg}{aZ:X RK}{K:X RK->X U->Sg->Prop}{u:U}{f:FuncId}{args:X U}(hw:c8 aA (fr n l) o=some true)(hc:jO T (fr n l) o.op=some (f,args))(jJ:aW P f args Y (fun u' Y'=>u'=u/\Y'=Y1)){d:Tmp}(he:o.dst=some d)(hd:Nat.blt d n=true)
  (hk:RH P T aA r (fr n ((d,u)::l)) Y1 ((3,⟨fr n l,o,u,true,true,Y,Y1⟩)::aZ) K):RH P T aA (o::r) (fr n l) Y aZ K :=
 RH.callM hw hc jJ (by rw[he,sG (d:=some d) u hd];exact hk)
def K5(k:IntKind)(a b:Int):Int:=k.wrap (BitVec.ofInt k.bits a&&&BitVec.ofInt k.bits b).toNat
def Te(k:IntKind)(a b:Int):Int:=k.wrap (BitVec.ofInt k.bits a|||BitVec.ofInt k.bits b).toNat
def v06(k:IntKind)(a b:Int):Int:=k.wrap (BitVec.ofInt k.bits a &&& ~~~ BitVec.ofInt k.bits b).toNat
theorem qqz(k:IntKind)(a b:Int):kB .andNot k a k b=some (.int k (v06 k a b)):=by simp[kB,v06]
theorem am(k:IntKind)(a b:Int):kB .and k a k b=some (.int k (K5 k a b)):=by simp[kB,K5]
theorem Tx(k:IntKind)(a b:Int):kB .or k a k b=some (.int k (Te k a b)):=by simp[kB,Te]
def XS(s:X Yv)(i:Int):V Int:=if 0<=i/\i<(s.length:Int)then(s[i.toNat]?).map fun b=>(b.toNat:Int)else none
theorem oh{T:Tb}{Y:Sg}{l:X (Nat×U)}{t:TypeId}{x y:Xt}{s:X Yv}{k:IntKind}{i z:Int}(hd:T.und t=some .string)(hx:bM n l x=some (.str s))(hy:bM n l y=some (.int k i))(h:XS s i=some z):bI T Y (fr n l) (.index t x y)=some (.int .u8 z,Y):=by unfold XS at h;split at h;rename_i hp;rcases hb:s[i.toNat]? with _|b;rw[hb]at h;cases h;rw[hb]at h;simp only[zM,zA]at h;subst h;have e1:sL i s.length=true:=KS hp;refine tL ?_;simp only[i4,dQ hx,dQ hy,wt,g2,toV,Y4,hd,e1,zC,kK,hb,jP];cases h
def SubH(Y τ:Sg):Prop:=∀k b,gt Y.h k=some b->gt τ.h k=some b
section
variable{Y τ:Sg}(hs:SubH Y τ)
include hs
variable{T:Tb}{tm:X U}
def SZ:Op->PE
 |.alloc _ |.box _ _ |.store _ _ _ |.buildSlice _ _ _ |.makeSlice _ _ _ |.makeMap _ _ |.mapUpdate _ _ _ _ |.insert _ _ _ _ |.mapEntry _ _ _ |.entryStore _ _ _ _=>false|.call c=>(match c.callee with
  |.builtin .append=>false|.builtin .copy=>false
  |.builtin .delete=>false|.builtin .clear=>false
  |_=>true)
 |_=>true
end
def VP:V Nat->Nat->U
 |none,k=>.ptr k 0 0|some n,k=>.sl k 0 n n
structure Al where
 i:Nat
 k:Nat
 o:V Nat
 l:X U
 e:TypeId
def MkU(P:DC)(T:Tb)(tm:X U)(op:Op)(al:Al):Prop :=
 (∀s,bI T s tm op=some (VP al.o s.nx,newU s (.row al.l al.e)))\/∃f args,jO T tm op=some (f,args)/\∀s,aW P f args s (fun u s'=>u=VP al.o s.nx/\s'=newU s (.row al.l al.e))
structure Loc(T:Tb)(aA:X Oper)(xV:X Al)(i:Nat)(r:eM)(K:Nat)(q q':X U)(e:TypeId):Prop where
 name:∃al∈xV,al.k=K
 row:gt r.s.h K=some (.row q e)
 out:r.s'=⟨ug r.s.h K (.row q' e),r.s.nx⟩
 dst:r.o.dst=none
 run:∀ τ:Sg,gt τ.h K=some (.row q e)->bI T τ r.tm r.o.op=some (r.u,⟨ug τ.h K (.row q' e),τ.nx⟩)
 pre:∀al∈xV,Pre aA i al.i\/(al.k≠K/\aG al.k q')
 want:c8 aA r.tm r.o=some true
structure ChA(P:DC)(T:Tb)(aA:X Oper)(tm₀:X U)(Yb Y1:Sg)(rs:X eM)(xV:X Al):Prop where
 some:xV≠[]
 names:∀al∈xV,Yb.nx<=al.k/\al.k<Y1.nx
 nodup:∀a∈xV,∀b∈xV,a.k=b.k->a.i=b.i
 le:Yb.nx<=Y1.nx
 at_:∀al∈xV,∃r d,rs[al.i]? = .some r/\r.u=VP al.o al.k/\r.act=false/\r.mv=true/\MkU P T r.tm r.o.op al/\r.o.guard=none/\r.o.dst=.some d
 row:∀al∈xV,aG 0 al.l
 all:∀(i:Nat)(r:eM),rs[i]? = .some r->r.act=false->r.mv=true->∃al∈xV,al.i=i
 own:∀al∈xV,gt Y1.h al.k=.some (.row al.l al.e)
 oth:∀j,(∀al∈xV,al.k≠j)->gt Y1.h j=gt Yb.h j
 acts:∀(i:Nat)(r:eM),rs[i]? = .some r->r.act=true->(∀al∈xV,Pre aA i al.i)\/∃K q q' e,Loc T aA xV i r K q q' e
 early:∀(i:Nat)(r:eM),rs[i]? = .some r->r.act=false->r.mv=false->(∀al∈xV,Pre aA i al.i)\/(aT Yb.nx r.u/\(c8 aA r.tm r.o=.some true->bI T r.s r.tm r.o.op=.some (r.u,r.s')->SZ r.o.op=true/\bI T ⟨Yb.h,Y1.nx⟩ r.tm r.o.op=.some (r.u,⟨Yb.h,Y1.nx⟩)))
section
variable{P:DC}{T:Tb}(hT:j0 P T)(aA:Zu Oper){tm₀:X U}{Yb Y1:Sg}{rs:X eM}{tm':X U}{Y':Sg}{xV:X Al}
 (j9:ct P T aA.toList tm₀ Y1 rs tm' Y') (dC:YP aA.toList=true) (P7:ChU T aA.toList rs) (lU:ChA P T aA.toList tm₀ Yb Y1 rs xV)
include j9 lU
include hT dC P7
end
def Tt(mk K:Nat)(q':X U):X Al->Prop
 |[]=>True|al::r=>(Nat.testBit mk al.i=true\/(al.k≠K/\aG al.k q'))/\Tt mk K q' r
def RA(P:DC)(T:Tb)(aA:X Oper)(nb:Nat)(Ye:Sg)(qa:X Al):X Oper->X U->Sg->X RK->X Al->(X RK->X U->Sg->Prop)->Prop
 |[],tm,Y,aZ,q,K=>q=[]/\K aZ tm Y|o::r,tm,Y,aZ,q,K=>
  (c8 aA tm o=some true/\∃u,bI T Y tm o.op=some (u,Y)/\RA P T aA nb Ye qa r (eH tm o.dst u) Y ((1,⟨tm,o,u,false,false,Y,Y⟩)::aZ) q K)\/ (c8 aA tm o=some true/\∃u Y',bI T Y tm o.op=some (u,Y')/\RA P T aA nb Ye qa r (eH tm o.dst u) Y' ((3,⟨tm,o,u,true,true,Y,Y'⟩)::aZ) q K)\/ (c8 aA tm o=some true/\∃f args u,jO T tm o.op=some (f,args)/\aW P f args Y (fun u' Y'=>u'=u/\Y'=Y)/\RA P T aA nb Ye qa r (eH tm o.dst u) Y ((2,⟨tm,o,u,true,false,Y,Y⟩)::aZ) q K)\/ (c8 aA tm o=some true/\∃f args u Y',jO T tm o.op=some (f,args)/\aW P f args Y (fun u' s'=>u'=u/\s'=Y')/\RA P T aA nb Ye qa r (eH tm o.dst u) Y' ((3,⟨tm,o,u,true,true,Y,Y'⟩)::aZ) q K)\/ (c8 aA tm o=some false/\RA P T aA nb Ye qa r (eH tm o.dst (.tup [])) Y ((0,⟨tm,o,.tup [],false,false,Y,Y⟩)::aZ) q K)\/ (c8 aA tm o=some true/\∃u,sX P T tm o.op u/\aT nb u/\RA P T aA nb Ye qa r (eH tm o.dst u) Y ((6,⟨tm,o,u,false,false,Y,Y⟩)::aZ) q K)\/ (c8 aA tm o=some true/\∃u,bI T Y tm o.op=some (u,Y)/\bI T Ye tm o.op=some (u,Ye)/\SZ o.op=true/\aT nb u/\RA P T aA nb Ye qa r (eH tm o.dst u) Y ((5,⟨tm,o,u,false,false,Y,Y⟩)::aZ) q K)\/ (∃al q' d,q=al::q'/\al.i=aZ.length/\MkU P T tm o.op al/\o.guard=none/\o.dst=some d/\RA P T aA nb Ye qa r (eH tm o.dst (VP al.o al.k)) Y ((4,⟨tm,o,VP al.o al.k,false,true,Y,Y⟩)::aZ) q' K)\/ (c8 aA tm o=some true/\∃u KK c c' e mk,(dY aA [])[aZ.length]? = some mk/\o.dst=none/\gt Y.h KK=some (.row c e)/\(∀ τ:Sg,gt τ.h KK=some (.row c e)->bI T τ tm o.op=some (u,⟨ug τ.h KK (.row c' e),τ.nx⟩))/\(∃al∈qa,al.k=KK)/\Tt mk KK c' qa/\
   RA P T aA nb Ye qa r (eH tm o.dst u) ⟨ug Y.h KK (.row c' e),Y.nx⟩ ((7,⟨tm,o,u,true,true,Y,⟨ug Y.h KK (.row c' e),Y.nx⟩⟩)::aZ) q K)
def kf(k:Nat):Nat:=cond (Nat.beq k 4) 0 (cond (Nat.beq k 5) 1 (cond (Nat.beq k 6) 0 (cond (Nat.beq k 7) 3 k)))
section
variable{P:DC}{T:Tb}
end
section
variable{C:PG}{T:Tb}(hT:j0 C.prog T){n0:Nat}{Q:Exit->X U->Sg->Prop}{tm:X U}{Y:Sg}
include hT
end
section
variable{P:DC}{T:Tb}{aA r:X Oper}{o:Oper}{n nb:Nat}{Ye:Sg}{l:X (Nat×U)}{Y Y':Sg}{aZ:X RK}{q qa:X Al}{K:X RK->X U->Sg->Prop}{u:U}
variable{d:Tmp}
theorem RQ.act(hw:c8 aA (fr n l) o=some true)(h:bI T Y (fr n l) o.op=some (u,Y'))(he:o.dst=some d)(hd:Nat.blt d n=true)(hk:RA P T aA nb Ye qa r (fr n ((d,u)::l)) Y' ((3,⟨fr n l,o,u,true,true,Y,Y'⟩)::aZ) q K):RA P T aA nb Ye qa (o::r) (fr n l) Y aZ q K :=
 .inr (.inl ⟨hw,u,Y',h,by rw[he,sG (d:=some d) u hd];exact hk⟩)
theorem RQ.call{f:FuncId}{args:X U}(hw:c8 aA (fr n l) o=some true)(hc:jO T (fr n l) o.op=some (f,args))(jJ:aW P f args Y (fun u' Y'=>u'=u/\Y'=Y))(he:o.dst=some d)(hd:Nat.blt d n=true)(hk:RA P T aA nb Ye qa r (fr n ((d,u)::l)) Y ((2,⟨fr n l,o,u,true,false,Y,Y⟩)::aZ) q K):RA P T aA nb Ye qa (o::r) (fr n l) Y aZ q K :=
 .inr (.inr (.inl ⟨hw,f,args,u,hc,jJ,by rw[he,sG (d:=some d) u hd];exact hk⟩))
theorem RQ.alloc{al:Al}(hi:al.i=aZ.length)(ho:∀s,bI T s (fr n l) o.op=some (VP al.o s.nx,newU s (.row al.l al.e)))(hg:o.guard=none)(he:o.dst=some d)(hd:Nat.blt d n=true)(hk:RA P T aA nb Ye qa r (fr n ((d,VP al.o al.k)::l)) Y ((4,⟨fr n l,o,VP al.o al.k,false,true,Y,Y⟩)::aZ) q K):RA P T aA nb Ye qa (o::r) (fr n l) Y aZ (al::q) K :=
 .inr (.inr (.inr (.inr (.inr (.inr (.inr (.inl ⟨al,q,d,rfl,hi,.inl ho,hg,he,by rw[he,sG (d:=some d) _ hd];exact hk⟩)))))))
end
section
variable{C:PG}{T:Tb}(hT:j0 C.prog T){n0:Nat}{Q:Exit->X U->Sg->Prop}{tm:X U}{Y:Sg}
include hT
end
class TbP(P:DC)(T:outParam Tb):Prop where
 ok:j0 P T
class cy(C:PG)(T:outParam Tb):Prop where
 ok:j0 C.prog T
instance{P:DC}{T:Tb}[h:TbP P T]:cy (PG.of P) T:=⟨h.ok⟩
section
variable{P:DC}{T:Tb}{aA r:X Oper}{o:Oper}{n:Nat}{l:X (Nat×U)}{Y Y':Sg}{u:U}
theorem aY{C:PG}{K:X U->Sg->Prop}{d:Tmp}(he:o.dst=some d)(h:bI T Y (fr n l) o.op=some (u,Y'))(hk:RU C T aA r (fr n ((d,u)::l)) Y' K)(hw:c8 aA (fr n l) o=some true:=by exact rfl)(hd:Nat.blt d n=true:=by exact rfl):RU C T aA (o::r) (fr n l) Y K:=RS.op hw h he hd hk
theorem aV{aZ:X RK}{K:X RK->X U->Sg->Prop}{d:Tmp}(he:o.dst=some d)(h:bI T Y (fr n l) o.op=some (u,Y))(hk:RH P T aA r (fr n ((d,u)::l)) Y ((1,⟨fr n l,o,u,false,false,Y,Y⟩)::aZ) K)(hw:c8 aA (fr n l) o=some true:=by exact rfl)(hd:Nat.blt d n=true:=by exact rfl):RH P T aA (o::r) (fr n l) Y aZ K:=RD.look hw h he hd hk
end
theorem st{A B:Prop}(h:B)(g:B->A:=by intro h;(repeat refine Go.Vx.gq ?_);(repeat refine Go.Vx.sq ?_);exact h):A:=g h
theorem aW.viewT{P:DC}{f:FuncId}{args args':X U}{Y:Sg}{us:X U}{rs:X Value}(h:aW P f args ⟨[],0⟩ (fun u' _=>u'=.tup us/\aT 0 u'))(ha:aG 0 args)(hu:lL us=some rs)(B9:∀m,aJ m rs=rs){Y1:Sg}(hg:Gh 0 args' Y args Y1):aW P f args' Y (fun u' Y'=>u'=.tup us/\Y'=Y):=fun F x vs m w cargs hx hh fG he dV cC=>by
 obtain⟨y1,a1,a2,a3,a4,a5,a6⟩:=hg F x vs hx hh fG he;have pH:=a1 m w dV;have eO:=bT.less pH.fits (qnb y1.s);have fD:Mo 0 y1 (cx (AJ y1.s)):=⟨fun k hk=>qq0,fun i row e hl=>by show lk (AJ y1.s).h i=_;rw[L2,hl];rfl⟩;have eT:∀b,¬ QB m (AJ y1.s) b:=fun b ⟨i,c,hc,ho,_⟩=>by rw[L2]at hc;obtain⟨_,l,e,rfl⟩:=S5 hc;simp[Rx.Own]at ho
 refine(h (fun _ _=>False) (cx (AJ y1.s)) vs m w cargs rfl ⟨fun k b hb=>by simp[cx,gt]at hb,fun k k' b b' i hb=>by simp[cx,gt]at hb,fun i b hb=>?_⟩ (fun _ _ O=>O.elim) (fD.ke.E ha a5) eO.fits (cC.ext (aN.refl _ _) (Nat.le_trans pH.nx eO.nx))).mono ?_;have cK:lk (AJ y1.s).h i=some b:=hb;rw[L2]at cK;exact a3.bd i b (S5 cK).1;rintro e vX ⟨y2,DX,u',v',cv,rfl,⟨rfl,_⟩,aS,iP,_,_,yW,_,_⟩;simp only[aC]at yW;obtain⟨KH,rfl,hv1,hv2⟩:=yW;have hv:=(NE us rs hu y2 KH).1 ⟨hv1,hv2⟩;subst hv;have hcv:cv=.tuple ⟨KH⟩:=by rw[<-iP.at];simp only[ren,lY,B9]
 subst hcv;have nW:∀b,b<w.heap.size->vX.heap[b]? = w.heap[b]?:=fun b aE=>aS.same b aE (eT b);refine⟨x,m,.tup us,.tuple ⟨KH⟩,.tuple ⟨KH⟩,rfl,⟨rfl,hx⟩,⟨aN.refl _ _,zF _,fun m' jR=>?_,fun b h=>.inl h,fun b aE _=>nW b aE,aS.size,aS.os,aS.tape,aS.output⟩,fun m' _=>by simp only[ren,lY,B9],hh,fG,by simp only[aC];exact⟨KH,rfl,((NE us KH hu x KH).2 rfl).1,((NE us KH hu x KH).2 rfl).2⟩,Ke.refl _ _,zF _⟩;have CQ:=dV m' jR;exact⟨fun i b hb=>(CQ.ok i b hb).world (nW _ (CQ.size hb)),CQ.inj,CQ.bd⟩
class fX{v12:Type}(c:v12->X U)(n:outParam Nat):Prop where
 h:∀x,(c x).length=n
instance(k:IntKind):fX (cI k) 1:=⟨mC k⟩
instance:fX cS 1:=⟨N6⟩
instance{v12:Type}(c:v12->X U):fX (cL c) 1:=⟨RJ c⟩
abbrev U.iM{v12:Type}(c:v12->X U)(l:X v12):U:=.isl false (l.map c)
abbrev U.i6(z:Int):U:=.int .i64 z
variable{P:DC}
variable{f:FuncId}
variable{args:X U}
variable{u:U}
theorem pC(h:aW P f args ⟨[],0⟩ (fun u' _=>u'=u/\aT 0 u'))[q:m9 0 args](Y:Sg):aW P f args Y (fun u' Y'=>u'=u/\Y'=Y):=aW.pure1C h Y
theorem sI{v12:Type}{a b:v12}(h:some a=some b):a=b:=Option.some.inj h
class Nq(a b:Nat):Prop where
 h:Nat.beq a b=false
instance{b:Nat}:Nq 0 (b+1):=⟨rfl⟩
instance{b:Nat}:Nq (b+1) 0:=⟨rfl⟩
instance{a b:Nat}[q:Nq a b]:Nq (a+1) (b+1):=⟨q.h⟩
class eE(h:X (Nat×B))(K:Nat)(b:outParam B):Prop where
 h:gt h K=some b
instance(priority:=low){K k:Nat}{x b:B}{t:X (Nat×B)}[n:Nq k K][g:eE t K b]:eE ((k,x)::t) K b:=⟨by simp only[gt,n.h,zD,g.h]⟩
instance{K:Nat}{b:B}{t:X (Nat×B)}:eE ((K,b)::t) K b:=⟨by simp[gt]⟩
class qd(b:B):Prop where
 h:∀es cl,b≠.map es cl
instance{l:X U}{e:TypeId}:qd (.row l e):=⟨fun _ _=>nofun⟩
instance{l:X U}{e:TypeId}{s t:Nat}:qd (.vec l e s t):=⟨fun _ _=>nofun⟩
class Ck(n sz:Nat)(l:X U)(r:outParam (X (X U))):Prop where
 h:n*sz<=l.length
 e:bN sz n l=r
instance{s:Nat}{l:X U}:Ck 0 s l []:=⟨by omega,by simp[bN]⟩
instance{n:Nat}{a:U}{l:X U}{r:X (X U)}[q:Ck n 1 l r]:Ck (n+1) 1 (a::l) ([a]::r):=⟨by have:=q.h;simp;omega,by have:=q.e;simp[bN,this]⟩
instance{n:Nat}{a b:U}{l:X U}{r:X (X U)}[q:Ck n 2 l r]:Ck (n+1) 2 (a::b::l) ([a,b]::r):=⟨by have:=q.h;simp;omega,by have:=q.e;simp[bN,this]⟩
instance{n:Nat}{a b c:U}{l:X U}{r:X (X U)}[q:Ck n 3 l r]:Ck (n+1) 3 (a::b::c::l) ([a,b,c]::r):=⟨by have:=q.h;simp;omega,by have:=q.e;simp[bN,this]⟩
class tZ(K:Nat)(b:B)(sz:Nat)(u:U)(u':outParam U):Prop where
 h:fz K b sz u=u'
class JT(K:Nat)(b:B)(sz:Nat)(l:X U)(l':outParam (X U)):Prop where
 h:gU K b sz l=l'
section
variable{K:Nat}{b:B}{sz:Nat}
instance(priority:=low){l:X U}[q:m9 K l]:JT K b sz l l:=⟨tP b sz l q.h⟩
instance:JT K b sz [] []:=⟨vF K b sz⟩
instance{u u':U}{l l':X U}[a:tZ K b sz u u'][q:JT K b sz l l']:JT K b sz (u::l) (u'::l'):=⟨by rw[sZ,a.h,q.h]⟩
instance{k:IntKind}{z:Int}:tZ K b sz (.int k z) (.int k z):=⟨DL K b sz k z⟩
instance{x:X Yv}:tZ K b sz (.str x) (.str x):=⟨RM K b sz x⟩
instance:tZ K b sz .nils .nils:=⟨ND K b sz⟩
instance{t:PE}{l:X (X U)}:tZ K b sz (.isl t l) (.isl t l):=⟨H6 K b sz t l⟩
instance{l l':X U}[q:JT K b sz l l']:tZ K b sz (.agg l) (.agg l'):=⟨by rw[N8,q.h]⟩
instance{l l':X U}[q:JT K b sz l l']:tZ K b sz (.tup l) (.tup l'):=⟨by rw[RL,q.h]⟩
instance{f:Fn}{a a' c c':X U}[q:JT K b sz a a'][r:JT K b sz c c']:tZ K b sz (.fn f a c) (.fn f a' c'):=⟨by rw[R9,q.h,r.h]⟩
instance{k st off n:Nat}[q:Nq k K]:tZ K b sz (.vl k st off n) (.vl k st off n):=⟨zf q.h b sz st off n⟩
instance{k off n c:Nat}[q:Nq k K]:tZ K b sz (.sl k off n c) (.sl k off n c):=⟨U8 q.h b sz off n c⟩
instance{k st off:Nat}[q:Nq k K]:tZ K b sz (.ptr k st off) (.ptr k st off):=⟨UB q.h b sz st off⟩
end
instance{v12:Type}{c:v12->X U}{sz s K st:Nat}{l:X v12}{e:TypeId}[q:fX c sz]:tZ K (.vec (l.map c).flatten e sz st) s (.vl K st 0 l.length) (.isl false (l.map c)):=⟨GX q.h l K s e st⟩
instance{K sz n:Nat}{l:X U}{e:TypeId}{r:X (X U)}[q:Ck n sz l r]:tZ K (.row l e) sz (.sl K 0 n n) (.isl false r):=⟨by rw[U9 K l e sz n q.h,q.e]⟩
instance{K sz:Nat}{l:X U}{e:TypeId}:tZ K (.row l e) sz (.ptr K 0 0) (.iptr l):=⟨Xs K l e sz⟩
instance{K sz:Nat}{b:B}{u u':U}[q:tZ K b sz u u']:tZ K b sz (m5 [u]) u':=⟨q.h⟩
instance{K sz:Nat}{b:B}{u v u':U}{l:X U}[q:tZ K b sz (.tup (u::v::l)) u']:tZ K b sz (m5 (u::v::l)) u':=⟨q.h⟩
class FzB(K:Nat)(b:B)(sz:Nat)(x:B)(x':outParam B):Prop where
 h:fzB K b sz x=x'
instance{K sz:Nat}{b:B}{l l':X U}{e:TypeId}[q:JT K b sz l l']:FzB K b sz (.row l e) (.row l' e):=⟨by rw[fzB,q.h]⟩
instance{K sz:Nat}{b:B}{l l':X U}{e:TypeId}{s st:Nat}[q:JT K b sz l l']:FzB K b sz (.vec l e s st) (.vec l' e s st):=⟨by rw[fzB,q.h]⟩
class VV(K:Nat)(b:B)(sz:Nat)(h:X (Nat×B))(h':outParam (X (Nat×B))):Prop where
 h:fzH K b sz h=h'
section
variable{K:Nat}{b:B}{sz:Nat}
instance:VV K b sz [] []:=⟨rfl⟩
instance(priority:=low){k:Nat}{c c':B}{h h':X (Nat×B)}[n:Nq k K][p:FzB K b sz c c'][q:VV K b sz h h']:VV K b sz ((k,c)::h) ((k,c')::h'):=⟨by simp only[fzH,n.h,zD,p.h,q.h]⟩
instance{c:B}{h h':X (Nat×B)}[q:VV K b sz h h']:VV K b sz ((K,c)::h) h':=⟨by simp[fzH,q.h]⟩
end
class eh(K:Nat)(b:B)(sz:Nat)(l:X (Nat×U))(l':outParam (X (Nat×U))):Prop where
 h:fzS K b sz l=l'
instance{K:Nat}{b:B}{sz:Nat}:eh K b sz [] []:=⟨rfl⟩
instance{K:Nat}{b:B}{sz i:Nat}{u u':U}{l l':X (Nat×U)}[a:tZ K b sz u u'][q:eh K b sz l l']:eh K b sz ((i,u)::l) ((i,u')::l'):=⟨by rw[fzS,a.h,q.h]⟩
variable{n0:Nat}
variable{nx:Nat}
variable{h:X (Nat×B)}
variable{h':X (Nat×B)}
variable{b:B}
theorem sC{tm tm':X U}(K sz:Nat)[g:eE h K b][m:qd b][t:JT K b sz tm tm'][q:VV K b sz h h']:Gh n0 tm ⟨h,nx⟩ tm' ⟨h',nx⟩:=Gh.fz K b sz g.h m.h t.h q.h
variable{n:Nat}
variable{l:X (Nat×U)}
variable{l':X (Nat×U)}
theorem JV(K sz:Nat)[g:eE h K b][m:qd b][t:eh K b sz l l'][q:VV K b sz h h']:Gh n0 (fr n l) ⟨h,nx⟩ (fr n l') ⟨h',nx⟩:=Gh.fzS K b sz g.h m.h t.h q.h
class VR(h:X (Nat×B))(K:Nat)(b:B)(h':outParam (X (Nat×B))):Prop where
 h:ug h K b=h'
instance{K:Nat}{x b:B}{t:X (Nat×B)}:VR ((K,x)::t) K b ((K,b)::t):=⟨by simp[ug]⟩
instance(priority:=low){K k:Nat}{x b:B}{t t':X (Nat×B)}[n:Nq k K][g:VR t K b t']:VR ((k,x)::t) K b ((k,x)::t'):=⟨by simp only[ug,n.h,zD,g.h]⟩
class VQ(l:X U)(l':outParam (X U)):Prop where
 h:oU l l'
instance:VQ [] []:=⟨.nil⟩
instance(priority:=low){u:U}{l l':X U}[q:VQ l l']:VQ (u::l) (u::l'):=⟨.cons (.refl _) q.h⟩
instance{l l':X U}[q:VQ l l']:VQ (.nils::l) (.isl false []::l'):=⟨.cons (.nil false) q.h⟩
theorem Gh.rowC{tm:X U}{q q':X U}{e:TypeId}(K:Nat)[g:eE h K (.row q e)][w:VQ q q'][u:VR h K (.row q' e) h'](hk:okL q'=true:=by exact rfl):Gh n0 tm ⟨h,nx⟩ tm ⟨h',nx⟩:=by have:=Gh.rowW (n0:=n0) (tm:=tm) (Y:=⟨h,nx⟩) g.h hk w.h;simp only[u.h]at this;exact this
theorem NZ:0<=n:=Nat.zero_le n
theorem NL{a b:Nat}(h:Nat.ble a b=true:=by exact rfl):a<=b:=zY h
theorem sB{a b:Nat}(h:Nat.ble a b=true):a<=b:=zY h
variable{T:Tb}
variable{fn:Func}
variable{k:Code}
variable{Y:Sg}
variable{R:U->Sg->Prop}
theorem bg0[t:TbP P T](n:Nat)(hf:T.fn f=some fn)(h:WPU (PG.of P) Y.nx k (fr n []) Y fun e tm' Y'=>(e=.normal\/e=.ret)/\∃l,kZ T Y' tm' fn.results.toList=some l/\∃u' aU,Y.nx<=aU.nx/\Gh Y.nx [m5 l] Y' [u'] aU/\R u' aU)(hn:fn.ntmps=n:=by exact rfl)(hb:fn.body=some k:=by exact rfl)(hk:Nat.ble 0 n=true:=by exact rfl):aW P f [] Y R:=Fl t.ok hf hb (dF (by rw[hn];exact Fk (sB hk)) (zF _) h)
theorem lG[t:TbP P T]{a:U}(n:Nat)(hf:T.fn f=some fn)(h:WPU (PG.of P) Y.nx k (fr n [(0,a)]) Y fun e tm' Y'=>(e=.normal\/e=.ret)/\∃l,kZ T Y' tm' fn.results.toList=some l/\∃u' aU,Y.nx<=aU.nx/\Gh Y.nx [m5 l] Y' [u'] aU/\R u' aU)(hn:fn.ntmps=n:=by exact rfl)(hb:fn.body=some k:=by exact rfl)(hk:Nat.ble 1 n=true:=by exact rfl):aW P f [a] Y R:=Fl t.ok hf hb (dF (by rw[hn];exact Fk (sB hk)) (zF _) h)
theorem eL[t:TbP P T]{a b:U}(n:Nat)(hf:T.fn f=some fn)(h:WPU (PG.of P) Y.nx k (fr n [(0,a),(1,b)]) Y fun e tm' Y'=>(e=.normal\/e=.ret)/\∃l,kZ T Y' tm' fn.results.toList=some l/\∃u' aU,Y.nx<=aU.nx/\Gh Y.nx [m5 l] Y' [u'] aU/\R u' aU)(hn:fn.ntmps=n:=by exact rfl)(hb:fn.body=some k:=by exact rfl)(hk:Nat.ble 2 n=true:=by exact rfl):aW P f [a,b] Y R:=Fl t.ok hf hb (dF (by rw[hn];exact Fk (sB hk)) (zF _) h)
variable{c:U}
theorem xU[t:TbP P T]{a b:U}(n:Nat)(hf:T.fn f=some fn)(h:WPU (PG.of P) Y.nx k (fr n [(0,a),(1,b),(2,c)]) Y fun e tm' Y'=>(e=.normal\/e=.ret)/\∃l,kZ T Y' tm' fn.results.toList=some l/\∃u' aU,Y.nx<=aU.nx/\Gh Y.nx [m5 l] Y' [u'] aU/\R u' aU)(hn:fn.ntmps=n:=by exact rfl)(hb:fn.body=some k:=by exact rfl)(hk:Nat.ble 3 n=true:=by exact rfl):aW P f [a,b,c] Y R:=Fl t.ok hf hb (dF (by rw[hn];exact Fk (sB hk)) (zF _) h)
theorem Lg[t:TbP P T]{a b d:U}(n:Nat)(hf:T.fn f=some fn)(h:WPU (PG.of P) Y.nx k (fr n [(0,a),(1,b),(2,c),(3,d)]) Y fun e tm' Y'=>(e=.normal\/e=.ret)/\∃l,kZ T Y' tm' fn.results.toList=some l/\∃u' aU,Y.nx<=aU.nx/\Gh Y.nx [m5 l] Y' [u'] aU/\R u' aU)(hn:fn.ntmps=n:=by exact rfl)(hb:fn.body=some k:=by exact rfl)(hk:Nat.ble 4 n=true:=by exact rfl):aW P f [a,b,c,d] Y R:=Fl t.ok hf hb (dF (by rw[hn];exact Fk (sB hk)) (zF _) h)
theorem bg5[t:TbP P T]{a b d e:U}(n:Nat)(hf:T.fn f=some fn)(h:WPU (PG.of P) Y.nx k (fr n [(0,a),(1,b),(2,c),(3,d),(4,e)]) Y fun e tm' Y'=>(e=.normal\/e=.ret)/\∃l,kZ T Y' tm' fn.results.toList=some l/\∃u' aU,Y.nx<=aU.nx/\Gh Y.nx [m5 l] Y' [u'] aU/\R u' aU)(hn:fn.ntmps=n:=by exact rfl)(hb:fn.body=some k:=by exact rfl)(hk:Nat.ble 5 n=true:=by exact rfl):aW P f [a,b,c,d,e] Y R:=Fl t.ok hf hb (dF (by rw[hn];exact Fk (sB hk)) (zF _) h)
class M6(u u':U):Prop where
 h:Wk u u'
class Zx(l l':X U):Prop where
 h:oU l l'
instance(priority:=low){u:U}:M6 u u:=⟨.refl u⟩
instance:M6 .nils (.isl false []):=⟨.nil false⟩
instance{l l':X U}[q:Zx l l']:M6 (.agg l) (.agg l'):=⟨.agg q.h⟩
instance{l l':X U}[q:Zx l l']:M6 (.tup l) (.tup l'):=⟨.tup q.h⟩
instance{u u':U}[q:M6 u u']:M6 (m5 [u]) u':=⟨q.h⟩
instance{u v u':U}{l:X U}[q:M6 (.tup (u::v::l)) u']:M6 (m5 (u::v::l)) u':=⟨q.h⟩
instance:Zx [] []:=⟨.nil⟩
instance{u u':U}{l l':X U}[a:M6 u u'][q:Zx l l']:Zx (u::l) (u'::l'):=⟨.cons a.h q.h⟩
theorem lC{v09:Nat->X U->Sg->Prop}{m n1:Nat}(hI:v09 m (fr n l') ⟨h',n1⟩)(ht:qC l l':=by((repeat refine⟨rfl,?_⟩);exact trivial))(hs:Vx.cut n1 h=h':=by exact rfl)(h1:n0<=n1:=by first |exact Nat.zero_le _ |exact zY rfl)(h2:n1<=nx:=by exact zY rfl)[hb:BS n1 l'][hh:BH n1 h']:∃n' tm' Y',n'<m+1/\v09 n' tm' Y'/\n0<=Y'.nx/\Gh n0 (fr n l) ⟨h,nx⟩ tm' Y':=⟨m,_,_,zN _,hI,h1,M8 ht hs h1 h2⟩
theorem xC{E:X U->Sg->Prop}{n1:Nat}(hE:E (fr n l') ⟨h',n1⟩)(ht:qC l l':=by((repeat refine⟨rfl,?_⟩);exact trivial))(hs:Vx.cut n1 h=h':=by exact rfl)(h1:n0<=n1:=by first |exact Nat.zero_le _ |exact zY rfl)(h2:n1<=nx:=by exact zY rfl)[hb:BS n1 l'][hh:BH n1 h']:∃tm' Y',E tm' Y'/\n0<=Y'.nx/\Gh n0 (fr n l) ⟨h,nx⟩ tm' Y':=⟨_,_,hE,h1,M8 ht hs h1 h2⟩
section
variable{T:Tb}{n:Nat}{l:X (Nat×U)}{Y:Sg}{rs:X ResultVar}
theorem rT{us:X U}(hr:kZ T Y (fr n l) rs=some us)(hg:Gh 0 [m5 us] Y [u] ⟨[],0⟩)[q:BU 0 u]:(Exit.ret=.normal\/Exit.ret=.ret)/\∃l',kZ T Y (fr n l) rs=some l'/\∃u' aU,(⟨[],0⟩:Sg).nx<=aU.nx/\Gh (⟨[],0⟩:Sg).nx [m5 l'] Y [u'] aU/\u'=u/\aT 0 u':=⟨.inr rfl,us,hr,u,⟨[],0⟩,zF _,hg,rfl,q.h⟩
theorem rt1{a:Tmp}{t:X ResultVar}{v:U}(ht:rs=.tmp a::t)(h:bM n l (.tmp a)=some v)(h0:t=[])(hu:v=u)[q:BU 0 u]:(Exit.ret=.normal\/Exit.ret=.ret)/\∃l',kZ T Y (fr n l) rs=some l'/\∃u' aU,(⟨[],0⟩:Sg).nx<=aU.nx/\Gh (⟨[],0⟩:Sg).nx [m5 l'] Y [u'] aU/\u'=u/\aT 0 u':=by subst ht;subst h0;subst hu;exact rT (dT h eD) (uT _ rfl)
theorem y5{a b:Tmp}{t:X ResultVar}{v w:U}(ht:rs=.tmp a :: .tmp b::t)(h:bM n l (.tmp a)=some v)(h':bM n l (.tmp b)=some w)(h0:t=[])(hu : .tup [v,w]=u)[q:BU 0 u]:(Exit.ret=.normal\/Exit.ret=.ret)/\∃l',kZ T Y (fr n l) rs=some l'/\∃u' aU,(⟨[],0⟩:Sg).nx<=aU.nx/\Gh (⟨[],0⟩:Sg).nx [m5 l'] Y [u'] aU/\u'=u/\aT 0 u':=by subst ht;subst h0;subst hu;exact rT (dT h (dT h' eD)) (uT _ rfl)
end
theorem fR{u0:U}(K sz:Nat)[g:eE h K b][m:qd b][t:tZ K b sz u0 u][q:VV K b sz h h'][p:BU 0 u]:Gh 0 [u0] ⟨h,nx⟩ [u] ⟨[],0⟩:=Gh.trans (sC K sz) (uT u rfl)
theorem wR{u0:U}[w:M6 u0 u][p:BU 0 u]:Gh 0 [u0] Y [u] ⟨[],0⟩:=Gh.trans (Gh.wk (.cons w.h .nil)) (uT u rfl)
section
variable{C:PG}{n0 n:Nat}{Q:Exit->X U->Sg->Prop}{l:X (Nat×U)}{Y:Sg}
theorem cF{β:Type}{c:Xt}{p q:Code}{t:PE}{a b r:V β}(O:cond t a b=r)(h1:t=true->a=r->WPU C n0 p (fr n l) Y Q)(h2:t=false->b=r->WPU C n0 q (fr n l) Y Q)(hc:bM n l c=some (.bool t):=by exact rfl):WPU C n0 (.cond c p q) (fr n l) Y Q:=eG hc (fun h=>h1 h (Ee h O)) (fun h=>h2 h (Eg h O))
end
class JR(op:BinOp)(k:IntKind)(a:Int)(k':IntKind)(b:Int)(r:outParam Value):Prop where
 h:kB op k a k' b=some r
section
variable{k:IntKind}{a b:Int}
instance:JR .add k a k b (.int k (k.wrap (a+b))):=⟨Ar k a b⟩
instance:JR .sub k a k b (.int k (k.wrap (a-b))):=⟨Ag k a b⟩
instance:JR .mul k a k b (.int k (k.wrap (a*b))):=⟨Ak k a b⟩
instance:JR .eql k a k b (.bool (a==b)):=⟨Aq k a b⟩
instance:JR .neq k a k b (.bool (a != b)):=⟨Aj k a b⟩
instance:JR .lss k a k b (.bool (decide (a<b))):=⟨Am k a b⟩
instance:JR .leq k a k b (.bool (decide (a<=b))):=⟨An k a b⟩
instance:JR .gtr k a k b (.bool (decide (a>b))):=⟨Ao k a b⟩
instance:JR .geq k a k b (.bool (decide (a>=b))):=⟨Ap k a b⟩
end
class eF(T:Tb)(t:TypeId)(d:outParam TypeDesc):Prop where
 h:T.und t=some d
class SzC(T:Tb)(t:TypeId)(n:outParam Nat):Prop where
 h:cD T t=some n
section
variable{P:DC}{T:Tb}{aA r:X Oper}{o:Oper}{n:Nat}{l:X (Nat×U)}{Y Y':Sg}{u:U}
variable{d:Tmp}
theorem wT{j:Nat}{b:PE}(hg:o.guard=some (j,true))(hj:AM aA j=some d)(hl:bM n l (.tmp d)=some (.bool b))(hb:b=true):c8 aA (fr n l) o=some true:=td hg hj hl hb
theorem wF{j:Nat}{b:PE}(hg:o.guard=some (j,false))(hj:AM aA j=some d)(hl:bM n l (.tmp d)=some (.bool b))(hb:b=false):c8 aA (fr n l) o=some true:=td hg hj hl hb
theorem wA{A:Prop}(h:A:=by first |exact rfl |exact Go.Vx.wT rfl rfl rfl (by first |with_reducible_and_instances assumption |exact rfl)|exact Go.Vx.wF rfl rfl rfl (by first |with_reducible_and_instances assumption |exact rfl)):A:=h
variable{C:PG}
variable{K:X U->Sg->Prop}
theorem RS.w(he:o.dst=some d)(h:bI T Y (fr n l) o.op=some (u,Y'))(hk:RU C T aA r (fr n ((d,u)::l)) Y' K)(hw:c8 aA (fr n l) o=some true:=by exact wA)(hd:Nat.blt d n=true:=by exact rfl):RU C T aA (o::r) (fr n l) Y K:=RS.op hw h he hd hk
theorem RS.wn(he:o.dst=none)(h:bI T Y (fr n l) o.op=some (u,Y'))(hk:RU C T aA r (fr n l) Y' K)(hw:c8 aA (fr n l) o=some true:=by exact wA):RU C T aA (o::r) (fr n l) Y K:=RS.opn hw h he hk
theorem RD.w{aZ:X RK}{K:X RK->X U->Sg->Prop}(he:o.dst=some d)(h:bI T Y (fr n l) o.op=some (u,Y))(hk:RH P T aA r (fr n ((d,u)::l)) Y ((1,⟨fr n l,o,u,false,false,Y,Y⟩)::aZ) K)(hw:c8 aA (fr n l) o=some true:=by exact wA)(hd:Nat.blt d n=true:=by exact rfl):RH P T aA (o::r) (fr n l) Y aZ K:=RD.look hw h he hd hk
def Nx(n:Nat)(l:X (Nat×U))(o:Oper):V (Tmp×FuncId×X U):=match o.dst,o.op with
 |some d,.call c=>match c.callee with
  |.value f=>match bM n l f with
   |some (.fn (.func g) [] [])=>match K3 n l c.args.toList with
    |some a7=>some (d,g,a7)|none=>none
   |_=>none
  |_=>none
 |_,_=>none
theorem iA{g:FuncId}{a7:X U}(h:Nx n l o=some (d,g,a7))(hg:T.fn g=some fn)(hb:fn.body.isSome=true):o.dst=some d/\jO T (fr n l) o.op=some (g,a7):=by
 unfold Nx at h;split at h
 ·next d' c h1 h2=>
  split at h
  ·next f h3=>
   split at h
   ·next g' h4=>
    split at h
    ·next as' h5=>simp only[zA,zB]at h;obtain⟨rfl,rfl,rfl⟩:=h;exact⟨h1,by rw[h2];exact yN h3 h4 hg hb h5 qq4⟩
    cases h
   cases h
  cases h
 cases h
theorem aK(h:Nx n l o=some (d,f,args))(jJ:aW C.prog f args Y (fun u' Y'=>u'=u/\Y'=Y))(hg:T.fn f=some fn)(hk:RU C T aA r (fr n ((d,u)::l)) Y K)(hb:fn.body.isSome=true:=by exact rfl)(hw:c8 aA (fr n l) o=some true:=by exact wA)(hd:Nat.blt d n=true:=by exact rfl):RU C T aA (o::r) (fr n l) Y K:=RS.call hw (iA h hg hb).2 jJ (iA h hg hb).1 hd hk
theorem RS.fc{args':X U}{Y1:Sg}(h:Nx n l o=some (d,f,args))(hG:Gh Y.nx args Y args' Y1)(jJ:aW C.prog f args' Y1 (fun u' Y'=>u'=u/\Y'=Y1))(hg:T.fn f=some fn)(hk:RU C T aA r (fr n ((d,u)::l)) Y1 K)(hn:Y.nx<=Y1.nx:=by exact zY rfl)(hb:fn.body.isSome=true:=by exact rfl)(hw:c8 aA (fr n l) o=some true:=by exact wA)(hd:Nat.blt d n=true:=by exact rfl):RU C T aA (o::r) (fr n l) Y K:=RS.fcall hw (iA h hg hb).2 hG hn jJ (iA h hg hb).1 hd hk
theorem dK{aZ:X RK}{K:X RK->X U->Sg->Prop}(h:Nx n l o=some (d,f,args))(jJ:∀s,aW P f args s (fun u' Y'=>u'=u/\Y'=s))(hg:T.fn f=some fn)(hk:RH P T aA r (fr n ((d,u)::l)) Y ((0,⟨fr n l,o,u,false,false,Y,Y⟩)::aZ) K)(hb:fn.body.isSome=true:=by exact rfl)(hw:c8 aA (fr n l) o=some true:=by exact wA)(hd:Nat.blt d n=true:=by exact rfl):RH P T aA (o::r) (fr n l) Y aZ K:=RD.free hw (iA h hg hb).2 jJ (iA h hg hb).1 hd hk
end
theorem vw{args':X U}{v:Value}{Y1:Sg}(h:aW P f args ⟨[],0⟩ (fun u' _=>u'=u/\aT 0 u'))(hg:Gh 0 args' Y args Y1)[ha:m9 0 args](hu:toV u=some v:=by simp only[toV,lL,okL,okC,zC]<;>rfl)(B9:∀m,ren m v=v:=by exact fun m=>by simp[ren,aJ]):aW P f args' Y (fun u' Y'=>u'=u/\Y'=Y):=aW.view h ha.h hu B9 hg
structure Hd(B:Prop):Prop where
 h:B
section
variable{C:PG}{n0:Nat}{tm:X U}{Y:Sg}{Q:Exit->X U->Sg->Prop}
theorem rg0[t:cy C T]{i:Nat}{aA:Zu Oper}{L:X Oper}(h:RU C T L L tm Y (fun tm' Y'=>Q .normal tm' Y'))(hl:aA.toList=L):WPU C n0 (.region i aA false) tm Y Q:=WPU.region t.ok (by rw[hl];exact h)
theorem rg1[t:cy C T]{i:Nat}{aA:Zu Oper}{o:Oper}{r:X Oper}(hl:aA.toList=o::r)(h:RU C T (o::r) (o::r) tm Y (fun tm' Y'=>Q .normal tm' Y')):WPU C n0 (.region i aA false) tm Y Q:=rg0 h hl
end
section
variable{C:PG}{T:Tb}{aA r:X Oper}{o:Oper}{n:Nat}{l:X (Nat×U)}{Y Y':Sg}{u:U}{K:X U->Sg->Prop}{d:Tmp}
theorem RS.nt{j:Nat}{b:PE}{d':Tmp}(hg:o.guard=some (j,true))(hj:AM aA j=some d')(hl:bM n l (.tmp d')=some (.bool b))(hb:b=false)(he:o.dst=some d)(hd:Nat.blt d n=true)(hk:RU C T aA r (fr n ((d,.tup [])::l)) Y K):RU C T aA (o::r) (fr n l) Y K:=RS.no (qu hg hj hl hb) he hd hk
theorem RS.nf{j:Nat}{b:PE}{d':Tmp}(hg:o.guard=some (j,false))(hj:AM aA j=some d')(hl:bM n l (.tmp d')=some (.bool b))(hb:b=true)(he:o.dst=some d)(hd:Nat.blt d n=true)(hk:RU C T aA r (fr n ((d,.tup [])::l)) Y K):RU C T aA (o::r) (fr n l) Y K:=RS.no (qu hg hj hl hb) he hd hk
variable{x:Xt}
theorem RS.mo(ho:o.op=.move x)(hx:bM n l x=some u)(he:o.dst=some d)(hw:c8 aA (fr n l) o=some true)(hd:Nat.blt d n=true)(hk:RU C T aA r (fr n ((d,u)::l)) Y K):RU C T aA (o::r) (fr n l) Y K:=RS.w he (by rw[ho];exact oD hx) hk hw hd
theorem RS.in{op:BinOp}{t t':TypeId}{y:Xt}{k k':IntKind}{a b:Int}{v:Value}(ho:o.op=.binOp op t x y t')(hx:bM n l x=some (.int k a))(hy:bM n l y=some (.int k' b))[h:JR op k a k' b v](hr:jP v=some u)(he:o.dst=some d)(hw:c8 aA (fr n l) o=some true)(hd:Nat.blt d n=true)(hk:RU C T aA r (fr n ((d,u)::l)) Y K):RU C T aA (o::r) (fr n l) Y K:=RS.w he (by rw[ho];exact yI hx hy h.h hr) hk hw hd
theorem RS.p1{c a b:Xt}{t:PE}(ho:o.op=.pick c a b)(hc:bM n l c=some (.bool t))(ht:t=true)(h:bM n l a=some u)(he:o.dst=some d)(hw:c8 aA (fr n l) o=some true)(hd:Nat.blt d n=true)(hk:RU C T aA r (fr n ((d,u)::l)) Y K):RU C T aA (o::r) (fr n l) Y K:=RS.w he (by rw[ho];exact qvw hc ht h) hk hw hd
theorem RS.p0{c a b:Xt}{t:PE}(ho:o.op=.pick c a b)(hc:bM n l c=some (.bool t))(ht:t=false)(h:bM n l b=some u)(he:o.dst=some d)(hw:c8 aA (fr n l) o=some true)(hd:Nat.blt d n=true)(hk:RU C T aA r (fr n ((d,u)::l)) Y K):RU C T aA (o::r) (fr n l) Y K:=RS.w he (by rw[ho];exact qvv hc ht h) hk hw hd
theorem RS.ex{i:Nat}{q:X U}(ho:o.op=.extract x i)(hx:bM n l x=some (.tup q))(h:nth q i=some u)(he:o.dst=some d)(hw:c8 aA (fr n l) o=some true)(hd:Nat.blt d n=true)(hk:RU C T aA r (fr n ((d,u)::l)) Y K):RU C T aA (o::r) (fr n l) Y K:=RS.w he (by rw[ho];exact z7z hx h) hk hw hd
theorem RS.un{op:UnOp}{t:TypeId}{v:U}{v1 v2:Value}(ho:o.op=.unOp op t x)(hx:bM n l x=some v)(h:toV v=some v1)(hu:QL op v1=some v2)(hq:jP v2=some u)(he:o.dst=some d)(hw:c8 aA (fr n l) o=some true)(hd:Nat.blt d n=true)(hk:RU C T aA r (fr n ((d,u)::l)) Y K):RU C T aA (o::r) (fr n l) Y K:=RS.w he (by rw[ho];exact SX hx h hu hq) hk hw hd
theorem RS.a(ho:o.op=.assign x)(hx:bM n l x=some u)(he:o.dst=some d)(hw:c8 aA (fr n l) o=some true)(hd:Nat.blt d n=true)(hk:RU C T aA r (fr n ((d,u)::l)) Y K):RU C T aA (o::r) (fr n l) Y K:=RS.as hw ho hx he hk hd
end
class iF(T:Tb)(t:TypeId)(a b:outParam Nat)(z:outParam Value):Prop where
 h:T.inf t=some (a,b,z)
instance{T:Tb}{t:TypeId}{a b:Nat}{z:Value}[q:iF T t a b z]:SzC T t a:=⟨bB q.h⟩
class pV(T:Tb)(t:TypeId)(zu:outParam (X U)):Prop where
 h:∃a b z,T.inf t=some (a,b,z)/\pM z.cells.toList=some zu/\okL zu=true
class D5(u:U)(cs:outParam (X U)):Prop where
 h:vC u=some cs
instance{l:X U}:D5 (.agg l) l:=⟨rfl⟩
instance{k:IntKind}{z:Int}:D5 (.int k z) [.int k z]:=⟨rfl⟩
instance{b:PE}:D5 (.bool b) [.bool b]:=⟨rfl⟩
instance{s:X Yv}:D5 (.str s) [.str s]:=⟨rfl⟩
instance{t:PE}{l:X (X U)}:D5 (.isl t l) [.isl t l]:=⟨rfl⟩
instance{k st off:Nat}:D5 (.ptr k st off) [.ptr k st off]:=⟨rfl⟩
instance{k st off n:Nat}:D5 (.vl k st off n) [.vl k st off n]:=⟨rfl⟩
instance{k off n c:Nat}:D5 (.sl k off n c) [.sl k off n c]:=⟨rfl⟩
instance{k:Nat}:D5 (.map k) [.map k]:=⟨rfl⟩
instance{f:Fn}{a c:X U}:D5 (.fn f a c) [.fn f a c]:=⟨rfl⟩
class GR(q:X U)(off n:Nat)(cs:outParam (X U)):Prop where
 h:kY q off n=some cs
instance{q:X U}:GR q 0 0 []:=⟨by simp[kY]⟩
instance{a:U}{q cs:X U}{n:Nat}[s:GR q 0 n cs]:GR (a::q) 0 (n+1) (a::cs):=⟨by
 have:=s.h;unfold kY at*;split at this
 ·next h=>cases this;rw[if_pos (by simp at*;omega)];simp
 cases this⟩
instance{a:U}{q cs:X U}{o n:Nat}[s:GR q o n cs]:GR (a::q) (o+1) n cs:=⟨by
 have:=s.h;unfold kY at*;split at this
 ·next h=>cases this;rw[if_pos (by simp at*;omega)];simp
 cases this⟩
instance(priority:=low){v12:Type}{c:v12->X U}{x:v12}{sz:Nat}[q:fX c sz]:GR (c x) 0 sz (c x):=⟨by
 unfold kY;rw[if_pos (by rw[q.h];omega),List.drop_zero,zW (by rw[q.h];exact zF _)]⟩
class Ll(q:X U)(n:Nat):Prop where
 h:q.length=n
instance:Ll [] 0:=⟨rfl⟩
instance{a:U}{q:X U}{n:Nat}[s:Ll q n]:Ll (a::q) (n+1):=⟨by simp[s.h]⟩
class JP(q:X U)(off:Nat)(cs:X U)(q':outParam (X U)):Prop where
 h:qT q off cs=some q'
instance{q:X U}:JP q 0 [] q:=⟨by simp[qT]⟩
instance{a b:U}{q cs q':X U}[s:JP q 0 cs q']:JP (a::q) 0 (b::cs) (b::q'):=⟨by
 have:=s.h;unfold qT at*;split at this
 ·next h=>cases this;rw[if_pos (by simp at*;omega)];simp
 cases this⟩
instance{a:U}{q cs q':X U}{o:Nat}[s:JP q o cs q']:JP (a::q) (o+1) cs (a::q'):=⟨by
 have:=s.h;unfold qT at*;split at this
 ·next h=>cases this;rw[if_pos (by simp at*;omega)];simp[show o+1+cs.length=(o+cs.length)+1 by omega]
 cases this⟩
instance(priority:=low){v12:Type}{c:v12->X U}{x:v12}{sz:Nat}{q:X U}[s:fX c sz][t:Ll q sz]:JP q 0 (c x) (c x):=⟨by
 unfold qT;have h1:=s.h x;have h2:=t.h;rw[if_pos qq0,List.drop_eq_nil_of_le qq0];simp⟩
class eu(a b:X U)(c:outParam (X U)):Prop where
 h:a++b=c
instance{b:X U}:eu [] b b:=⟨rfl⟩
instance{x:U}{a b c:X U}[s:eu a b c]:eu (x::a) b (x::c):=⟨by rw[List.cons_append,s.h]⟩
class cz(pl:X (Nat×Nat))(i:Nat)(o s:outParam Nat):Prop where
 h:nth pl i=some (o,s)
instance{o s:Nat}{pl:X (Nat×Nat)}:cz ((o,s)::pl) 0 o s:=⟨rfl⟩
instance{a:Nat×Nat}{i o s:Nat}{pl:X (Nat×Nat)}[q:cz pl i o s]:cz (a::pl) (i+1) o s:=⟨q.h⟩
variable{zu:X U}
variable{q':X U}
variable{cs:X U}
variable{s:Nat}
variable{qs:X (Nat×U)}
theorem z7f{place:Nat->V (Nat×Nat)}{c0:X U}{i o:Nat}{v:U}(hp:place i=some (o,s))(hc:vC v=some c0)(hl:c0.length=s)(hq:qT zu o c0=some q')(hr:qY place q' qs=some cs):qY place zu ((i,v)::qs)=some cs:=by
 have:Nat.beq c0.length s=true:=by simp[beq_eq,hl]
 simp only[qY,hp,hc,this,zC,hq,hr]
class er(pl:X (Nat×Nat))(zu:X U)(qs:X (Nat×U))(cs:outParam (X U)):Prop where
 h:qY (nth pl) zu qs=some cs
instance{pl:X (Nat×Nat)}{zu:X U}:er pl zu [] zu:=⟨rfl⟩
instance{pl:X (Nat×Nat)}{zu q' cs c0:X U}{i o s:Nat}{v:U}{qs:X (Nat×U)}[p:cz pl i o s][c:D5 v c0][l:Ll c0 s][q:JP zu o c0 q'][r:er pl q' qs cs]:er pl zu ((i,v)::qs) cs:=⟨z7f p.h c.h l.h q.h r.h⟩
class ee(a b:Nat)(c:outParam Nat):Prop where
 h:a*b=c
instance{b:Nat}:ee 0 b 0:=⟨Nat.zero_mul b⟩
instance{b:Nat}:ee 1 b b:=⟨Nat.one_mul b⟩
instance{a:Nat}:ee (a+2) 1 (a+2):=⟨Nat.mul_one _⟩
class eo(s:Nat)(zu:X U)(qs:X (Nat×U))(cs:outParam (X U)):Prop where
 h:qY (fun i=>some (i*s,s)) zu qs=some cs
instance{s:Nat}{zu:X U}:eo s zu [] zu:=⟨rfl⟩
instance{zu q' cs c0:X U}{i o s:Nat}{v:U}{qs:X (Nat×U)}[m:ee i s o][c:D5 v c0][l:Ll c0 s][q:JP zu o c0 q'][r:eo s q' qs cs]:eo s zu ((i,v)::qs) cs:=⟨z7f (by rw[m.h]) c.h l.h q.h r.h⟩
class cn(z:X U)(k:Nat)(zs:outParam (X U)):Prop where
 h:wD z k=zs
instance{z:X U}:cn z 0 []:=⟨rfl⟩
instance{z a b:X U}{k:Nat}[q:cn z k a][p:eu z a b]:cn z (k+1) b:=⟨by
 have:=q.h;have:=p.h;simp only[wD,List.replicate_succ,List.flatten_cons]at*;simp_all⟩
class DeC{v12:Type}(c:v12->X U)(cs:X U)(x:outParam v12):Prop where
 h:c x=cs
instance{k:IntKind}{z:Int}:DeC (cI k) [.int k z] z:=⟨rfl⟩
instance{s:X Yv}:DeC cS [.str s] s:=⟨rfl⟩
instance{v12:Type}{c:v12->X U}{l:X v12}:DeC (cL c) [.isl false (l.map c)] l:=⟨rfl⟩
instance(priority:=low){v12:Type}{c:v12->X U}{x:v12}:DeC c (c x) x:=⟨rfl⟩
instance(priority:=low){v12:Type}{c:v12->X U}{x:v12}:VQ (c x) (c x):=⟨oU.refl _⟩
class uS(T:Tb)(t:TypeId)(zu:outParam (X U))(pl:outParam (X (Nat×Nat))):Prop where
 h:BdT T t zu pl
class SuC(a:Nat)(b:outParam Nat):Prop where
 h:a+1=b
instance:SuC 0 1:=⟨rfl⟩
instance:SuC 1 2:=⟨rfl⟩
instance:SuC 2 3:=⟨rfl⟩
instance:SuC 3 4:=⟨rfl⟩
instance:SuC 4 5:=⟨rfl⟩
instance:SuC 5 6:=⟨rfl⟩
instance:SuC 6 7:=⟨rfl⟩
instance:SuC 7 8:=⟨rfl⟩
instance:SuC 9 10:=⟨rfl⟩
class AdC(a b:Nat)(c:outParam Nat):Prop where
 h:a+b=c
instance(priority:=low){a b:Nat}:AdC a b (a+b):=⟨rfl⟩
instance{b:Nat}:AdC 0 b b:=⟨Nat.zero_add b⟩
class ec(a:Nat)(b:outParam Nat):Prop where
 h:a+1=b
instance{a b:Nat}[q:SuC a b]:ec a b:=⟨q.h⟩
instance(priority:=low){a:Nat}:ec a (a+1):=⟨rfl⟩
section
variable{T:Tb}{n:Nat}{l:X (Nat×U)}{h h':X (Nat×B)}{nx nx':Nat}{u v w:U}{op:Op}
variable{e:TypeId}
theorem oAl(ho:op=.alloc e)[z:pV T e zu][hn:SuC nx nx']:bI T ⟨h,nx⟩ (fr n l) op=some (.ptr nx 0 0,⟨(nx,.row zu e)::h,nx'⟩):=by subst ho;have CN:=hn.h;subst CN;obtain⟨a,b,q,h1,h2,h3⟩:=z.h;exact qvt h1 h2 h3
variable{x:Xt}
theorem oBx(ho:op=.box e x)(hx:bM n l x=some v)[c:D5 v cs](hk:okL cs=true)[hn:SuC nx nx']:bI T ⟨h,nx⟩ (fr n l) op=some (.ptr nx 0 0,⟨(nx,.row cs e)::h,nx'⟩):=by subst ho;have CN:=hn.h;subst CN;exact ZU hx c.h hk
variable{t:TypeId}
variable{a:Xt}
variable{k:Nat}
variable{off:Nat}
variable{sz:Nat}
variable{q:X U}
theorem oSt(ho:op=.store t a x)(ha:bM n l a=some (.ptr k 0 off))(hx:bM n l x=some v)[g:eE h k (.row q e)][s:SzC T t sz][c:D5 v cs][p:JP q off cs q'][w:VR h k (.row q' e) h'](hl:Nat.beq cs.length sz=true)(hk:okL cs=true):bI T ⟨h,nx⟩ (fr n l) op=some (.junk,⟨h',nx⟩):=by subst ho;refine qvx s.h ha hx c.h hl hk (q:=q) (q':=q') ?_ ?_ ?_;simp only[cellsOf,g.h];rfl;simp only[EU,g.h];exact p.h;simp only[MY,g.h,w.h]
variable{d:TypeDesc}
theorem oLa(ho:op=.load t x)(hx:bM n l x=some (.ptr k 0 off))[hd:eF T t d](ha:qE d=true)[g:eE h k (.row q e)][s:SzC T t sz][p:GR q off sz cs]:bI T ⟨h,nx⟩ (fr n l) op=some (.agg cs,⟨h,nx⟩):=by subst ho;exact kL hd.h ha s.h hx (by simp only[cellsOf,g.h];rfl) p.h
theorem oLo(ho:op=.load t x)(hx:bM n l x=some (.ptr k 0 off))[hd:eF T t d](ha:qE d=false)[g:eE h k (.row q e)](hu:nth q off=some u):bI T ⟨h,nx⟩ (fr n l) op=some (u,⟨h,nx⟩):=by subst ho;exact yL hd.h ha hx (by simp only[cellsOf,g.h];rfl) hu
theorem oIa(ho:op=.load t x)(hx:bM n l x=some (.iptr q))[hd:eF T t d](ha:qE d=true)[s:SzC T t sz][p:GR q 0 sz cs]:bI T ⟨h,nx⟩ (fr n l) op=some (.agg cs,⟨h,nx⟩):=by subst ho;exact z7t hd.h ha s.h hx p.h
theorem oIo(ho:op=.load t x)(hx:bM n l x=some (.iptr q))[hd:eF T t d](ha:qE d=false)(hu:nth q 0=some u):bI T ⟨h,nx⟩ (fr n l) op=some (u,⟨h,nx⟩):=by subst ho;exact Of hd.h ha hx hu
theorem oFa{f:Nat}{fs:Zu Field}{fd:Field}{iB:Nat}(ho:op=.fieldAddr t x f)(hx:bM n l x=some (.ptr k 0 off))[hd:eF T t (.struct fs)][g:eE h k (.row q e)](hf:nth fs.toList f=some fd)(hs:cD T fd.type=some (s+1))(h2:off+fd.offset=iB):bI T ⟨h,nx⟩ (fr n l) op=some (.ptr k 0 iB,⟨h,nx⟩):=by subst ho;exact pO hd.h hf hs hx (by simp only[live,g.h];rfl) h2
theorem oFi{f:Nat}{fs:Zu Field}{fd:Field}(ho:op=.fieldAddr t x f)(hx:bM n l x=some (.iptr q))[hd:eF T t (.struct fs)](hf:nth fs.toList f=some fd)(hs:cD T fd.type=some (s+1))(hq:q.drop fd.offset=q'):bI T ⟨h,nx⟩ (fr n l) op=some (.iptr q',⟨h,nx⟩):=by subst ho;exact tj hd.h hf hs hx hq
variable{v12:Type}
variable{c:v12->X U}
variable{b:PE}
variable{xs:X v12}
theorem oIx{i:Xt}{k:IntKind}{z:Int}{y:v12}(ho:op=.indexAddr t x i)(hx:bM n l x=some (.isl b (xs.map c)))(hi:bM n l i=some (.int k z))[hd:eF T t (.slice e)][hs:SzC T e sz][hc:fX c sz](hy:aB xs z=some y):bI T ⟨h,nx⟩ (fr n l) op=some (.iptr (c y),⟨h,nx⟩):=by subst ho;exact dZ hx hi (Gq c hd.h hs.h hc.h hy rfl)
variable{args:Zu Xt}
variable{ts:Zu TypeId}
theorem oLe{q:X TypeId}(ho:op=.call { callee:=.builtin .len,args:=args,argTypes:=ts })(ha:args.toList=[x])(ht:ts.toList=t::q)(hx:bM n l x=some (.isl b (xs.map c)))[hd:eF T t (.slice e)]:bI T ⟨h,nx⟩ (fr n l) op=some (.int .i64 xs.length,⟨h,nx⟩):=by subst ho;exact H5 ha ht hx (om c hd.h)
theorem oLv{e':TypeId}{q:X TypeId}{K st m:Nat}(ho:op=.call { callee:=.builtin .len,args:=args,argTypes:=ts })(ha:args.toList=[x])(ht:ts.toList=t::q)(hx:bM n l x=some (.vl K st 0 m))[hd:eF T t (.slice e)][g:eE h K (.vec cs e' sz st)]:bI T ⟨h,nx⟩ (fr n l) op=some (.int .i64 m,⟨h,nx⟩):=by subst ho;exact H5 ha ht hx (ak hd.h g.h)
theorem oBd{pl:X (Nat×Nat)}{ps:Zu (Nat×Xt)}(ho:op=.build t ps)[q:uS T t zu pl](he:BZ n l ps.toList=some qs)(c:er pl zu qs cs)(hk:okL cs=true):bI T ⟨h,nx⟩ (fr n l) op=some (.agg cs,⟨h,nx⟩):=by subst ho;exact ab q.h he c.h hk
variable{z:Value}
theorem oBs{b:Nat}{zs:X U}{ps:Zu (Nat×Xt)}(ho:op=.buildSlice t k ps)(he:BZ n l ps.toList=some qs)[hd:eF T t (.slice e)][hi:iF T e sz b z][hz:pV T e zu](zc:cn zu k zs)(c:eo sz zs qs cs)(hk:okL cs=true)(h1:Nat.ble (k*sz) 16777216=true)(h2:Nat.ble k 16777216=true)(h3:Nat.beq z.cells.toList.length sz=true)(hn:SuC nx nx'):bI T ⟨h,nx⟩ (fr n l) op=some (.sl nx 0 k k,⟨(nx,.row cs e)::h,nx'⟩):=by subst ho;have CN:=hn.h;subst CN;obtain⟨a,b',q,g1,g2,g3⟩:=hz.h;have e1:=hi.h;rw[g1]at e1;cases e1;exact yJ hd.h hi.h he h1 h2 h3 g2 (by rw[zc.h];exact c.h) hk
variable{Y:Sg}
theorem oMv(ho:op=.move x)(hx:bM n l x=some u):bI T Y (fr n l) op=some (u,Y):=by subst ho;exact oD hx
theorem oAs(ho:op=.assign x)(hx:bM n l x=some u):bI T Y (fr n l) op=some (u,Y):=by subst ho;exact S_ hx
variable{y:Xt}
theorem oIn{b:BinOp}{t':TypeId}{k k':IntKind}{i j:Int}{r:Value}(ho:op=.binOp b t x y t')(hx:bM n l x=some (.int k i))(hy:bM n l y=some (.int k' j))[q:JR b k i k' j r](hr:jP r=some u):bI T Y (fr n l) op=some (u,Y):=by subst ho;exact yI hx hy q.h hr
theorem oP1{c b:Xt}{t:PE}(ho:op=.pick c a b)(hc:bM n l c=some (.bool t))(ht:t=true)(hu:bM n l a=some u):bI T Y (fr n l) op=some (u,Y):=by subst ho;exact qvw hc ht hu
theorem oP0{c b:Xt}{t:PE}(ho:op=.pick c a b)(hc:bM n l c=some (.bool t))(ht:t=false)(hu:bM n l b=some u):bI T Y (fr n l) op=some (u,Y):=by subst ho;exact qvv hc ht hu
theorem oEx{i:Nat}(ho:op=.extract x i)(hx:bM n l x=some (.tup q))(hu:nth q i=some u):bI T Y (fr n l) op=some (u,Y):=by subst ho;exact z7z hx hu
theorem oUn{b:UnOp}{v1 v2:Value}(ho:op=.unOp b t x)(hx:bM n l x=some v)(h1:toV v=some v1)(h2:QL b v1=some v2)(hq:jP v2=some u):bI T Y (fr n l) op=some (u,Y):=by subst ho;exact SX hx h1 h2 hq
theorem oAp{xt e1 e2:TypeId}{a st bJ K s0 s1 by_:Nat}{yv:v12}{cs':X U}(ho:op=.call { callee:=.builtin .append,args:=args,argTypes:=ts })(ha:args.toList=[x,y])(ht:ts.toList=[t,xt])(hx:bM n l x=some (.vl a st 0 xs.length))(hy:bM n l y=some (.sl K 0 1 1))[d1:eF T t (.slice e)][d2:eF T xt (.slice e2)][g:eE h a (.vec (xs.map c).flatten e s0 st)][i:iF T e s1 by_ z][g2:eE h K (.row q e1)][s:GR q 0 s1 cs][w:VQ cs cs'][d:DeC c cs' yv][lc:fX c s1][Z?:ec st bJ][ug:VR h a (.vec (List.map c (xs++[yv])).flatten e s1 bJ) h'](Kk:s0=s1)(hp:Nat.ble 1 s1=true)(hc:vY cs=(List.map c [yv]).flatten)(hz:Nat.beq z.cells.toList.length s1=true)(hr:(xs.length+1)*by_<=140737488355328/\xs.length+1<=140737488355328):bI T ⟨h,nx⟩ (fr n l) op=some (.vl a bJ 0 (xs++[yv]).length,⟨h',nx⟩):=by subst ho;subst Kk;obtain⟨sz,rfl⟩:∃sz,s0=sz+1:=⟨s0-1,by have:=zY hp;omega⟩;have e1:=Z?.h;subst e1;have:=pQ (Y:=⟨h,nx⟩) ha ht hx hy (DN c [yv] d1.h d2.h i.h hz lc.h g.h (FE c [yv] (q:=q) (by simp only[rowOf,g2.h]) (by rw[Nat.one_mul];exact s.h) rfl hc) hr);rw[ug.h]at this;exact this
theorem oAq{xt e2:TypeId}{a st bJ s0 s1 by_:Nat}{ys:X v12}(ho:op=.call { callee:=.builtin .append,args:=args,argTypes:=ts })(ha:args.toList=[x,y])(ht:ts.toList=[t,xt])(hx:bM n l x=some (.vl a st 0 xs.length))(hy:bM n l y=some (.isl b (ys.map c)))[d1:eF T t (.slice e)][d2:eF T xt (.slice e2)][g:eE h a (.vec (xs.map c).flatten e s0 st)][i:iF T e s1 by_ z][lc:fX c s1][Z?:ec st bJ][ug:VR h a (.vec (List.map c (xs++ys)).flatten e s1 bJ) h'](Kk:s0=s1)(hp:Nat.ble 1 s1=true)(hz:Nat.beq z.cells.toList.length s1=true)(hr:(xs.length+ys.length)*by_<=140737488355328/\xs.length+ys.length<=140737488355328):bI T ⟨h,nx⟩ (fr n l) op=some (.vl a bJ 0 (xs++ys).length,⟨h',nx⟩):=by subst ho;subst Kk;obtain⟨sz,rfl⟩:∃sz,s0=sz+1:=⟨s0-1,by have:=zY hp;omega⟩;have e1:=Z?.h;subst e1;have:=pQ (Y:=⟨h,nx⟩) ha ht hx hy (DN c ys d1.h d2.h i.h hz lc.h g.h (NB c lc.h) hr);rw[ug.h]at this;exact this
end
variable{A:Prop}
theorem opx (h:A:=by first
 |exact Go.Vx.oIo rfl rfl rfl rfl
 |exact Go.Vx.oLo rfl rfl rfl rfl
 |exact Go.Vx.oFi rfl rfl (by exact rfl) (by exact Go.Vx.SzC.h) (by exact rfl)
 |exact Go.Vx.oFa rfl rfl (by exact rfl) (by exact Go.Vx.SzC.h) (by exact Go.Vx.AdC.h)
 |exact Go.Vx.oLa rfl rfl rfl
 |exact Go.Vx.oIa rfl rfl rfl
 |exact Go.Vx.oLe rfl rfl rfl rfl
 |exact Go.Vx.oLv rfl rfl rfl rfl
 |exact Go.Vx.oBx rfl rfl rfl
 |exact Go.Vx.oAl rfl
 |exact Go.Vx.oSt rfl rfl rfl rfl rfl
 |exact Go.Vx.oBd rfl rfl (by exact inferInstance) rfl):A:=h
theorem opy (h:A:=by first
 |exact Go.Vx.oMv rfl rfl
 |exact Go.Vx.oAs rfl rfl
 |exact Go.Vx.oIn rfl rfl rfl rfl
 |exact Go.Vx.oEx rfl rfl rfl
 |exact Go.Vx.oP1 rfl rfl (by first |with_reducible_and_instances assumption |exact rfl) rfl
 |exact Go.Vx.oP0 rfl rfl (by first |with_reducible_and_instances assumption |exact rfl) rfl
 |exact Go.Vx.oUn rfl rfl rfl rfl rfl
 |exact opx):A:=h
theorem opz (h:A:=by first
 |exact Go.Vx.oBs rfl rfl (by exact inferInstance) (by exact inferInstance) rfl rfl rfl rfl (by exact inferInstance)
 |exact Go.Vx.oAp rfl rfl rfl rfl rfl rfl rfl rfl rfl (by with_reducible assumption)
 |exact Go.Vx.oAq rfl rfl rfl rfl rfl rfl rfl rfl (by with_reducible assumption)
 |exact opx):A:=h
section
variable{T:Tb}{aA r:X Oper}{o:Oper}{n:Nat}{l:X (Nat×U)}{Y Y':Sg}{u:U}
variable{C:PG}
variable{K:X U->Sg->Prop}
variable{d:Tmp}
theorem c5(hk:RU C T aA r (fr n ((d,u)::l)) Y' K)(h:bI T Y (fr n l) o.op=some (u,Y'):=by exact opz)(he:o.dst=some d:=by exact rfl)(hw:c8 aA (fr n l) o=some true:=by exact wA)(hd:Nat.blt d n=true:=by exact rfl):RU C T aA (o::r) (fr n l) Y K:=RS.op hw h he hd hk
variable{P:DC}
variable{aZ:X RK}
variable{K:X RK->X U->Sg->Prop}
theorem eN(hk:RH P T aA r (fr n ((d,u)::l)) Y' ((3,⟨fr n l,o,u,true,true,Y,Y'⟩)::aZ) K)(h:bI T Y (fr n l) o.op=some (u,Y'):=by exact opz)(he:o.dst=some d:=by exact rfl)(hw:c8 aA (fr n l) o=some true:=by exact wA)(hd:Nat.blt d n=true:=by exact rfl):RH P T aA (o::r) (fr n l) Y aZ K:=RD.act hw h he hd hk
theorem qM(hk:RH P T aA r (fr n l) Y' ((3,⟨fr n l,o,u,true,true,Y,Y'⟩)::aZ) K)(h:bI T Y (fr n l) o.op=some (u,Y'):=by exact opz)(he:o.dst=none:=by exact rfl)(hw:c8 aA (fr n l) o=some true:=by exact wA):RH P T aA (o::r) (fr n l) Y aZ K:=Fj hw h he hk
theorem RD.ou(hk:RH P T aA r (fr n ((d,u)::l)) Y ((1,⟨fr n l,o,u,false,false,Y,Y⟩)::aZ) K)(h:bI T Y (fr n l) o.op=some (u,Y):=by exact opy)(he:o.dst=some d:=by exact rfl)(hw:c8 aA (fr n l) o=some true:=by exact wA)(hd:Nat.blt d n=true:=by exact rfl):RH P T aA (o::r) (fr n l) Y aZ K:=RD.look hw h he hd hk
theorem RD.nt{d':Tmp}{j:Nat}{b:PE}(hg:o.guard=some (j,true))(hj:AM aA j=some d')(hl:bM n l (.tmp d')=some (.bool b))(hb:b=false)(he:o.dst=some d)(hk:RH P T aA r (fr n ((d,.tup [])::l)) Y ((0,⟨fr n l,o,.tup [],false,false,Y,Y⟩)::aZ) K)(hd:Nat.blt d n=true:=by exact rfl):RH P T aA (o::r) (fr n l) Y aZ K:=RD.no (qu hg hj hl hb) he hd hk
theorem RD.nf{d':Tmp}{j:Nat}{b:PE}(hg:o.guard=some (j,false))(hj:AM aA j=some d')(hl:bM n l (.tmp d')=some (.bool b))(hb:b=true)(he:o.dst=some d)(hk:RH P T aA r (fr n ((d,.tup [])::l)) Y ((0,⟨fr n l,o,.tup [],false,false,Y,Y⟩)::aZ) K)(hd:Nat.blt d n=true:=by exact rfl):RH P T aA (o::r) (fr n l) Y aZ K:=RD.no (qu hg hj hl hb) he hd hk
theorem cB{K:X U->Sg->Prop}{v12:Type}{xs:X v12}{z:Int}{y:v12}(hy:aB xs z=some y)(hk:RU C T aA r (fr n ((d,u)::l)) Y K)(h:aB xs z=some y->bI T Y (fr n l) o.op=some (u,Y):=by intro hy;exact Go.Vx.oIx rfl rfl rfl hy)(he:o.dst=some d:=by exact rfl)(hw:c8 aA (fr n l) o=some true:=by exact wA)(hd:Nat.blt d n=true:=by exact rfl):RU C T aA (o::r) (fr n l) Y K:=RS.op hw (h hy) he hd hk
theorem dU{v12:Type}{xs:X v12}{z:Int}{y:v12}(hy:aB xs z=some y)(hk:RH P T aA r (fr n ((d,u)::l)) Y ((1,⟨fr n l,o,u,false,false,Y,Y⟩)::aZ) K)(h:aB xs z=some y->bI T Y (fr n l) o.op=some (u,Y):=by intro hy;exact Go.Vx.oIx rfl rfl rfl hy)(he:o.dst=some d:=by exact rfl)(hw:c8 aA (fr n l) o=some true:=by exact wA)(hd:Nat.blt d n=true:=by exact rfl):RH P T aA (o::r) (fr n l) Y aZ K:=RD.look hw (h hy) he hd hk
theorem RS.ou{K:X U->Sg->Prop}(hk:RU C T aA r (fr n ((d,u)::l)) Y' K)(h:bI T Y (fr n l) o.op=some (u,Y'):=by exact opx)(he:o.dst=some d:=by exact rfl)(hw:c8 aA (fr n l) o=some true:=by exact wA)(hd:Nat.blt d n=true:=by exact rfl):RU C T aA (o::r) (fr n l) Y K:=RS.op hw h he hd hk
theorem RS.oz{K:X U->Sg->Prop}(hk:RU C T aA r (fr n l) Y' K)(h:bI T Y (fr n l) o.op=some (u,Y'):=by exact opx)(he:o.dst=none:=by exact rfl)(hw:c8 aA (fr n l) o=some true:=by exact wA):RU C T aA (o::r) (fr n l) Y K:=RS.opn hw h he hk
end
theorem gd{B:Prop}(h:B) (g:Hd B->A:=by
 intro h
 repeat' first
  |(refine Go.Vx.RD.nt rfl rfl rfl ?_ rfl ?_;· first |with_reducible_and_instances assumption |exact rfl)
  |(refine Go.Vx.RD.nf rfl rfl rfl ?_ rfl ?_;· first |with_reducible_and_instances assumption |exact rfl)
  |refine Go.Vx.RD.ou ?_
 exact h.h):A:=g ⟨h⟩
theorem gs{B: Prop}(h:B) (g:Hd B->A:=by
  intro h
  first
    |refine Go.Vx.gq ?_
    |with_reducible refine Go.Vx.sq ?_
    |with_reducible refine Go.Vx.WPU.skip ?_
    |with_reducible refine Go.Vx.RS.done ?_
    |with_reducible refine Go.Vx.WPU.ret ?_
    |with_reducible refine Go.Vx.WPU.exit ?_
    |(refine Go.Vx.RS.nt rfl rfl rfl ?_ rfl rfl ?_;· first |with_reducible_and_instances assumption |exact rfl)
    |(refine Go.Vx.RS.nf rfl rfl rfl ?_ rfl rfl ?_;· first |with_reducible_and_instances assumption |exact rfl)
    |(refine Go.Vx.RS.mo rfl rfl rfl ?_ rfl ?_;· exact wA)
    |(refine Go.Vx.RS.in rfl rfl rfl rfl rfl ?_ rfl ?_;· exact wA)
    | (refine Go.Vx.RS.p1 rfl rfl ?_ rfl rfl ?_ rfl ?_; · first | with_reducible_and_instances assumption | exact rfl
       exact wA)
    | (refine Go.Vx.RS.p0 rfl rfl ?_ rfl rfl ?_ rfl ?_; · first | with_reducible_and_instances assumption | exact rfl
       exact wA)
    |(refine Go.Vx.RS.a rfl rfl rfl ?_ rfl ?_;· exact wA)
    |(refine Go.Vx.RS.ex rfl rfl rfl rfl ?_ rfl ?_;· exact wA)
    |(refine Go.Vx.RS.un rfl rfl rfl rfl rfl rfl ?_ rfl ?_;· exact wA)
    |refine Go.Vx.RS.ou ?_
    |refine Go.Vx.RS.oz ?_
  exact h.h):A:=g ⟨h⟩
theorem go{B:Prop}(h:B)(g:Hd B->A:=by intro h;(repeat' first |refine Go.Vx.gs ?_ |refine Go.Vx.rg1 rfl ?_);exact h.h):A:=g ⟨h⟩
theorem gn{B:Prop}(h:B)(g:Hd B->A:=by intro h;(repeat' refine Go.Vx.gs ?_);exact h.h):A:=g ⟨h⟩
theorem gr{B:Prop}(h:B)(g:Hd B->A:=by intro h;refine Go.Vx.gn ?_;refine Go.Vx.rg1 rfl ?_;refine Go.Vx.gn ?_;exact h.h):A:=g ⟨h⟩
theorem gx{v12:Type}{a b:v12}(h:some a=some b)(g:a=b->A:=by intro e;subst e;refine Go.Vx.go ?_;exact Go.Vx.rt1 rfl rfl rfl rfl):A:=g (sI h)
theorem gy{v12:Type}{a b:v12}(h:some a=some b)(g:a=b->A:=by intro e;subst e;refine Go.Vx.go ?_;exact Go.Vx.xC ⟨rfl,rfl⟩):A:=g (sI h)
theorem gB{β:Type}{t:PE}{a b r:V β}(h:cond t a b=r):(t=true/\a=r)\/(t=false/\b=r):=by cases t;exact .inr ⟨rfl,h⟩;exact .inl ⟨rfl,h⟩
abbrev B.bv{v12:Type}(c:v12->X U)(l:X v12)(e:TypeId)(sz st:Nat):B:=.vec (l.map c).flatten e sz st
abbrev cY(P:DC)(f:FuncId)(args:X U)(u:U):Prop:=aW P f args ⟨[],0⟩ (fun u' _=>u'=u/\aT 0 u')
section
variable{C:PG}{n0 n:Nat}{Q:Exit->X U->Sg->Prop}{l:X (Nat×U)}{h:X (Nat×B)}{nx:Nat}{c:Code}
theorem gV(i:Nat)(e:TypeId)(sz n1:Nat)(hw:WPU C n0 c (fr n ((i,.vl nx 0 0 0)::l)) ⟨(nx,.vec [] e sz 0)::h,n1⟩ Q)(hi:bM n l (.tmp i)=some .nils:=by exact rfl)(hs:Nat.blt 0 sz=true:=by exact rfl)(hn:nx+1=n1:=by exact rfl)(h0:n0<=nx:=by first |exact Nat.zero_le _ |exact zY rfl)(hd:bz n (some i)=true:=by exact rfl):WPU C n0 c (fr n l) ⟨h,nx⟩ Q:=by subst hn;refine dF (Gh.nilS i e sz ?_ h0 hi hd) (Nat.le_succ_of_le h0) hw;exact Nat.lt_of_succ_le (zY hs)
theorem gL{l':X (Nat×U)}{Y:Sg}{id:Nat}(v09:Nat->X U->Sg->Prop)(E:X U->Sg->Prop)(k:Nat)(h0:v09 k (fr n l') Y)
  (out:∀tm Y,E tm Y->Q .normal tm Y)
  (round:∀m tm Y,v09 m tm Y->WPU C n0 c tm Y (yF (fun tm' Y'=>∃n' eV aU,n'<m/\v09 n' eV aU/\n0<=aU.nx/\Gh n0 tm' Y' eV aU) (uD id (AG n0 E Q))))
  (hn:n0<=Y.nx:=by first |exact Nat.zero_le _ |exact zY rfl) (ht:qC l l':=by((repeat refine⟨rfl,?_⟩);exact trivial)):WPU C n0 (.block id (.loop c)) (fr n l) Y Q:=dF (Gh.sub ht) hn (WPU.loopK v09 E k h0 out round)
theorem dE{T:Tb}[t:cy C T]{tm:X U}{Y:Sg}{id:Nat}{aA:Zu Oper}(pr:X (Nat×Nat))(h:RH C.prog T aA.toList aA.toList tm Y [] (fun ks tm' Y'=>flE aA.toList (ks.reverse.map (·.1)) pr=true/\xp T ks.reverse pr/\Q .normal tm' Y'))(dC:YP aA.toList=true:=by kernel_rfl):WPU C n0 (.region id aA true) tm Y Q:=WPU.drawE t.ok pr dC h
end
theorem gF{β:Type}{t:PE}{a b r:V β}{A A1 A2:Prop}(O:cond t a b=r)(h1:t=true->a=r->A1)(h2:t=false->b=r->A2) (g:cond t a b=r->Hd (t=true->a=r->A1)->Hd (t=false->b=r->A2)->A:=by intro e h k;refine Go.Vx.go ?_;exact Go.Vx.cF e h.h k.h):A:=g O ⟨h1⟩ ⟨h2⟩
abbrev pK{I:Type}(K:V I)(L:X (Nat×U))(v11:Sg)(r:I)(n:Nat)(tm:X U)(Y:Sg):Prop:=K=some r/\tm=fr n L/\Y=v11
variable{I:Type}
variable{L:X (Nat×U)}
variable{v11:Sg}
variable{r:I}
variable{n:Nat}
variable{Q:X U->Sg->Prop}
theorem rY{K:V I}(h:K=some r->Q (fr n L) v11):∀tm Y,pK K L v11 r n tm Y->Q tm Y:=by rintro _ _ ⟨J,rfl,rfl⟩;exact h J
section
variable{C:PG}{n0 n nx:Nat}{Q:Exit->X U->Sg->Prop}{l:X (Nat×U)}{c:Code}{Y:Sg}{id:Nat}{h:X (Nat×B)}
theorem Wx0{K:V I}(J:K=some r)(ht:qC l L:=by((repeat refine⟨rfl,?_⟩);exact trivial))(hs:Vx.cut v11.nx h=v11.h:=by exact rfl)(h1:n0<=v11.nx:=by first |exact Nat.zero_le _ |exact zY rfl)(h2:v11.nx<=nx:=by exact zY rfl)[hb:BS v11.nx L][hh:BH v11.nx v11.h]:∃tm' Y',pK K L v11 r n tm' Y'/\n0<=Y'.nx/\Gh n0 (fr n l) ⟨h,nx⟩ tm' Y':=xC ⟨J,rfl,rfl⟩ ht hs h1 h2
theorem Wn0{m:Nat}{K:Nat->V I}(J:K m=some r)(ht:qC l L:=by((repeat refine⟨rfl,?_⟩);exact trivial))(hs:Vx.cut v11.nx h=v11.h:=by exact rfl)(h1:n0<=v11.nx:=by first |exact Nat.zero_le _ |exact zY rfl)(h2:v11.nx<=nx:=by exact zY rfl)[hb:BS v11.nx L][hh:BH v11.nx v11.h]:∃n' tm' Y',n'<m+1/\pK (K n') L v11 r n tm' Y'/\n0<=Y'.nx/\Gh n0 (fr n l) ⟨h,nx⟩ tm' Y':=⟨m,_,_,zN _,⟨J,rfl,rfl⟩,h1,M8 ht hs h1 h2⟩
end
abbrev pW{v12:Type}{I:Type}(K:v12->V I)(L:v12->X (Nat×U))(v11:v12->Sg)(r:I)(n:Nat)(tm:X U)(Y:Sg):Prop:=∃a1,K a1=some r/\tm=fr n (L a1)/\Y=v11 a1
variable{v12:Type}
theorem tX{K:v12->V I}{L:v12->X (Nat×U)}{v11:v12->Sg}(h:∀a1,K a1=some r->Q (fr n (L a1)) (v11 a1)):∀tm Y,pW K L v11 r n tm Y->Q tm Y:=by rintro _ _ ⟨a1,J,rfl,rfl⟩;exact h a1 J
section
variable{C:PG}{n0 n nx:Nat}{Q:Exit->X U->Sg->Prop}{l:X (Nat×U)}{c:Code}{Y:Sg}{id:Nat}{h:X (Nat×B)}
variable{a1:v12}
theorem oG{k:Nat}(K:Nat->v12->V I)(L:v12->X (Nat×U))(v11:v12->Sg)(E:I->Nat->X U->Sg->Prop)(J:K k a1=some r)(out:∀tm Y,E r n tm Y->Q .normal tm Y)
  (round:∀m a1,K (m+1) a1=some r->WPU C n0 c (fr n (L a1)) (v11 a1) (yF (fun tm' Y'=>∃n' eV aU,n'<m+1/\pW (K n') L v11 r n eV aU/\n0<=aU.nx/\Gh n0 tm' Y' eV aU) (uD id (AG n0 (E r n) Q))))
  (hn:n0<=(v11 a1).nx:=by first |exact Nat.zero_le _ |exact zY rfl) (ht:qC l (L a1):=by((repeat refine⟨rfl,?_⟩);exact trivial)) (h0:∀a1,K 0 a1=none:=by intros;rfl):WPU C n0 (.block id (.loop c)) (fr n l) (v11 a1) Q :=
 gL (fun m=>pW (K m) L v11 r n) (E r n) k ⟨a1,J,rfl,rfl⟩ out (fun m=>by
  rintro _ _ ⟨a1,J,rfl,rfl⟩;cases m with
  |zero=>rw[h0]at J;cases J|succ m=>exact round m a1 J) hn ht
theorem Zy(r:I)(K:v12->V I)(L:v12->X (Nat×U))(v11:v12->Sg)(out:∀a1,K a1=some r->Q .normal (fr n (L a1)) (v11 a1))(h:WPU C n0 c (fr n l) Y (AG n0 (pW K L v11 r n) Q)):WPU C n0 c (fr n l) Y Q:=tF _ (tX out) h
theorem cq{K:v12->V I}{L:v12->X (Nat×U)}{v11:v12->Sg}(J:K a1=some r)(ht:qC l (L a1):=by((repeat refine⟨rfl,?_⟩);exact trivial))(hs:Vx.cut (v11 a1).nx h=(v11 a1).h:=by exact rfl)(h1:n0<=(v11 a1).nx:=by first |exact Nat.zero_le _ |exact zY rfl)(h2:(v11 a1).nx<=nx:=by exact zY rfl)[hb:BS (v11 a1).nx (L a1)][hh:BH (v11 a1).nx (v11 a1).h]:∃tm' Y',pW K L v11 r n tm' Y'/\n0<=Y'.nx/\Gh n0 (fr n l) ⟨h,nx⟩ tm' Y':=xC ⟨a1,J,rfl,rfl⟩ ht hs h1 h2
theorem cr{m:Nat}{K:Nat->v12->V I}{L:v12->X (Nat×U)}{v11:v12->Sg}(J:K m a1=some r)(ht:qC l (L a1):=by((repeat refine⟨rfl,?_⟩);exact trivial))(hs:Vx.cut (v11 a1).nx h=(v11 a1).h:=by exact rfl)(h1:n0<=(v11 a1).nx:=by first |exact Nat.zero_le _ |exact zY rfl)(h2:(v11 a1).nx<=nx:=by exact zY rfl)[hb:BS (v11 a1).nx (L a1)][hh:BH (v11 a1).nx (v11 a1).h]:∃n' tm' Y',n'<m+1/\pW (K n') L v11 r n tm' Y'/\n0<=Y'.nx/\Gh n0 (fr n l) ⟨h,nx⟩ tm' Y':=⟨m,_,_,zN _,⟨a1,J,rfl,rfl⟩,h1,M8 ht hs h1 h2⟩
end
abbrev lH{v12 β:Type}{I:Type}(K:v12->β->V I)(L:v12->β->X (Nat×U))(v11:v12->β->Sg)(r:I)(n:Nat)(tm:X U)(Y:Sg):Prop:=∃a1 a2,K a1 a2=some r/\tm=fr n (L a1 a2)/\Y=v11 a1 a2
variable{β:Type}
theorem nD{K:v12->β->V I}{L:v12->β->X (Nat×U)}{v11:v12->β->Sg}(h:∀a1 a2,K a1 a2=some r->Q (fr n (L a1 a2)) (v11 a1 a2)):∀tm Y,lH K L v11 r n tm Y->Q tm Y:=by rintro _ _ ⟨a1,a2,J,rfl,rfl⟩;exact h a1 a2 J
section
variable{C:PG}{n0 n nx:Nat}{Q:Exit->X U->Sg->Prop}{l:X (Nat×U)}{c:Code}{Y:Sg}{id:Nat}{h:X (Nat×B)}
variable{a1:v12}
variable{a2:β}
theorem D3{k:Nat}(K:Nat->v12->β->V I)(L:v12->β->X (Nat×U))(v11:v12->β->Sg)(E:I->Nat->X U->Sg->Prop)(J:K k a1 a2=some r)(out:∀tm Y,E r n tm Y->Q .normal tm Y)
  (round:∀m a1 a2,K (m+1) a1 a2=some r->WPU C n0 c (fr n (L a1 a2)) (v11 a1 a2) (yF (fun tm' Y'=>∃n' eV aU,n'<m+1/\lH (K n') L v11 r n eV aU/\n0<=aU.nx/\Gh n0 tm' Y' eV aU) (uD id (AG n0 (E r n) Q))))
  (hn:n0<=(v11 a1 a2).nx:=by first |exact Nat.zero_le _ |exact zY rfl) (ht:qC l (L a1 a2):=by((repeat refine⟨rfl,?_⟩);exact trivial)) (h0:∀a1 a2,K 0 a1 a2=none:=by intros;rfl):WPU C n0 (.block id (.loop c)) (fr n l) (v11 a1 a2) Q :=
 gL (fun m=>lH (K m) L v11 r n) (E r n) k ⟨a1,a2,J,rfl,rfl⟩ out (fun m=>by
  rintro _ _ ⟨a1,a2,J,rfl,rfl⟩;cases m with
  |zero=>rw[h0]at J;cases J|succ m=>exact round m a1 a2 J) hn ht
theorem M7(r:I)(K:v12->β->V I)(L:v12->β->X (Nat×U))(v11:v12->β->Sg)(out:∀a1 a2,K a1 a2=some r->Q .normal (fr n (L a1 a2)) (v11 a1 a2))(h:WPU C n0 c (fr n l) Y (AG n0 (lH K L v11 r n) Q)):WPU C n0 c (fr n l) Y Q:=tF _ (nD out) h
theorem Wx2{K:v12->β->V I}{L:v12->β->X (Nat×U)}{v11:v12->β->Sg}(J:K a1 a2=some r)(ht:qC l (L a1 a2):=by((repeat refine⟨rfl,?_⟩);exact trivial))(hs:Vx.cut (v11 a1 a2).nx h=(v11 a1 a2).h:=by exact rfl)(h1:n0<=(v11 a1 a2).nx:=by first |exact Nat.zero_le _ |exact zY rfl)(h2:(v11 a1 a2).nx<=nx:=by exact zY rfl)[hb:BS (v11 a1 a2).nx (L a1 a2)][hh:BH (v11 a1 a2).nx (v11 a1 a2).h]:∃tm' Y',lH K L v11 r n tm' Y'/\n0<=Y'.nx/\Gh n0 (fr n l) ⟨h,nx⟩ tm' Y':=xC ⟨a1,a2,J,rfl,rfl⟩ ht hs h1 h2
theorem Wn2{m:Nat}{K:Nat->v12->β->V I}{L:v12->β->X (Nat×U)}{v11:v12->β->Sg}(J:K m a1 a2=some r)(ht:qC l (L a1 a2):=by((repeat refine⟨rfl,?_⟩);exact trivial))(hs:Vx.cut (v11 a1 a2).nx h=(v11 a1 a2).h:=by exact rfl)(h1:n0<=(v11 a1 a2).nx:=by first |exact Nat.zero_le _ |exact zY rfl)(h2:(v11 a1 a2).nx<=nx:=by exact zY rfl)[hb:BS (v11 a1 a2).nx (L a1 a2)][hh:BH (v11 a1 a2).nx (v11 a1 a2).h]:∃n' tm' Y',n'<m+1/\lH (K n') L v11 r n tm' Y'/\n0<=Y'.nx/\Gh n0 (fr n l) ⟨h,nx⟩ tm' Y':=⟨m,_,_,zN _,⟨a1,a2,J,rfl,rfl⟩,h1,M8 ht hs h1 h2⟩
end
abbrev Li{v12 β γ:Type}{I:Type}(K:v12->β->γ->V I)(L:v12->β->γ->X (Nat×U))(v11:v12->β->γ->Sg)(r:I)(n:Nat)(tm:X U)(Y:Sg):Prop:=∃a1 a2 a3,K a1 a2 a3=some r/\tm=fr n (L a1 a2 a3)/\Y=v11 a1 a2 a3
variable{γ:Type}
theorem Wo3{K:v12->β->γ->V I}{L:v12->β->γ->X (Nat×U)}{v11:v12->β->γ->Sg}(h:∀a1 a2 a3,K a1 a2 a3=some r->Q (fr n (L a1 a2 a3)) (v11 a1 a2 a3)):∀tm Y,Li K L v11 r n tm Y->Q tm Y:=by rintro _ _ ⟨a1,a2,a3,J,rfl,rfl⟩;exact h a1 a2 a3 J
section
variable{C:PG}{n0 n nx:Nat}{Q:Exit->X U->Sg->Prop}{l:X (Nat×U)}{c:Code}{Y:Sg}{id:Nat}{h:X (Nat×B)}
variable{a1:v12}
variable{a2:β}
variable{a3:γ}
theorem nN{k:Nat}(K:Nat->v12->β->γ->V I)(L:v12->β->γ->X (Nat×U))(v11:v12->β->γ->Sg)(E:I->Nat->X U->Sg->Prop)(J:K k a1 a2 a3=some r)(out:∀tm Y,E r n tm Y->Q .normal tm Y)
  (round:∀m a1 a2 a3,K (m+1) a1 a2 a3=some r->WPU C n0 c (fr n (L a1 a2 a3)) (v11 a1 a2 a3) (yF (fun tm' Y'=>∃n' eV aU,n'<m+1/\Li (K n') L v11 r n eV aU/\n0<=aU.nx/\Gh n0 tm' Y' eV aU) (uD id (AG n0 (E r n) Q))))
  (hn:n0<=(v11 a1 a2 a3).nx:=by first |exact Nat.zero_le _ |exact zY rfl) (ht:qC l (L a1 a2 a3):=by((repeat refine⟨rfl,?_⟩);exact trivial)) (h0:∀a1 a2 a3,K 0 a1 a2 a3=none:=by intros;rfl):WPU C n0 (.block id (.loop c)) (fr n l) (v11 a1 a2 a3) Q :=
 gL (fun m=>Li (K m) L v11 r n) (E r n) k ⟨a1,a2,a3,J,rfl,rfl⟩ out (fun m=>by
  rintro _ _ ⟨a1,a2,a3,J,rfl,rfl⟩;cases m with
  |zero=>rw[h0]at J;cases J|succ m=>exact round m a1 a2 a3 J) hn ht
theorem Wj3(r:I)(K:v12->β->γ->V I)(L:v12->β->γ->X (Nat×U))(v11:v12->β->γ->Sg)(out:∀a1 a2 a3,K a1 a2 a3=some r->Q .normal (fr n (L a1 a2 a3)) (v11 a1 a2 a3))(h:WPU C n0 c (fr n l) Y (AG n0 (Li K L v11 r n) Q)):WPU C n0 c (fr n l) Y Q:=tF _ (Wo3 out) h
theorem Wx3{K:v12->β->γ->V I}{L:v12->β->γ->X (Nat×U)}{v11:v12->β->γ->Sg}(J:K a1 a2 a3=some r)(ht:qC l (L a1 a2 a3):=by((repeat refine⟨rfl,?_⟩);exact trivial))(hs:Vx.cut (v11 a1 a2 a3).nx h=(v11 a1 a2 a3).h:=by exact rfl)(h1:n0<=(v11 a1 a2 a3).nx:=by first |exact Nat.zero_le _ |exact zY rfl)(h2:(v11 a1 a2 a3).nx<=nx:=by exact zY rfl)[hb:BS (v11 a1 a2 a3).nx (L a1 a2 a3)][hh:BH (v11 a1 a2 a3).nx (v11 a1 a2 a3).h]:∃tm' Y',Li K L v11 r n tm' Y'/\n0<=Y'.nx/\Gh n0 (fr n l) ⟨h,nx⟩ tm' Y':=xC ⟨a1,a2,a3,J,rfl,rfl⟩ ht hs h1 h2
theorem Wn3{m:Nat}{K:Nat->v12->β->γ->V I}{L:v12->β->γ->X (Nat×U)}{v11:v12->β->γ->Sg}(J:K m a1 a2 a3=some r)(ht:qC l (L a1 a2 a3):=by((repeat refine⟨rfl,?_⟩);exact trivial))(hs:Vx.cut (v11 a1 a2 a3).nx h=(v11 a1 a2 a3).h:=by exact rfl)(h1:n0<=(v11 a1 a2 a3).nx:=by first |exact Nat.zero_le _ |exact zY rfl)(h2:(v11 a1 a2 a3).nx<=nx:=by exact zY rfl)[hb:BS (v11 a1 a2 a3).nx (L a1 a2 a3)][hh:BH (v11 a1 a2 a3).nx (v11 a1 a2 a3).h]:∃n' tm' Y',n'<m+1/\Li (K n') L v11 r n tm' Y'/\n0<=Y'.nx/\Gh n0 (fr n l) ⟨h,nx⟩ tm' Y':=⟨m,_,_,zN _,⟨a1,a2,a3,J,rfl,rfl⟩,h1,M8 ht hs h1 h2⟩
end
abbrev We4{v12 β γ δ:Type}{I:Type}(K:v12->β->γ->δ->V I)(L:v12->β->γ->δ->X (Nat×U))(v11:v12->β->γ->δ->Sg)(r:I)(n:Nat)(tm:X U)(Y:Sg):Prop:=∃a1 a2 a3 a4,K a1 a2 a3 a4=some r/\tm=fr n (L a1 a2 a3 a4)/\Y=v11 a1 a2 a3 a4
section
variable{C:PG}{n0 n nx:Nat}{Q:Exit->X U->Sg->Prop}{l:X (Nat×U)}{c:Code}{Y:Sg}{id:Nat}{h:X (Nat×B)}
theorem Wx4{δ:Type}{K:v12->β->γ->δ->V I}{L:v12->β->γ->δ->X (Nat×U)}{v11:v12->β->γ->δ->Sg}{a1:v12}{a2:β}{a3:γ}{a4:δ}(J:K a1 a2 a3 a4=some r)(ht:qC l (L a1 a2 a3 a4):=by((repeat refine⟨rfl,?_⟩);exact trivial))(hs:Vx.cut (v11 a1 a2 a3 a4).nx h=(v11 a1 a2 a3 a4).h:=by exact rfl)(h1:n0<=(v11 a1 a2 a3 a4).nx:=by first |exact Nat.zero_le _ |exact zY rfl)(h2:(v11 a1 a2 a3 a4).nx<=nx:=by exact zY rfl)[hb:BS (v11 a1 a2 a3 a4).nx (L a1 a2 a3 a4)][hh:BH (v11 a1 a2 a3 a4).nx (v11 a1 a2 a3 a4).h]:∃tm' Y',We4 K L v11 r n tm' Y'/\n0<=Y'.nx/\Gh n0 (fr n l) ⟨h,nx⟩ tm' Y':=xC ⟨a1,a2,a3,a4,J,rfl,rfl⟩ ht hs h1 h2
theorem Wn4{δ:Type}{m:Nat}{K:Nat->v12->β->γ->δ->V I}{L:v12->β->γ->δ->X (Nat×U)}{v11:v12->β->γ->δ->Sg}{a1:v12}{a2:β}{a3:γ}{a4:δ}(J:K m a1 a2 a3 a4=some r)(ht:qC l (L a1 a2 a3 a4):=by((repeat refine⟨rfl,?_⟩);exact trivial))(hs:Vx.cut (v11 a1 a2 a3 a4).nx h=(v11 a1 a2 a3 a4).h:=by exact rfl)(h1:n0<=(v11 a1 a2 a3 a4).nx:=by first |exact Nat.zero_le _ |exact zY rfl)(h2:(v11 a1 a2 a3 a4).nx<=nx:=by exact zY rfl)[hb:BS (v11 a1 a2 a3 a4).nx (L a1 a2 a3 a4)][hh:BH (v11 a1 a2 a3 a4).nx (v11 a1 a2 a3 a4).h]:∃n' tm' Y',n'<m+1/\We4 (K n') L v11 r n tm' Y'/\n0<=Y'.nx/\Gh n0 (fr n l) ⟨h,nx⟩ tm' Y':=⟨m,_,_,zN _,⟨a1,a2,a3,a4,J,rfl,rfl⟩,h1,M8 ht hs h1 h2⟩
end
section
variable{C:PG}{n0 n nx:Nat}{Q:Exit->X U->Sg->Prop}{l:X (Nat×U)}{c:Code}{Y:Sg}{h:X (Nat×B)}
abbrev Wez(L:X (Nat×U))(v11:Sg)(n:Nat)(tm:X U)(Y:Sg):Prop:=tm=fr n L/\Y=v11
theorem nE(L:X (Nat×U))(v11:Sg)(out:Q .normal (fr n L) v11)(h:WPU C n0 c (fr n l) Y (AG n0 (Wez L v11 n) Q)):WPU C n0 c (fr n l) Y Q:=tF _ (by rintro _ _ ⟨rfl,rfl⟩;exact out) h
theorem mS(ht:qC l L:=by((repeat refine⟨rfl,?_⟩);exact trivial))(hs:Vx.cut v11.nx h=v11.h:=by exact rfl)(h1:n0<=v11.nx:=by first |exact Nat.zero_le _ |exact zY rfl)(h2:v11.nx<=nx:=by exact zY rfl)[hb:BS v11.nx L][hh:BH v11.nx v11.h]:∃tm' Y',Wez L v11 n tm' Y'/\n0<=Y'.nx/\Gh n0 (fr n l) ⟨h,nx⟩ tm' Y':=xC ⟨rfl,rfl⟩ ht hs h1 h2
end
variable{A:Prop}
theorem gG{t:PE}{a b r:V β}{A1 A2:Prop}(O:cond t a b=r)(h1:t=true->a=r->A1)(h2:t=false->b=r->A2) (g:cond t a b=r->Hd (t=true->a=r->A1)->Hd (t=false->b=r->A2)->A:=by intro e h k;refine go ?_;refine cF e (fun p q=>?_) k.h;refine go ?_;apply cE;exact h.h p q):A:=g O ⟨h1⟩ ⟨h2⟩
variable{P:Prop}
theorem gI{B:Prop}(h:P)(k:B) (g:P->Hd B->A:=by intro h k;refine go ?_;refine cB h ?_;refine go ?_;exact k.h):A:=g h ⟨k⟩
theorem gJ{B:Prop}(h:P)(k:B) (g:P->Hd B->A:=by intro h k;refine gd ?_;refine dU h ?_;refine gd ?_;exact k.h):A:=g h ⟨k⟩
theorem wx(J:P) (g:P->A:=by
 intro J;refine go ?_
 first |exact cq J |exact cr J |exact Wx2 J |exact Wn2 J |exact Wx0 J |exact Wx3 J |exact Wn3 J |exact Wx4 J |exact Wn4 J |exact Wn0 J):A:=g J
end Go.Vx
