import Derived.Test.YtldlchbgolpkaaaGreatP9
set_option linter.all false
namespace Go.Vx
open Go Go.Rx
variable{n:Nat}
theorem z7k{F:Nat->lB->Prop}{y:Cx}{K:Nat}{l:List U}{e:TypeId}{sz t:Nat}{h:List (Nat×B)}(hy:y.O=⟨(K,.vec l e sz t)::h,K+1⟩)(hh:jZ y)(hf:Fr F y)(hb:∀k b,gt h k=some b->k<K/\BelB K b)(hl:aN 0 l):
  ∃y':Cx,y'.O=⟨(K,.vec l e sz 0)::h,K+1⟩/\y'.s=y.s/\jZ y'/\Fr F y'/\Ke K y y'/\∀v,aD y (.vl K t 0 n) v->aD y' (.vl K 0 0 n) v:=by
 have gy:∀j,gt y.O.h j=if K=j then some (.vec l e sz t)else gt h j:=fun j=>by rw[hy];exact lG _ _ _ _
 have Sh:∀j,gt ((K,B.vec l e sz 0)::h) j=if K=j then some (.vec l e sz 0)else gt h j:=fun j=>lG _ _ _ _;have m8:y.O.nx=K+1:=by rw[hy]
 let y':Cx:=⟨y.Y,⟨(K,.vec l e sz 0)::h,K+1⟩,y.s⟩
 have fM:Mo K y y':=by refine⟨fun j h1 h2=>⟨by show j<K+1;omega,fun b' cQ=>?_⟩,fun _ _ _ h=>h⟩;have sH:gt ((K,B.vec l e sz 0)::h) j=some b':=cQ;rw[Sh,if_neg (by omega)]at sH;exact⟨b',by rw[gy,if_neg (by omega)];exact sH,zF _,fun _=>⟨rfl,fun l e sz st h=>⟨l,h⟩⟩⟩
 refine⟨y',rfl,rfl,⟨fun j b fj=>?_,fun j j' b b' i fj fi h1 h2=>?_,hh.bd⟩,fun i b J=>?_,fM.ke,fun v hv=>?_⟩;have sH:gt ((K,B.vec l e sz 0)::h) j=some b:=fj;rw[Sh]at sH;by_cases e1:K=j;subst e1;rw[if_pos rfl]at sH;cases sH;refine⟨by show K<K+1;omega,?_⟩;obtain⟨_,q1,q2,q3⟩:=hh.ok K (.vec l e sz t) (by rw[gy,if_pos rfl]);refine⟨q1,q2,?_⟩;rcases q3 with q3 |⟨i,l',r1,r2,r3⟩;exact .inl q3;exact .inr ⟨i,l',r1,r2,fM.ke.E (aN.le (Nat.zero_le _) l hl) r3⟩;rw[if_neg e1]at sH;obtain⟨h1,h2⟩:=hb j b sH;refine⟨by show j<K+1;omega,?_⟩;exact(hh.ok j b (by rw[gy,if_neg e1];exact sH)).2.monoB h2 fM rfl fun _ _ _ h=>h
 have key:∀j b,gt ((K,B.vec l e sz 0)::h) j=some b->∃c,gt y.O.h j=some c:=fun j b hb=>by rw[Sh]at hb;by_cases e1:K=j;exact⟨_,by rw[gy,if_pos e1]⟩;rw[if_neg e1]at hb;exact⟨b,by rw[gy,if_neg e1];exact hb⟩
 obtain⟨c,g1⟩:=key j b fj;obtain⟨c',g2⟩:=key j' b' fi;exact hh.inj j j' c c' i g1 g2 h1 h2;obtain⟨h1,h2⟩:=hf i b J;refine⟨h1,fun j c hc=>?_⟩;have y6:gt ((K,B.vec l e sz 0)::h) j=some c:=hc;rw[Sh]at y6;by_cases e1:K=j;exact h2 j _ (by rw[gy,if_pos e1]);rw[if_neg e1]at y6;exact h2 j c (by rw[gy,if_neg e1];exact y6);simp only[aD]at hv ⊢;refine⟨hv.1,by show K<K+1;omega,fun b hb=>?_⟩;have sH:gt ((K,B.vec l e sz 0)::h) K=some b:=hb;rw[Sh,if_pos rfl]at sH;cases sH;obtain⟨_,g2⟩:=hv.2.2 (.vec l e sz t) (by rw[gy,if_pos rfl]);obtain⟨l2,e2,sz2,g3,g4⟩:=g2 rfl;cases g3;exact⟨zF _,fun _=>⟨l,e,sz,rfl,g4⟩⟩
theorem bA.own0{X:Type}(c:X->List U){P:Program}{f:FuncId}{ys:List X}{e:TypeId}{sz:Nat}{a7:List U}[hc:BF c][ha:fD 0 a7]{k:Nat}
  (h:bA P f a7 ⟨[],0⟩ (fun u O'=>∃t',u=.vl k t' 0 ys.length/\O'=⟨[(k,.vec (ys.map c).flatten e sz t')],k+1⟩))
  (O:Sg) (K:Nat) (hK:O.nx+k=K):
  bA P f a7 O (fun u O'=>u=.vl K 0 0 ys.length/\O'=⟨(K,.vec (ys.map c).flatten e sz 0)::O.h,K+1⟩):=fun F x vs m w bH hx hh m9 he fH d9=>by
 have h1:=bA.own1 c h O K hK;refine(h1 F x vs m w bH hx hh m9 he fH d9).mono ?_;rintro e' w₁ ⟨y,aJ,u,v,cv,q1,⟨t',rfl,q3⟩,q4,q5,q6,q7,q8,q9,q10⟩;obtain⟨y',z1,z2,z3,z4,z5,z6⟩:=z7k (F:=F) q3 q6 q7 (fun k b hb=>by
  have:=hh.ok k b (by rw[hx];exact hb);rw[hx]at this;refine⟨by omega,?_⟩;have HL:=this.2.belB;rw[hx]at HL;cases b with
  |row l e=>exact aN.le (by omega) l HL|vec l e s st=>exact aN.le (by omega) l HL
  |map es cl=>exact fun e he=>⟨b7.le (by omega) _ (HL e he).1,b7.le (by omega) _ (HL e he).2⟩) (EP 0 (hc.h 0) ys)
 exact⟨y',aJ,_,v,cv,q1,⟨rfl,z1⟩,by rw[z2];exact q4,by rw[z2];exact q5,z3,z4,z6 v q8,q9.trans (z5.le (by rw[hx];omega)),by rw[z1,hx];show O.nx<=K+1;omega⟩
theorem BW{P:Program}{T:Tb}{aA r:List Oper}{o:Oper}{l:List (Nat×U)}{O O1:Sg}{aY:List RK}{K:List RK->List U->Sg->Prop}{u:U}{f:FuncId}{args:List U}(hw:cP aA (fr n l) o=some true)(hc:jL T (fr n l) o.op=some (f,args))(kE:bA P f args O (fun u' O'=>u'=u/\O'=O1)){d:Tmp}(he:o.dst=some d)(hd:Nat.blt d n=true)
  (hk:RH P T aA r (fr n ((d,u)::l)) O1 ((3,⟨fr n l,o,u,true,true,O,O1⟩)::aY) K):RH P T aA (o::r) (fr n l) O aY K :=
 RH.callM hw hc kE (by rw[he,wC (d:=some d) u hd];exact hk)
def FT(k:IntKind)(a b:Int):Int:=k.wrap (BitVec.ofInt k.bits a&&&BitVec.ofInt k.bits b).toNat
def Et(k:IntKind)(a b:Int):Int:=k.wrap (BitVec.ofInt k.bits a|||BitVec.ofInt k.bits b).toNat
def PI(k:IntKind)(a b:Int):Int:=k.wrap (BitVec.ofInt k.bits a &&& ~~~ BitVec.ofInt k.bits b).toNat
theorem qsd(k:IntKind)(a b:Int):jI .andNot k a k b=some (.int k (PI k a b)):=by simp[jI,PI]
theorem lg(k:IntKind)(a b:Int):jI .and k a k b=some (.int k (FT k a b)):=by simp[jI,FT]
theorem Ov(k:IntKind)(a b:Int):jI .or k a k b=some (.int k (Et k a b)):=by simp[jI,Et]
def UL(s:List UInt8)(i:Int):Option Int:=if 0<=i/\i<(s.length:Int)then(s[i.toNat]?).map fun b=>(b.toNat:Int)else none
theorem mj{T:Tb}{O:Sg}{l:List (Nat×U)}{t:TypeId}{x y:Operand}{s:List UInt8}{k:IntKind}{i z:Int}(hd:T.und t=some .string)(hx:bV n l x=some (.str s))(hy:bV n l y=some (.int k i))(h:UL s i=some z):bO T O (fr n l) (.index t x y)=some (.int .u8 z,O):=by
 unfold UL at h;split at h;rename_i hp;rcases hb:s[i.toNat]? with _|b;rw[hb]at h;cases h;rw[hb]at h;simp only[zM,zA]at h;subst h;have e1:qD i s.length=true:=L9 hp;refine uJ ?_;simp only[i8,eT hx,eT hy,Vz,g2,toV,UV,hd,e1,zC,iQ,hb,iH];cases h
def ra(O τ:Sg):Prop:=∀k b,gt O.h k=some b->gt τ.h k=some b
section
variable{O τ:Sg}(hs:ra O τ)
include hs
variable{T:Tb}{tm:List U}
def QE:Op->Bool
 |.alloc _ |.box _ _ |.store _ _ _ |.buildSlice _ _ _ |.makeSlice _ _ _ |.makeMap _ _ |.mapUpdate _ _ _ _ |.insert _ _ _ _ |.mapEntry _ _ _ |.entryStore _ _ _ _=>false|.call c=>(match c.callee with
  |.builtin .append=>false|.builtin .copy=>false
  |.builtin .delete=>false|.builtin .clear=>false
  |_=>true)
 |_=>true
end
def SN:Option Nat->Nat->U
 |none,k=>.ptr k 0 0|some n,k=>.sl k 0 n n
structure Al where
 i:Nat
 k:Nat
 o:Option Nat
 l:List U
 e:TypeId
def MkU(P:Program)(T:Tb)(tm:List U)(op:Op)(al:Al):Prop :=
 (∀s,bO T s tm op=some (SN al.o s.nx,newU s (.row al.l al.e)))\/∃f args,jL T tm op=some (f,args)/\∀s,bA P f args s (fun u s'=>u=SN al.o s.nx/\s'=newU s (.row al.l al.e))
structure Loc(T:Tb)(aA:List Oper)(x3:List Al)(i:Nat)(r:eI)(K:Nat)(q q':List U)(e:TypeId):Prop where
 name:∃al∈x3,al.k=K
 row:gt r.s.h K=some (.row q e)
 out:r.s'=⟨ug r.s.h K (.row q' e),r.s.nx⟩
 dst:r.o.dst=none
 run:∀ τ:Sg,gt τ.h K=some (.row q e)->bO T τ r.tm r.o.op=some (r.u,⟨ug τ.h K (.row q' e),τ.nx⟩)
 pre:∀al∈x3,Pre aA i al.i\/(al.k≠K/\aN al.k q')
 want:cP aA r.tm r.o=some true
structure ChA(P:Program)(T:Tb)(aA:List Oper)(tm₀:List U)(Ob O1:Sg)(rs:List eI)(x3:List Al):Prop where
 some:x3≠[]
 names:∀al∈x3,Ob.nx<=al.k/\al.k<O1.nx
 nodup:∀a∈x3,∀b∈x3,a.k=b.k->a.i=b.i
 le:Ob.nx<=O1.nx
 at_:∀al∈x3,∃r d,rs[al.i]? = .some r/\r.u=SN al.o al.k/\r.act=false/\r.mv=true/\MkU P T r.tm r.o.op al/\r.o.guard=none/\r.o.dst=.some d
 row:∀al∈x3,aN 0 al.l
 all:∀(i:Nat)(r:eI),rs[i]? = .some r->r.act=false->r.mv=true->∃al∈x3,al.i=i
 own:∀al∈x3,gt O1.h al.k=.some (.row al.l al.e)
 oth:∀j,(∀al∈x3,al.k≠j)->gt O1.h j=gt Ob.h j
 acts:∀(i:Nat)(r:eI),rs[i]? = .some r->r.act=true->(∀al∈x3,Pre aA i al.i)\/∃K q q' e,Loc T aA x3 i r K q q' e
 early:∀(i:Nat)(r:eI),rs[i]? = .some r->r.act=false->r.mv=false->(∀al∈x3,Pre aA i al.i)\/(b7 Ob.nx r.u/\(cP aA r.tm r.o=.some true->bO T r.s r.tm r.o.op=.some (r.u,r.s')->QE r.o.op=true/\bO T ⟨Ob.h,O1.nx⟩ r.tm r.o.op=.some (r.u,⟨Ob.h,O1.nx⟩)))
section
variable{P:Program}{T:Tb}(hT:kS P T)(aA:Array Oper){tm₀:List U}{Ob O1:Sg}{rs:List eI}{tm':List U}{O':Sg}{x3:List Al}
 (iY:kj P T aA.toList tm₀ O1 rs tm' O') (c8:VJ aA.toList=true) (NA:rf T aA.toList rs) (A6:ChA P T aA.toList tm₀ Ob O1 rs x3)
include iY A6
include hT c8 NA
end
def Ot(mk K:Nat)(q':List U):List Al->Prop
 |[]=>True|al::r=>(Nat.testBit mk al.i=true\/(al.k≠K/\aN al.k q'))/\Ot mk K q' r
def RA(P:Program)(T:Tb)(aA:List Oper)(nb:Nat)(Oe:Sg)(qa:List Al):List Oper->List U->Sg->List RK->List Al->(List RK->List U->Sg->Prop)->Prop
 |[],tm,O,aY,q,K=>q=[]/\K aY tm O|o::r,tm,O,aY,q,K=>
  (cP aA tm o=some true/\∃u,bO T O tm o.op=some (u,O)/\RA P T aA nb Oe qa r (eH tm o.dst u) O ((1,⟨tm,o,u,false,false,O,O⟩)::aY) q K)\/ (cP aA tm o=some true/\∃u O',bO T O tm o.op=some (u,O')/\RA P T aA nb Oe qa r (eH tm o.dst u) O' ((3,⟨tm,o,u,true,true,O,O'⟩)::aY) q K)\/ (cP aA tm o=some true/\∃f args u,jL T tm o.op=some (f,args)/\bA P f args O (fun u' O'=>u'=u/\O'=O)/\RA P T aA nb Oe qa r (eH tm o.dst u) O ((2,⟨tm,o,u,true,false,O,O⟩)::aY) q K)\/ (cP aA tm o=some true/\∃f args u O',jL T tm o.op=some (f,args)/\bA P f args O (fun u' s'=>u'=u/\s'=O')/\RA P T aA nb Oe qa r (eH tm o.dst u) O' ((3,⟨tm,o,u,true,true,O,O'⟩)::aY) q K)\/ (cP aA tm o=some false/\RA P T aA nb Oe qa r (eH tm o.dst (.tup [])) O ((0,⟨tm,o,.tup [],false,false,O,O⟩)::aY) q K)\/ (cP aA tm o=some true/\∃u,EE P T tm o.op u/\b7 nb u/\RA P T aA nb Oe qa r (eH tm o.dst u) O ((6,⟨tm,o,u,false,false,O,O⟩)::aY) q K)\/ (cP aA tm o=some true/\∃u,bO T O tm o.op=some (u,O)/\bO T Oe tm o.op=some (u,Oe)/\QE o.op=true/\b7 nb u/\RA P T aA nb Oe qa r (eH tm o.dst u) O ((5,⟨tm,o,u,false,false,O,O⟩)::aY) q K)\/ (∃al q' d,q=al::q'/\al.i=aY.length/\MkU P T tm o.op al/\o.guard=none/\o.dst=some d/\RA P T aA nb Oe qa r (eH tm o.dst (SN al.o al.k)) O ((4,⟨tm,o,SN al.o al.k,false,true,O,O⟩)::aY) q' K)\/ (cP aA tm o=some true/\∃u KK c c' e mk,(eA aA [])[aY.length]? = some mk/\o.dst=none/\gt O.h KK=some (.row c e)/\(∀ τ:Sg,gt τ.h KK=some (.row c e)->bO T τ tm o.op=some (u,⟨ug τ.h KK (.row c' e),τ.nx⟩))/\(∃al∈qa,al.k=KK)/\Ot mk KK c' qa/\
   RA P T aA nb Oe qa r (eH tm o.dst u) ⟨ug O.h KK (.row c' e),O.nx⟩ ((7,⟨tm,o,u,true,true,O,⟨ug O.h KK (.row c' e),O.nx⟩⟩)::aY) q K)
section
variable{P:Program}{T:Tb}
end
section
variable{C:PG}{T:Tb}(hT:kS C.prog T){n0:Nat}{Q:Exit->List U->Sg->Prop}{tm:List U}{O:Sg}
include hT
end
section
variable{P:Program}{T:Tb}{aA r:List Oper}{o:Oper}{n nb:Nat}{Oe:Sg}{l:List (Nat×U)}{O O':Sg}{aY:List RK}{q qa:List Al}{K:List RK->List U->Sg->Prop}{u:U}
variable{d:Tmp}
theorem RQ.act(hw:cP aA (fr n l) o=some true)(h:bO T O (fr n l) o.op=some (u,O'))(he:o.dst=some d)(hd:Nat.blt d n=true)(hk:RA P T aA nb Oe qa r (fr n ((d,u)::l)) O' ((3,⟨fr n l,o,u,true,true,O,O'⟩)::aY) q K):RA P T aA nb Oe qa (o::r) (fr n l) O aY q K :=
 .inr (.inl ⟨hw,u,O',h,by rw[he,wC (d:=some d) u hd];exact hk⟩)
theorem RQ.call{f:FuncId}{args:List U}(hw:cP aA (fr n l) o=some true)(hc:jL T (fr n l) o.op=some (f,args))(kE:bA P f args O (fun u' O'=>u'=u/\O'=O))(he:o.dst=some d)(hd:Nat.blt d n=true)(hk:RA P T aA nb Oe qa r (fr n ((d,u)::l)) O ((2,⟨fr n l,o,u,true,false,O,O⟩)::aY) q K):RA P T aA nb Oe qa (o::r) (fr n l) O aY q K :=
 .inr (.inr (.inl ⟨hw,f,args,u,hc,kE,by rw[he,wC (d:=some d) u hd];exact hk⟩))
theorem RQ.alloc{al:Al}(hi:al.i=aY.length)(ho:∀s,bO T s (fr n l) o.op=some (SN al.o s.nx,newU s (.row al.l al.e)))(hg:o.guard=none)(he:o.dst=some d)(hd:Nat.blt d n=true)(hk:RA P T aA nb Oe qa r (fr n ((d,SN al.o al.k)::l)) O ((4,⟨fr n l,o,SN al.o al.k,false,true,O,O⟩)::aY) q K):RA P T aA nb Oe qa (o::r) (fr n l) O aY (al::q) K :=
 .inr (.inr (.inr (.inr (.inr (.inr (.inr (.inl ⟨al,q,d,rfl,hi,.inl ho,hg,he,by rw[he,wC (d:=some d) _ hd];exact hk⟩)))))))
end
section
variable{C:PG}{T:Tb}(hT:kS C.prog T){n0:Nat}{Q:Exit->List U->Sg->Prop}{tm:List U}{O:Sg}
include hT
end
class TbP(P:Program)(T:outParam Tb):Prop where
 ok:kS P T
class kl(C:PG)(T:outParam Tb):Prop where
 ok:kS C.prog T
instance{P:Program}{T:Tb}[h:TbP P T]:kl (PG.of P) T:=⟨h.ok⟩
section
variable{P:Program}{T:Tb}{aA r:List Oper}{o:Oper}{n:Nat}{l:List (Nat×U)}{O O':Sg}{u:U}
theorem aL{C:PG}{K:List U->Sg->Prop}{d:Tmp}(he:o.dst=some d)(h:bO T O (fr n l) o.op=some (u,O'))(hk:RU C T aA r (fr n ((d,u)::l)) O' K)(hw:cP aA (fr n l) o=some true:=by exact rfl)(hd:Nat.blt d n=true:=by exact rfl):RU C T aA (o::r) (fr n l) O K:=RS.op hw h he hd hk
theorem aM{aY:List RK}{K:List RK->List U->Sg->Prop}{d:Tmp}(he:o.dst=some d)(h:bO T O (fr n l) o.op=some (u,O))(hk:RH P T aA r (fr n ((d,u)::l)) O ((1,⟨fr n l,o,u,false,false,O,O⟩)::aY) K)(hw:cP aA (fr n l) o=some true:=by exact rfl)(hd:Nat.blt d n=true:=by exact rfl):RH P T aA (o::r) (fr n l) O aY K:=RD.look hw h he hd hk
end
theorem st{A B:Prop}(h:B)(g:B->A:=by intro h;(repeat refine Go.Vx.gq ?_);(repeat refine Go.Vx.sq ?_);exact h):A:=g h
theorem bA.viewT{P:Program}{f:FuncId}{args args':List U}{O:Sg}{us:List U}{rs:List Value}(h:bA P f args ⟨[],0⟩ (fun u' _=>u'=.tup us/\b7 0 u'))(ha:aN 0 args)(hu:eL us=some rs)(zE:∀m,aI m rs=rs){O1:Sg}(hg:Gh 0 args' O args O1):bA P f args' O (fun u' O'=>u'=.tup us/\O'=O):=fun F x vs m w bH hx hh m9 he fH d9=>by
 obtain⟨y1,a1,a2,a3,a4,a5,a6⟩:=hg F x vs hx hh m9 he;have iK:=a1 m w fH;have dA:=bP.less iK.fits (qp3 y1.s);have fM:Mo 0 y1 (cx (CH y1.s)):=⟨fun k hk=>by omega,fun i row e hl=>by show lk (CH y1.s).h i=_;rw[VB,hl];rfl⟩;have hJ:∀b,¬ O9 m (CH y1.s) b:=fun b ⟨i,c,hc,ho,_⟩=>by rw[VB]at hc;obtain⟨_,l,e,rfl⟩:=Km hc;simp[Rx.Own]at ho
 refine(h (fun _ _=>False) (cx (CH y1.s)) vs m w bH rfl ⟨fun k b hb=>by simp[cx,gt]at hb,fun k k' b b' i hb=>by simp[cx,gt]at hb,fun i b hb=>?_⟩ (fun _ _ J=>J.elim) (fM.ke.E ha a5) dA.fits (d9.ext (aK.refl _ _) (Nat.le_trans iK.nx dA.nx))).mono ?_;have cQ:lk (CH y1.s).h i=some b:=hb;rw[VB]at cQ;exact a3.bd i b (Km cQ).1;rintro e n9 ⟨y2,CV,u',v',cv,rfl,⟨rfl,_⟩,aR,fX,_,_,B9,_,_⟩;simp only[aD]at B9;obtain⟨IY,rfl,f',tx⟩:=B9;have hv:=(EK us rs hu y2 IY).1 ⟨f',tx⟩;subst hv;have fc:cv=.tuple ⟨IY⟩:=by rw[<-fX.at];simp only[aH,gP,zE]
 subst fc;have wJ:∀b,b<w.heap.size->n9.heap[b]? = w.heap[b]?:=fun b aG=>aR.same b aG (hJ b);refine⟨x,m,.tup us,.tuple ⟨IY⟩,.tuple ⟨IY⟩,rfl,⟨rfl,hx⟩,⟨aK.refl _ _,zF _,fun m' eG=>?_,fun b h=>.inl h,fun b aG _=>wJ b aG,aR.size,aR.os,aR.tape,aR.output⟩,fun m' _=>by simp only[aH,gP,zE],hh,m9,by simp only[aD];exact⟨IY,rfl,((EK us IY hu x IY).2 rfl).1,((EK us IY hu x IY).2 rfl).2⟩,Ke.refl _ _,zF _⟩;have BI:=fH m' eG;exact⟨fun i b hb=>(BI.ok i b hb).world (wJ _ (BI.size hb)),BI.inj,BI.bd⟩
class fZ{X:Type}(c:X->List U)(n:outParam Nat):Prop where
 h:∀x,(c x).length=n
instance(k:IntKind):fZ (cI k) 1:=⟨kN k⟩
instance:fZ cB 1:=⟨X6⟩
instance:fZ cS 1:=⟨L8⟩
instance{X:Type}(c:X->List U):fZ (cL c) 1:=⟨G2 c⟩
abbrev U.iM{X:Type}(c:X->List U)(l:List X):U:=.isl false (l.map c)
abbrev U.i6(z:Int):U:=.int .i64 z
variable{P:Program}
variable{f:FuncId}
variable{args:List U}
variable{u:U}
theorem pC(h:bA P f args ⟨[],0⟩ (fun u' _=>u'=u/\b7 0 u'))[q:fD 0 args](O:Sg):bA P f args O (fun u' O'=>u'=u/\O'=O):=vd h O
theorem sI{X:Type}{a b:X}(h:some a=some b):a=b:=Option.some.inj h
class Nq(a b:Nat):Prop where
 h:Nat.beq a b=false
instance{b:Nat}:Nq 0 (b+1):=⟨rfl⟩
instance{b:Nat}:Nq (b+1) 0:=⟨rfl⟩
instance{a b:Nat}[q:Nq a b]:Nq (a+1) (b+1):=⟨q.h⟩
class AA(h:List (Nat×B))(K:Nat)(b:outParam B):Prop where
 h:gt h K=some b
instance(priority:=low){K k:Nat}{x b:B}{t:List (Nat×B)}[n:Nq k K][g:AA t K b]:AA ((k,x)::t) K b:=⟨by simp only[gt,n.h,zD,g.h]⟩
instance{K:Nat}{b:B}{t:List (Nat×B)}:AA ((K,b)::t) K b:=⟨by simp[gt]⟩
class Up(b:B):Prop where
 h:∀es cl,b≠.map es cl
instance{l:List U}{e:TypeId}:Up (.row l e):=⟨fun _ _=>nofun⟩
instance{l:List U}{e:TypeId}{s t:Nat}:Up (.vec l e s t):=⟨fun _ _=>nofun⟩
class Ck(n sz:Nat)(l:List U)(r:outParam (List (List U))):Prop where
 h:n*sz<=l.length
 e:cA sz n l=r
instance{s:Nat}{l:List U}:Ck 0 s l []:=⟨by omega,by simp[cA]⟩
instance{n:Nat}{a:U}{l:List U}{r:List (List U)}[q:Ck n 1 l r]:Ck (n+1) 1 (a::l) ([a]::r):=⟨by have:=q.h;simp;omega,by have:=q.e;simp[cA,this]⟩
instance{n:Nat}{a b:U}{l:List U}{r:List (List U)}[q:Ck n 2 l r]:Ck (n+1) 2 (a::b::l) ([a,b]::r):=⟨by have:=q.h;simp;omega,by have:=q.e;simp[cA,this]⟩
instance{n:Nat}{a b c:U}{l:List U}{r:List (List U)}[q:Ck n 3 l r]:Ck (n+1) 3 (a::b::c::l) ([a,b,c]::r):=⟨by have:=q.h;simp;omega,by have:=q.e;simp[cA,this]⟩
instance(priority:=low){X:Type}{c:X->List U}{x:X}{sz:Nat}[q:fZ c sz]:Ck 1 sz (c x) [c x]:=⟨by have:=q.h x;omega,by have:=q.h x;simp[cA,<-this]⟩
class tM(K:Nat)(b:B)(sz:Nat)(u:U)(u':outParam U):Prop where
 h:fz K b sz u=u'
class II(K:Nat)(b:B)(sz:Nat)(l:List U)(l':outParam (List U)):Prop where
 h:lA K b sz l=l'
section
variable{K:Nat}{b:B}{sz:Nat}
instance(priority:=low){l:List U}[q:fD K l]:II K b sz l l:=⟨vK b sz l q.h⟩
instance:II K b sz [] []:=⟨PH K b sz⟩
instance{u u':U}{l l':List U}[a:tM K b sz u u'][q:II K b sz l l']:II K b sz (u::l) (u'::l'):=⟨by rw[JI,a.h,q.h]⟩
instance{k:IntKind}{z:Int}:tM K b sz (.int k z) (.int k z):=⟨P6 K b sz k z⟩
instance{x:Bool}:tM K b sz (.bool x) (.bool x):=⟨PF K b sz x⟩
instance{x:List UInt8}:tM K b sz (.str x) (.str x):=⟨P4 K b sz x⟩
instance:tM K b sz .nils .nils:=⟨PD K b sz⟩
instance{t:Bool}{l:List (List U)}:tM K b sz (.isl t l) (.isl t l):=⟨P5 K b sz t l⟩
instance{l l':List U}[q:II K b sz l l']:tM K b sz (.agg l) (.agg l'):=⟨by rw[P7,q.h]⟩
instance{l l':List U}[q:II K b sz l l']:tM K b sz (.tup l) (.tup l'):=⟨by rw[P0,q.h]⟩
instance{f:Fn}{a a' c c':List U}[q:II K b sz a a'][r:II K b sz c c']:tM K b sz (.fn f a c) (.fn f a' c'):=⟨by rw[OV,q.h,r.h]⟩
instance{k st off n:Nat}[q:Nq k K]:tM K b sz (.vl k st off n) (.vl k st off n):=⟨Yx q.h b sz st off n⟩
instance{k off n c:Nat}[q:Nq k K]:tM K b sz (.sl k off n c) (.sl k off n c):=⟨Yy q.h b sz off n c⟩
instance{k st off:Nat}[q:Nq k K]:tM K b sz (.ptr k st off) (.ptr k st off):=⟨Yz q.h b sz st off⟩
end
instance{X:Type}{c:X->List U}{sz s K st:Nat}{l:List X}{e:TypeId}[q:fZ c sz]:tM K (.vec (l.map c).flatten e sz st) s (.vl K st 0 l.length) (.isl false (l.map c)):=⟨vi q.h l K s e st⟩
instance{K sz n:Nat}{l:List U}{e:TypeId}{r:List (List U)}[q:Ck n sz l r]:tM K (.row l e) sz (.sl K 0 n n) (.isl false r):=⟨by rw[RL K l e sz n q.h,q.e]⟩
instance{K sz:Nat}{l:List U}{e:TypeId}:tM K (.row l e) sz (.ptr K 0 0) (.iptr l):=⟨Si K l e sz⟩
instance{K sz:Nat}{b:B}{u u':U}[q:tM K b sz u u']:tM K b sz (pG [u]) u':=⟨q.h⟩
instance{K sz:Nat}{b:B}{u v u':U}{l:List U}[q:tM K b sz (.tup (u::v::l)) u']:tM K b sz (pG (u::v::l)) u':=⟨q.h⟩
class re(K:Nat)(b:B)(sz:Nat)(x:B)(x':outParam B):Prop where
 h:fzB K b sz x=x'
instance{K sz:Nat}{b:B}{l l':List U}{e:TypeId}[q:II K b sz l l']:re K b sz (.row l e) (.row l' e):=⟨by rw[fzB,q.h]⟩
instance{K sz:Nat}{b:B}{l l':List U}{e:TypeId}{s st:Nat}[q:II K b sz l l']:re K b sz (.vec l e s st) (.vec l' e s st):=⟨by rw[fzB,q.h]⟩
class SS(K:Nat)(b:B)(sz:Nat)(h:List (Nat×B))(h':outParam (List (Nat×B))):Prop where
 h:fzH K b sz h=h'
section
variable{K:Nat}{b:B}{sz:Nat}
instance:SS K b sz [] []:=⟨rfl⟩
instance(priority:=low){k:Nat}{c c':B}{h h':List (Nat×B)}[n:Nq k K][p:re K b sz c c'][q:SS K b sz h h']:SS K b sz ((k,c)::h) ((k,c')::h'):=⟨by simp only[fzH,n.h,zD,p.h,q.h]⟩
instance{c:B}{h h':List (Nat×B)}[q:SS K b sz h h']:SS K b sz ((K,c)::h) h':=⟨by simp[fzH,q.h]⟩
end
class kw(K:Nat)(b:B)(sz:Nat)(l:List (Nat×U))(l':outParam (List (Nat×U))):Prop where
 h:fzS K b sz l=l'
instance{K:Nat}{b:B}{sz:Nat}:kw K b sz [] []:=⟨rfl⟩
instance{K:Nat}{b:B}{sz i:Nat}{u u':U}{l l':List (Nat×U)}[a:tM K b sz u u'][q:kw K b sz l l']:kw K b sz ((i,u)::l) ((i,u')::l'):=⟨by rw[fzS,a.h,q.h]⟩
variable{n0:Nat}
variable{nx:Nat}
variable{h:List (Nat×B)}
variable{h':List (Nat×B)}
variable{b:B}
theorem lT{tm tm':List U}(K sz:Nat)[g:AA h K b][m:Up b][t:II K b sz tm tm'][q:SS K b sz h h']:Gh n0 tm ⟨h,nx⟩ tm' ⟨h',nx⟩:=Gh.fz K b sz g.h m.h t.h q.h
variable{n:Nat}
variable{l:List (Nat×U)}
variable{l':List (Nat×U)}
theorem DS(K sz:Nat)[g:AA h K b][m:Up b][t:kw K b sz l l'][q:SS K b sz h h']:Gh n0 (fr n l) ⟨h,nx⟩ (fr n l') ⟨h',nx⟩:=Gh.fzS K b sz g.h m.h t.h q.h
class Ap(h:List (Nat×B))(K:Nat)(b:B)(h':outParam (List (Nat×B))):Prop where
 h:ug h K b=h'
instance{K:Nat}{x b:B}{t:List (Nat×B)}:Ap ((K,x)::t) K b ((K,b)::t):=⟨by simp[ug]⟩
instance(priority:=low){K k:Nat}{x b:B}{t t':List (Nat×B)}[n:Nq k K][g:Ap t K b t']:Ap ((k,x)::t) K b ((k,x)::t'):=⟨by simp only[ug,n.h,zD,g.h]⟩
class SO(l:List U)(l':outParam (List U)):Prop where
 h:pS l l'
instance:SO [] []:=⟨.nil⟩
instance(priority:=low){u:U}{l l':List U}[q:SO l l']:SO (u::l) (u::l'):=⟨.cons (.refl _) q.h⟩
instance{l l':List U}[q:SO l l']:SO (.nils::l) (.isl false []::l'):=⟨.cons (.nil false) q.h⟩
theorem Gh.rowC{tm:List U}{q q':List U}{e:TypeId}(K:Nat)[g:AA h K (.row q e)][w:SO q q'][u:Ap h K (.row q' e) h'](hk:okL q'=true:=by exact rfl):Gh n0 tm ⟨h,nx⟩ tm ⟨h',nx⟩:=by
 have:=Gh.rowW (n0:=n0) (tm:=tm) (O:=⟨h,nx⟩) g.h hk w.h;simp only[u.h]at this;exact this
theorem NZ:0<=n:=Nat.zero_le n
theorem NL{a b:Nat}(h:Nat.ble a b=true:=by exact rfl):a<=b:=zY h
theorem sB{a b:Nat}(h:Nat.ble a b=true):a<=b:=zY h
variable{T:Tb}
variable{fn:Func}
variable{k:Code}
variable{O:Sg}
variable{R:U->Sg->Prop}
theorem nw[t:TbP P T](n:Nat)(hf:T.fn f=some fn)(h:WPU (PG.of P) O.nx k (fr n []) O fun e tm' O'=>(e=.normal\/e=.ret)/\∃l,nM T O' tm' fn.results.toList=some l/\∃u' bT,O.nx<=bT.nx/\Gh O.nx [pG l] O' [u'] bT/\R u' bT)(hn:fn.ntmps=n:=by exact rfl)(hb:fn.body=some k:=by exact rfl)(hk:Nat.ble 0 n=true:=by exact rfl):bA P f [] O R:=Av t.ok hf hb (c9 (by rw[hn];exact KF (sB hk)) (zF _) h)
theorem kH[t:TbP P T]{a:U}(n:Nat)(hf:T.fn f=some fn)(h:WPU (PG.of P) O.nx k (fr n [(0,a)]) O fun e tm' O'=>(e=.normal\/e=.ret)/\∃l,nM T O' tm' fn.results.toList=some l/\∃u' bT,O.nx<=bT.nx/\Gh O.nx [pG l] O' [u'] bT/\R u' bT)(hn:fn.ntmps=n:=by exact rfl)(hb:fn.body=some k:=by exact rfl)(hk:Nat.ble 1 n=true:=by exact rfl):bA P f [a] O R:=Av t.ok hf hb (c9 (by rw[hn];exact KF (sB hk)) (zF _) h)
theorem gO[t:TbP P T]{a b:U}(n:Nat)(hf:T.fn f=some fn)(h:WPU (PG.of P) O.nx k (fr n [(0,a),(1,b)]) O fun e tm' O'=>(e=.normal\/e=.ret)/\∃l,nM T O' tm' fn.results.toList=some l/\∃u' bT,O.nx<=bT.nx/\Gh O.nx [pG l] O' [u'] bT/\R u' bT)(hn:fn.ntmps=n:=by exact rfl)(hb:fn.body=some k:=by exact rfl)(hk:Nat.ble 2 n=true:=by exact rfl):bA P f [a,b] O R:=Av t.ok hf hb (c9 (by rw[hn];exact KF (sB hk)) (zF _) h)
variable{c:U}
theorem KA[t:TbP P T]{a b:U}(n:Nat)(hf:T.fn f=some fn)(h:WPU (PG.of P) O.nx k (fr n [(0,a),(1,b),(2,c)]) O fun e tm' O'=>(e=.normal\/e=.ret)/\∃l,nM T O' tm' fn.results.toList=some l/\∃u' bT,O.nx<=bT.nx/\Gh O.nx [pG l] O' [u'] bT/\R u' bT)(hn:fn.ntmps=n:=by exact rfl)(hb:fn.body=some k:=by exact rfl)(hk:Nat.ble 3 n=true:=by exact rfl):bA P f [a,b,c] O R:=Av t.ok hf hb (c9 (by rw[hn];exact KF (sB hk)) (zF _) h)
theorem nr[t:TbP P T]{a b d:U}(n:Nat)(hf:T.fn f=some fn)(h:WPU (PG.of P) O.nx k (fr n [(0,a),(1,b),(2,c),(3,d)]) O fun e tm' O'=>(e=.normal\/e=.ret)/\∃l,nM T O' tm' fn.results.toList=some l/\∃u' bT,O.nx<=bT.nx/\Gh O.nx [pG l] O' [u'] bT/\R u' bT)(hn:fn.ntmps=n:=by exact rfl)(hb:fn.body=some k:=by exact rfl)(hk:Nat.ble 4 n=true:=by exact rfl):bA P f [a,b,c,d] O R:=Av t.ok hf hb (c9 (by rw[hn];exact KF (sB hk)) (zF _) h)
theorem bg5[t:TbP P T]{a b d e:U}(n:Nat)(hf:T.fn f=some fn)(h:WPU (PG.of P) O.nx k (fr n [(0,a),(1,b),(2,c),(3,d),(4,e)]) O fun e tm' O'=>(e=.normal\/e=.ret)/\∃l,nM T O' tm' fn.results.toList=some l/\∃u' bT,O.nx<=bT.nx/\Gh O.nx [pG l] O' [u'] bT/\R u' bT)(hn:fn.ntmps=n:=by exact rfl)(hb:fn.body=some k:=by exact rfl)(hk:Nat.ble 5 n=true:=by exact rfl):bA P f [a,b,c,d,e] O R:=Av t.ok hf hb (c9 (by rw[hn];exact KF (sB hk)) (zF _) h)
class KB(u u':U):Prop where
 h:Wk u u'
class Uo(l l':List U):Prop where
 h:pS l l'
instance(priority:=low){u:U}:KB u u:=⟨.refl u⟩
instance:KB .nils (.isl false []):=⟨.nil false⟩
instance{l l':List U}[q:Uo l l']:KB (.agg l) (.agg l'):=⟨.agg q.h⟩
instance{l l':List U}[q:Uo l l']:KB (.tup l) (.tup l'):=⟨.tup q.h⟩
instance{u u':U}[q:KB u u']:KB (pG [u]) u':=⟨q.h⟩
instance{u v u':U}{l:List U}[q:KB (.tup (u::v::l)) u']:KB (pG (u::v::l)) u':=⟨q.h⟩
instance:Uo [] []:=⟨.nil⟩
instance{u u':U}{l l':List U}[a:KB u u'][q:Uo l l']:Uo (u::l) (u'::l'):=⟨.cons a.h q.h⟩
theorem lC{I:Nat->List U->Sg->Prop}{m n1:Nat}(hI:I m (fr n l') ⟨h',n1⟩)(ht:F7 l l':=by((repeat refine⟨rfl,?_⟩);exact trivial))(hs:Vx.cut n1 h=h':=by exact rfl)(h1:n0<=n1:=by first |exact Nat.zero_le _ |exact zY rfl)(h2:n1<=nx:=by exact zY rfl)[hb:BS n1 l'][hh:BH n1 h']:∃n' tm' O',n'<m+1/\I n' tm' O'/\n0<=O'.nx/\Gh n0 (fr n l) ⟨h,nx⟩ tm' O':=⟨m,_,_,zN _,hI,h1,Gh.toC ht hs h1 h2⟩
theorem xC{E:List U->Sg->Prop}{n1:Nat}(hE:E (fr n l') ⟨h',n1⟩)(ht:F7 l l':=by((repeat refine⟨rfl,?_⟩);exact trivial))(hs:Vx.cut n1 h=h':=by exact rfl)(h1:n0<=n1:=by first |exact Nat.zero_le _ |exact zY rfl)(h2:n1<=nx:=by exact zY rfl)[hb:BS n1 l'][hh:BH n1 h']:∃tm' O',E tm' O'/\n0<=O'.nx/\Gh n0 (fr n l) ⟨h,nx⟩ tm' O':=⟨_,_,hE,h1,Gh.toC ht hs h1 h2⟩
section
variable{T:Tb}{n:Nat}{l:List (Nat×U)}{O:Sg}{rs:List ResultVar}
theorem rT{us:List U}(hr:nM T O (fr n l) rs=some us)(hg:Gh 0 [pG us] O [u] ⟨[],0⟩)[q:BU 0 u]:(Exit.ret=.normal\/Exit.ret=.ret)/\∃l',nM T O (fr n l) rs=some l'/\∃u' bT,(⟨[],0⟩:Sg).nx<=bT.nx/\Gh (⟨[],0⟩:Sg).nx [pG l'] O [u'] bT/\u'=u/\b7 0 u':=⟨.inr rfl,us,hr,u,⟨[],0⟩,zF _,hg,rfl,q.h⟩
theorem rt1{a:Tmp}{t:List ResultVar}{v:U}(ht:rs=.tmp a::t)(h:bV n l (.tmp a)=some v)(h0:t=[])(hu:v=u)[q:BU 0 u]:(Exit.ret=.normal\/Exit.ret=.ret)/\∃l',nM T O (fr n l) rs=some l'/\∃u' bT,(⟨[],0⟩:Sg).nx<=bT.nx/\Gh (⟨[],0⟩:Sg).nx [pG l'] O [u'] bT/\u'=u/\b7 0 u':=by
 subst ht;subst h0;subst hu;exact rT (eO h dV) (vS _ rfl)
theorem J8{a b:Tmp}{t:List ResultVar}{v w:U}(ht:rs=.tmp a :: .tmp b::t)(h:bV n l (.tmp a)=some v)(h':bV n l (.tmp b)=some w)(h0:t=[])(hu : .tup [v,w]=u)[q:BU 0 u]:(Exit.ret=.normal\/Exit.ret=.ret)/\∃l',nM T O (fr n l) rs=some l'/\∃u' bT,(⟨[],0⟩:Sg).nx<=bT.nx/\Gh (⟨[],0⟩:Sg).nx [pG l'] O [u'] bT/\u'=u/\b7 0 u':=by
 subst ht;subst h0;subst hu;exact rT (eO h (eO h' dV)) (vS _ rfl)
end
theorem fR{u0:U}(K sz:Nat)[g:AA h K b][m:Up b][t:tM K b sz u0 u][q:SS K b sz h h'][p:BU 0 u]:Gh 0 [u0] ⟨h,nx⟩ [u] ⟨[],0⟩:=Gh.trans (lT K sz) (vS u rfl)
theorem wR{u0:U}[w:KB u0 u][p:BU 0 u]:Gh 0 [u0] O [u] ⟨[],0⟩:=Gh.trans (Gh.wk (.cons w.h .nil)) (vS u rfl)
section
variable{C:PG}{n0 n:Nat}{Q:Exit->List U->Sg->Prop}{l:List (Nat×U)}{O:Sg}
theorem cF{H:Type}{c:Operand}{p q:Code}{t:Bool}{a b r:Option H}(J:cond t a b=r)(h1:t=true->a=r->WPU C n0 p (fr n l) O Q)(h2:t=false->b=r->WPU C n0 q (fr n l) O Q)(hc:bV n l c=some (.bool t):=by exact rfl):WPU C n0 (.cond c p q) (fr n l) O Q:=vV hc (fun h=>h1 h (ZQ h J)) (fun h=>h2 h (ZR h J))
end
class IG(op:BinOp)(k:IntKind)(a:Int)(k':IntKind)(b:Int)(r:outParam Value):Prop where
 h:jI op k a k' b=some r
section
variable{k:IntKind}{a b:Int}
instance:IG .add k a k b (.int k (k.wrap (a+b))):=⟨XN k a b⟩
instance:IG .sub k a k b (.int k (k.wrap (a-b))):=⟨n_ k a b⟩
instance:IG .mul k a k b (.int k (k.wrap (a*b))):=⟨XH k a b⟩
instance:IG .eql k a k b (.bool (a==b)):=⟨XM k a b⟩
instance:IG .neq k a k b (.bool (a != b)):=⟨XG k a b⟩
instance:IG .lss k a k b (.bool (decide (a<b))):=⟨XI k a b⟩
instance:IG .leq k a k b (.bool (decide (a<=b))):=⟨XJ k a b⟩
instance:IG .gtr k a k b (.bool (decide (a>b))):=⟨XK k a b⟩
instance:IG .geq k a k b (.bool (decide (a>=b))):=⟨XL k a b⟩
end
class eZ(T:Tb)(t:TypeId)(d:outParam TypeDesc):Prop where
 h:T.und t=some d
class SzC(T:Tb)(t:TypeId)(n:outParam Nat):Prop where
 h:cC T t=some n
section
variable{P:Program}{T:Tb}{aA r:List Oper}{o:Oper}{n:Nat}{l:List (Nat×U)}{O O':Sg}{u:U}
variable{d:Tmp}
theorem wT{j:Nat}{b:Bool}(hg:o.guard=some (j,true))(hj:yO aA j=some d)(hl:bV n l (.tmp d)=some (.bool b))(hb:b=true):cP aA (fr n l) o=some true:=xI hg hj hl hb
theorem wF{j:Nat}{b:Bool}(hg:o.guard=some (j,false))(hj:yO aA j=some d)(hl:bV n l (.tmp d)=some (.bool b))(hb:b=false):cP aA (fr n l) o=some true:=xI hg hj hl hb
theorem wA{A:Prop}(h:A:=by first |exact rfl |exact Go.Vx.wT rfl rfl rfl (by first |with_reducible_and_instances assumption |exact rfl)|exact Go.Vx.wF rfl rfl rfl (by first |with_reducible_and_instances assumption |exact rfl)):A:=h
variable{C:PG}
variable{K:List U->Sg->Prop}
theorem RS.w(he:o.dst=some d)(h:bO T O (fr n l) o.op=some (u,O'))(hk:RU C T aA r (fr n ((d,u)::l)) O' K)(hw:cP aA (fr n l) o=some true:=by exact Go.Vx.wA)(hd:Nat.blt d n=true:=by exact rfl):RU C T aA (o::r) (fr n l) O K:=RS.op hw h he hd hk
theorem RD.w{aY:List RK}{K:List RK->List U->Sg->Prop}(he:o.dst=some d)(h:bO T O (fr n l) o.op=some (u,O))(hk:RH P T aA r (fr n ((d,u)::l)) O ((1,⟨fr n l,o,u,false,false,O,O⟩)::aY) K)(hw:cP aA (fr n l) o=some true:=by exact Go.Vx.wA)(hd:Nat.blt d n=true:=by exact rfl):RH P T aA (o::r) (fr n l) O aY K:=RD.look hw h he hd hk
def If(n:Nat)(l:List (Nat×U))(o:Oper):Option (Tmp×FuncId×List U):=match o.dst,o.op with
 |some d,.call c=>match c.callee with
  |.value f=>match bV n l f with
   |some (.fn (.func g) [] [])=>match KJ n l c.args.toList with
    |some a7=>some (d,g,a7)|none=>none
   |_=>none
  |_=>none
 |_,_=>none
theorem Cm{g:FuncId}{a7:List U}(h:If n l o=some (d,g,a7))(hg:T.fn g=some fn)(hb:fn.body.isSome=true):o.dst=some d/\jL T (fr n l) o.op=some (g,a7):=by
 unfold If at h;split at h
 ·next d' c h1 h2=>
  split at h
  ·next f h3=>
   split at h
   ·next g' h4=>
    split at h
    ·next as' h5=>simp only[zA,zB]at h;obtain⟨rfl,rfl,rfl⟩:=h;exact⟨h1,by rw[h2];exact gG h3 h4 hg hb h5 (by simp)⟩
    cases h
   cases h
  cases h
 cases h
theorem aP(h:If n l o=some (d,f,args))(kE:bA C.prog f args O (fun u' O'=>u'=u/\O'=O))(hg:T.fn f=some fn)(hk:RU C T aA r (fr n ((d,u)::l)) O K)(hb:fn.body.isSome=true:=by exact rfl)(hw:cP aA (fr n l) o=some true:=by exact Go.Vx.wA)(hd:Nat.blt d n=true:=by exact rfl):RU C T aA (o::r) (fr n l) O K:=RS.call hw (Cm h hg hb).2 kE (Cm h hg hb).1 hd hk
theorem DQ{args':List U}{O1:Sg}(h:If n l o=some (d,f,args))(hG:Gh O.nx args O args' O1)(kE:bA C.prog f args' O1 (fun u' O'=>u'=u/\O'=O1))(hg:T.fn f=some fn)(hk:RU C T aA r (fr n ((d,u)::l)) O1 K)(hn:O.nx<=O1.nx:=by exact zY rfl)(hb:fn.body.isSome=true:=by exact rfl)(hw:cP aA (fr n l) o=some true:=by exact Go.Vx.wA)(hd:Nat.blt d n=true:=by exact rfl):RU C T aA (o::r) (fr n l) O K:=RS.fcall hw (Cm h hg hb).2 hG hn kE (Cm h hg hb).1 hd hk
theorem iR{aY:List RK}{K:List RK->List U->Sg->Prop}(h:If n l o=some (d,f,args))(kE:∀s,bA P f args s (fun u' O'=>u'=u/\O'=s))(hg:T.fn f=some fn)(hk:RH P T aA r (fr n ((d,u)::l)) O ((0,⟨fr n l,o,u,false,false,O,O⟩)::aY) K)(hb:fn.body.isSome=true:=by exact rfl)(hw:cP aA (fr n l) o=some true:=by exact Go.Vx.wA)(hd:Nat.blt d n=true:=by exact rfl):RH P T aA (o::r) (fr n l) O aY K:=RD.free hw (Cm h hg hb).2 kE (Cm h hg hb).1 hd hk
end
theorem vw{args':List U}{v:Value}{O1:Sg}(h:bA P f args ⟨[],0⟩ (fun u' _=>u'=u/\b7 0 u'))(hg:Gh 0 args' O args O1)[ha:fD 0 args](hu:toV u=some v:=by simp only[toV,eL,okL,okC,zC]<;>rfl)(zE:∀m,aH m v=v:=by exact fun m=>by simp[aH,aI]):bA P f args' O (fun u' O'=>u'=u/\O'=O):=bA.view h ha.h hu zE hg
structure Hd(B:Prop):Prop where
 h:B
section
variable{C:PG}{n0:Nat}{tm:List U}{O:Sg}{Q:Exit->List U->Sg->Prop}
theorem rg0[t:kl C T]{i:Nat}{aA:Array Oper}{L:List Oper}(h:RU C T L L tm O (fun tm' O'=>Q .normal tm' O'))(hl:aA.toList=L):WPU C n0 (.region i aA false) tm O Q:=WPU.region t.ok (by rw[hl];exact h)
theorem rg1[t:kl C T]{i:Nat}{aA:Array Oper}{o:Oper}{r:List Oper}(hl:aA.toList=o::r)(h:RU C T (o::r) (o::r) tm O (fun tm' O'=>Q .normal tm' O')):WPU C n0 (.region i aA false) tm O Q:=rg0 h hl
end
section
variable{C:PG}{T:Tb}{aA r:List Oper}{o:Oper}{n:Nat}{l:List (Nat×U)}{O O':Sg}{u:U}{K:List U->Sg->Prop}{d:Tmp}
theorem RS.nt{j:Nat}{b:Bool}{d':Tmp}(hg:o.guard=some (j,true))(hj:yO aA j=some d')(hl:bV n l (.tmp d')=some (.bool b))(hb:b=false)(he:o.dst=some d)(hd:Nat.blt d n=true)(hk:RU C T aA r (fr n ((d,.tup [])::l)) O K):RU C T aA (o::r) (fr n l) O K:=RS.no (Ut hg hj hl hb) he hd hk
theorem RS.nf{j:Nat}{b:Bool}{d':Tmp}(hg:o.guard=some (j,false))(hj:yO aA j=some d')(hl:bV n l (.tmp d')=some (.bool b))(hb:b=true)(he:o.dst=some d)(hd:Nat.blt d n=true)(hk:RU C T aA r (fr n ((d,.tup [])::l)) O K):RU C T aA (o::r) (fr n l) O K:=RS.no (Ut hg hj hl hb) he hd hk
variable{x:Operand}
theorem RS.mo(ho:o.op=.move x)(hx:bV n l x=some u)(he:o.dst=some d)(hw:cP aA (fr n l) o=some true)(hd:Nat.blt d n=true)(hk:RU C T aA r (fr n ((d,u)::l)) O K):RU C T aA (o::r) (fr n l) O K:=RS.w he (by rw[ho];exact g8 hx) hk hw hd
theorem RS.in{op:BinOp}{t t':TypeId}{y:Operand}{k k':IntKind}{a b:Int}{v:Value}(ho:o.op=.binOp op t x y t')(hx:bV n l x=some (.int k a))(hy:bV n l y=some (.int k' b))[h:IG op k a k' b v](hr:iH v=some u)(he:o.dst=some d)(hw:cP aA (fr n l) o=some true)(hd:Nat.blt d n=true)(hk:RU C T aA r (fr n ((d,u)::l)) O K):RU C T aA (o::r) (fr n l) O K:=RS.w he (by rw[ho];exact vH hx hy h.h hr) hk hw hd
theorem RS.p1{c a b:Operand}{t:Bool}(ho:o.op=.pick c a b)(hc:bV n l c=some (.bool t))(ht:t=true)(h:bV n l a=some u)(he:o.dst=some d)(hw:cP aA (fr n l) o=some true)(hd:Nat.blt d n=true)(hk:RU C T aA r (fr n ((d,u)::l)) O K):RU C T aA (o::r) (fr n l) O K:=RS.w he (by rw[ho];exact qwd hc ht h) hk hw hd
theorem RS.p0{c a b:Operand}{t:Bool}(ho:o.op=.pick c a b)(hc:bV n l c=some (.bool t))(ht:t=false)(h:bV n l b=some u)(he:o.dst=some d)(hw:cP aA (fr n l) o=some true)(hd:Nat.blt d n=true)(hk:RU C T aA r (fr n ((d,u)::l)) O K):RU C T aA (o::r) (fr n l) O K:=RS.w he (by rw[ho];exact qwc hc ht h) hk hw hd
theorem RS.ex{i:Nat}{q:List U}(ho:o.op=.extract x i)(hx:bV n l x=some (.tup q))(h:nth q i=some u)(he:o.dst=some d)(hw:cP aA (fr n l) o=some true)(hd:Nat.blt d n=true)(hk:RU C T aA r (fr n ((d,u)::l)) O K):RU C T aA (o::r) (fr n l) O K:=RS.w he (by rw[ho];exact g_ hx h) hk hw hd
theorem RS.un{op:UnOp}{t:TypeId}{v:U}{v1 v2:Value}(ho:o.op=.unOp op t x)(hx:bV n l x=some v)(h:toV v=some v1)(hu:OD op v1=some v2)(hq:iH v2=some u)(he:o.dst=some d)(hw:cP aA (fr n l) o=some true)(hd:Nat.blt d n=true)(hk:RU C T aA r (fr n ((d,u)::l)) O K):RU C T aA (o::r) (fr n l) O K:=RS.w he (by rw[ho];exact QC hx h hu hq) hk hw hd
theorem RS.a(ho:o.op=.assign x)(hx:bV n l x=some u)(he:o.dst=some d)(hw:cP aA (fr n l) o=some true)(hd:Nat.blt d n=true)(hk:RU C T aA r (fr n ((d,u)::l)) O K):RU C T aA (o::r) (fr n l) O K:=RS.as hw ho hx he hk hd
end
class j8(T:Tb)(t:TypeId)(a b:outParam Nat)(z:outParam Value):Prop where
 h:T.inf t=some (a,b,z)
instance{T:Tb}{t:TypeId}{a b:Nat}{z:Value}[q:j8 T t a b z]:SzC T t a:=⟨aW q.h⟩
class oK(T:Tb)(t:TypeId)(zu:outParam (List U)):Prop where
 h:∃a b z,T.inf t=some (a,b,z)/\pH z.cells.toList=some zu/\okL zu=true
class BV(u:U)(cs:outParam (List U)):Prop where
 h:vJ u=some cs
instance{l:List U}:BV (.agg l) l:=⟨rfl⟩
instance{k:IntKind}{z:Int}:BV (.int k z) [.int k z]:=⟨rfl⟩
instance{b:Bool}:BV (.bool b) [.bool b]:=⟨rfl⟩
instance{s:List UInt8}:BV (.str s) [.str s]:=⟨rfl⟩
instance{t:Bool}{l:List (List U)}:BV (.isl t l) [.isl t l]:=⟨rfl⟩
instance{k st off:Nat}:BV (.ptr k st off) [.ptr k st off]:=⟨rfl⟩
instance{k st off n:Nat}:BV (.vl k st off n) [.vl k st off n]:=⟨rfl⟩
instance{k off n c:Nat}:BV (.sl k off n c) [.sl k off n c]:=⟨rfl⟩
instance{k:Nat}:BV (.map k) [.map k]:=⟨rfl⟩
instance{f:Fn}{a c:List U}:BV (.fn f a c) [.fn f a c]:=⟨rfl⟩
class SZ(q:List U)(off n:Nat)(cs:outParam (List U)):Prop where
 h:jX q off n=some cs
instance{q:List U}:SZ q 0 0 []:=⟨by simp[jX]⟩
instance{a:U}{q cs:List U}{n:Nat}[s:SZ q 0 n cs]:SZ (a::q) 0 (n+1) (a::cs):=⟨by
 have:=s.h;unfold jX at*;split at this
 ·next h=>cases this;rw[if_pos (by simp at*;omega)];simp
 cases this⟩
instance(priority:=low){X:Type}{c:X->List U}{x:X}{sz:Nat}[q:fZ c sz]:SZ (c x) 0 sz (c x):=⟨by
 unfold jX;rw[if_pos (by rw[q.h];omega),List.drop_zero,zW (by rw[q.h];exact zF _)]⟩
class Ar(q:List U)(n:Nat):Prop where
 h:q.length=n
instance:Ar [] 0:=⟨rfl⟩
instance{a:U}{q:List U}{n:Nat}[s:Ar q n]:Ar (a::q) (n+1):=⟨by simp[s.h]⟩
instance(priority:=low){X:Type}{c:X->List U}{x:X}{sz:Nat}[q:fZ c sz]:Ar (c x) sz:=⟨q.h x⟩
class O0(q:List U)(off:Nat)(cs:List U)(q':outParam (List U)):Prop where
 h:oM q off cs=some q'
instance{q:List U}:O0 q 0 [] q:=⟨by simp[oM]⟩
instance{a b:U}{q cs q':List U}[s:O0 q 0 cs q']:O0 (a::q) 0 (b::cs) (b::q'):=⟨by
 have:=s.h;unfold oM at*;split at this
 ·next h=>cases this;rw[if_pos (by simp at*;omega)];simp
 cases this⟩
instance{a:U}{q cs q':List U}{o:Nat}[s:O0 q o cs q']:O0 (a::q) (o+1) cs (a::q'):=⟨by
 have:=s.h;unfold oM at*;split at this
 ·next h=>cases this;rw[if_pos (by simp at*;omega)];simp[show o+1+cs.length=(o+cs.length)+1 by omega]
 cases this⟩
instance(priority:=low){X:Type}{c:X->List U}{x:X}{sz:Nat}{q:List U}[s:fZ c sz][t:Ar q sz]:O0 q 0 (c x) (c x):=⟨by
 unfold oM;have h1:=s.h x;have h2:=t.h;rw[if_pos (by omega),List.drop_eq_nil_of_le (by omega)];simp⟩
class kz(a b:List U)(c:outParam (List U)):Prop where
 h:a++b=c
instance{b:List U}:kz [] b b:=⟨rfl⟩
instance{x:U}{a b c:List U}[s:kz a b c]:kz (x::a) b (x::c):=⟨by rw[List.cons_append,s.h]⟩
class ko(pl:List (Nat×Nat))(i:Nat)(o s:outParam Nat):Prop where
 h:nth pl i=some (o,s)
instance{o s:Nat}{pl:List (Nat×Nat)}:ko ((o,s)::pl) 0 o s:=⟨rfl⟩
instance{a:Nat×Nat}{i o s:Nat}{pl:List (Nat×Nat)}[q:ko pl i o s]:ko (a::pl) (i+1) o s:=⟨q.h⟩
variable{zu:List U}
variable{q':List U}
variable{cs:List U}
variable{s:Nat}
variable{qs:List (Nat×U)}
theorem A_{place:Nat->Option (Nat×Nat)}{c0:List U}{i o:Nat}{v:U}(hp:place i=some (o,s))(hc:vJ v=some c0)(hl:c0.length=s)(hq:oM zu o c0=some q')(hr:tV place q' qs=some cs):tV place zu ((i,v)::qs)=some cs:=by
 have:Nat.beq c0.length s=true:=by simp[beq_eq,hl]
 simp only[tV,hp,hc,this,zC,hq,hr]
class ky(pl:List (Nat×Nat))(zu:List U)(qs:List (Nat×U))(cs:outParam (List U)):Prop where
 h:tV (nth pl) zu qs=some cs
instance{pl:List (Nat×Nat)}{zu:List U}:ky pl zu [] zu:=⟨rfl⟩
instance{pl:List (Nat×Nat)}{zu q' cs c0:List U}{i o s:Nat}{v:U}{qs:List (Nat×U)}[p:ko pl i o s][c:BV v c0][l:Ar c0 s][q:O0 zu o c0 q'][r:ky pl q' qs cs]:ky pl zu ((i,v)::qs) cs:=⟨A_ p.h c.h l.h q.h r.h⟩
class kq(a b:Nat)(c:outParam Nat):Prop where
 h:a*b=c
instance{b:Nat}:kq 0 b 0:=⟨Nat.zero_mul b⟩
instance{b:Nat}:kq 1 b b:=⟨Nat.one_mul b⟩
instance{a:Nat}:kq (a+2) 1 (a+2):=⟨Nat.mul_one _⟩
class kx(s:Nat)(zu:List U)(qs:List (Nat×U))(cs:outParam (List U)):Prop where
 h:tV (fun i=>some (i*s,s)) zu qs=some cs
instance{s:Nat}{zu:List U}:kx s zu [] zu:=⟨rfl⟩
instance{zu q' cs c0:List U}{i o s:Nat}{v:U}{qs:List (Nat×U)}[m:kq i s o][c:BV v c0][l:Ar c0 s][q:O0 zu o c0 q'][r:kx s q' qs cs]:kx s zu ((i,v)::qs) cs:=⟨A_ (by rw[m.h]) c.h l.h q.h r.h⟩
class kh(z:List U)(k:Nat)(zs:outParam (List U)):Prop where
 h:uK z k=zs
instance{z:List U}:kh z 0 []:=⟨rfl⟩
instance{z a b:List U}{k:Nat}[q:kh z k a][p:kz z a b]:kh z (k+1) b:=⟨by
 have:=q.h;have:=p.h;simp only[uK,List.replicate_succ,List.flatten_cons]at*;simp_all⟩
class DeC{X:Type}(c:X->List U)(cs:List U)(x:outParam X):Prop where
 h:c x=cs
instance{k:IntKind}{z:Int}:DeC (cI k) [.int k z] z:=⟨rfl⟩
instance{s:List UInt8}:DeC cS [.str s] s:=⟨rfl⟩
instance{X:Type}{c:X->List U}{l:List X}:DeC (cL c) [.isl false (l.map c)] l:=⟨rfl⟩
instance(priority:=low){X:Type}{c:X->List U}{x:X}:DeC c (c x) x:=⟨rfl⟩
instance(priority:=low){X:Type}{c:X->List U}{x:X}:SO (c x) (c x):=⟨pS.refl _⟩
class xB(T:Tb)(t:TypeId)(zu:outParam (List U))(pl:outParam (List (Nat×Nat))):Prop where
 h:rg T t zu pl
class SuC(a:Nat)(b:outParam Nat):Prop where
 h:a+1=b
instance:SuC 0 1:=⟨rfl⟩
instance:SuC 1 2:=⟨rfl⟩
instance:SuC 2 3:=⟨rfl⟩
instance:SuC 3 4:=⟨rfl⟩
instance:SuC 4 5:=⟨rfl⟩
instance:SuC 5 6:=⟨rfl⟩
instance:SuC 6 7:=⟨rfl⟩
instance:SuC 7 8:=⟨rfl⟩
instance:SuC 8 9:=⟨rfl⟩
instance:SuC 9 10:=⟨rfl⟩
instance:SuC 10 11:=⟨rfl⟩
instance:SuC 11 12:=⟨rfl⟩
instance:SuC 12 13:=⟨rfl⟩
instance:SuC 13 14:=⟨rfl⟩
class AdC(a b:Nat)(c:outParam Nat):Prop where
 h:a+b=c
instance{b:Nat}:AdC 0 b b:=⟨Nat.zero_add b⟩
class kp(a:Nat)(b:outParam Nat):Prop where
 h:a+1=b
instance{a b:Nat}[q:SuC a b]:kp a b:=⟨q.h⟩
instance(priority:=low){a:Nat}:kp a (a+1):=⟨rfl⟩
section
variable{T:Tb}{n:Nat}{l:List (Nat×U)}{h h':List (Nat×B)}{nx nx':Nat}{u v w:U}{op:Op}
variable{e:TypeId}
theorem oAl(ho:op=.alloc e)[z:oK T e zu][hn:SuC nx nx']:bO T ⟨h,nx⟩ (fr n l) op=some (.ptr nx 0 0,⟨(nx,.row zu e)::h,nx'⟩):=by
 subst ho;have uR:=hn.h;subst uR;obtain⟨a,b,q,h1,h2,h3⟩:=z.h;exact z46 h1 h2 h3
variable{x:Operand}
theorem oBx(ho:op=.box e x)(hx:bV n l x=some v)[c:BV v cs](hk:okL cs=true)[hn:SuC nx nx']:bO T ⟨h,nx⟩ (fr n l) op=some (.ptr nx 0 0,⟨(nx,.row cs e)::h,nx'⟩):=by
 subst ho;have uR:=hn.h;subst uR;exact WV hx c.h hk
variable{t:TypeId}
variable{a:Operand}
variable{k:Nat}
variable{off:Nat}
variable{sz:Nat}
variable{q:List U}
theorem oSt(ho:op=.store t a x)(ha:bV n l a=some (.ptr k 0 off))(hx:bV n l x=some v)[g:AA h k (.row q e)][s:SzC T t sz][c:BV v cs][p:O0 q off cs q'][w:Ap h k (.row q' e) h'](hl:Nat.beq cs.length sz=true)(hk:okL cs=true):bO T ⟨h,nx⟩ (fr n l) op=some (.junk,⟨h',nx⟩):=by
 subst ho;refine z4b s.h ha hx c.h hl hk (q:=q) (q':=q') ?_ ?_ ?_;simp only[cellsOf,g.h];rfl;simp only[DX,g.h];exact p.h;simp only[JA,g.h,w.h]
variable{d:TypeDesc}
theorem oLa(ho:op=.load t x)(hx:bV n l x=some (.ptr k 0 off))[hd:eZ T t d](ha:qA d=true)[g:AA h k (.row q e)][s:SzC T t sz][p:SZ q off sz cs]:bO T ⟨h,nx⟩ (fr n l) op=some (.agg cs,⟨h,nx⟩):=by
 subst ho;exact pZ hd.h ha s.h hx (by simp only[cellsOf,g.h];rfl) p.h
theorem oLo(ho:op=.load t x)(hx:bV n l x=some (.ptr k 0 off))[hd:eZ T t d](ha:qA d=false)[g:AA h k (.row q e)](hu:nth q off=some u):bO T ⟨h,nx⟩ (fr n l) op=some (u,⟨h,nx⟩):=by
 subst ho;exact nQ hd.h ha hx (by simp only[cellsOf,g.h];rfl) hu
theorem oIa(ho:op=.load t x)(hx:bV n l x=some (.iptr q))[hd:eZ T t d](ha:qA d=true)[s:SzC T t sz][p:SZ q 0 sz cs]:bO T ⟨h,nx⟩ (fr n l) op=some (.agg cs,⟨h,nx⟩):=by
 subst ho;exact k_ hd.h ha s.h hx p.h
theorem oIo(ho:op=.load t x)(hx:bV n l x=some (.iptr q))[hd:eZ T t d](ha:qA d=false)(hu:nth q 0=some u):bO T ⟨h,nx⟩ (fr n l) op=some (u,⟨h,nx⟩):=by
 subst ho;exact Iq hd.h ha hx hu
theorem oFa{f:Nat}{fs:Array Field}{fd:Field}{gS:Nat}(ho:op=.fieldAddr t x f)(hx:bV n l x=some (.ptr k 0 off))[hd:eZ T t (.struct fs)][g:AA h k (.row q e)](hf:nth fs.toList f=some fd)(hs:cC T fd.type=some (s+1))(h2:off+fd.offset=gS):bO T ⟨h,nx⟩ (fr n l) op=some (.ptr k 0 gS,⟨h,nx⟩):=by
 subst ho;exact kM hd.h hf hs hx (by simp only[c7,g.h];rfl) h2
theorem oFi{f:Nat}{fs:Array Field}{fd:Field}(ho:op=.fieldAddr t x f)(hx:bV n l x=some (.iptr q))[hd:eZ T t (.struct fs)](hf:nth fs.toList f=some fd)(hs:cC T fd.type=some (s+1))(hq:q.drop fd.offset=q'):bO T ⟨h,nx⟩ (fr n l) op=some (.iptr q',⟨h,nx⟩):=by
 subst ho;exact vg hd.h hf hs hx hq
variable{X:Type}
variable{c:X->List U}
variable{b:Bool}
variable{xs:List X}
theorem oIx{i:Operand}{k:IntKind}{z:Int}{y:X}(ho:op=.indexAddr t x i)(hx:bV n l x=some (.isl b (xs.map c)))(hi:bV n l i=some (.int k z))[hd:eZ T t (.slice e)][hs:SzC T e sz][hc:fZ c sz](hy:aB xs z=some y):bO T ⟨h,nx⟩ (fr n l) op=some (.iptr (c y),⟨h,nx⟩):=by
 subst ho;exact dZ hx hi (Bq c hd.h hs.h hc.h hy rfl)
variable{args:Array Operand}
variable{ts:Array TypeId}
theorem oLe{q:List TypeId}(ho:op=.call { callee:=.builtin .len,args:=args,argTypes:=ts })(ha:args.toList=[x])(ht:ts.toList=t::q)(hx:bV n l x=some (.isl b (xs.map c)))[hd:eZ T t (.slice e)]:bO T ⟨h,nx⟩ (fr n l) op=some (.int .i64 xs.length,⟨h,nx⟩):=by
 subst ho;exact JC ha ht hx (z73 c hd.h)
theorem oLv{e':TypeId}{q:List TypeId}{K st m:Nat}(ho:op=.call { callee:=.builtin .len,args:=args,argTypes:=ts })(ha:args.toList=[x])(ht:ts.toList=t::q)(hx:bV n l x=some (.vl K st 0 m))[hd:eZ T t (.slice e)][g:AA h K (.vec cs e' sz st)]:bO T ⟨h,nx⟩ (fr n l) op=some (.int .i64 m,⟨h,nx⟩):=by
 subst ho;exact JC ha ht hx (l_ hd.h g.h)
theorem oBd{pl:List (Nat×Nat)}{ps:Array (Nat×Operand)}(ho:op=.build t ps)[q:xB T t zu pl](he:IP n l ps.toList=some qs)(c:ky pl zu qs cs)(hk:okL cs=true):bO T ⟨h,nx⟩ (fr n l) op=some (.agg cs,⟨h,nx⟩):=by
 subst ho;exact Vt q.h he c.h hk
variable{z:Value}
theorem oBs{b:Nat}{zs:List U}{ps:Array (Nat×Operand)}(ho:op=.buildSlice t k ps)(he:IP n l ps.toList=some qs)[hd:eZ T t (.slice e)][hi:j8 T e sz b z][hz:oK T e zu](zc:kh zu k zs)(c:kx sz zs qs cs)(hk:okL cs=true)(h1:Nat.ble (k*sz) 16777216=true)(h2:Nat.ble k 16777216=true)(h3:Nat.beq z.cells.toList.length sz=true)(hn:SuC nx nx'):bO T ⟨h,nx⟩ (fr n l) op=some (.sl nx 0 k k,⟨(nx,.row cs e)::h,nx'⟩):=by
 subst ho;have uR:=hn.h;subst uR;obtain⟨a,b',q,g1,g2,g3⟩:=hz.h;have e1:=hi.h;rw[g1]at e1;cases e1;exact xO hd.h hi.h he h1 h2 h3 g2 (by rw[zc.h];exact c.h) hk
variable{O:Sg}
theorem oMv(ho:op=.move x)(hx:bV n l x=some u):bO T O (fr n l) op=some (u,O):=by subst ho;exact g8 hx
theorem oAs(ho:op=.assign x)(hx:bV n l x=some u):bO T O (fr n l) op=some (u,O):=by subst ho;exact qst hx
variable{y:Operand}
theorem oIn{b:BinOp}{t':TypeId}{k k':IntKind}{i j:Int}{r:Value}(ho:op=.binOp b t x y t')(hx:bV n l x=some (.int k i))(hy:bV n l y=some (.int k' j))[q:IG b k i k' j r](hr:iH r=some u):bO T O (fr n l) op=some (u,O):=by subst ho;exact vH hx hy q.h hr
theorem oP1{c b:Operand}{t:Bool}(ho:op=.pick c a b)(hc:bV n l c=some (.bool t))(ht:t=true)(hu:bV n l a=some u):bO T O (fr n l) op=some (u,O):=by subst ho;exact qwd hc ht hu
theorem oP0{c b:Operand}{t:Bool}(ho:op=.pick c a b)(hc:bV n l c=some (.bool t))(ht:t=false)(hu:bV n l b=some u):bO T O (fr n l) op=some (u,O):=by subst ho;exact qwc hc ht hu
theorem oEx{i:Nat}(ho:op=.extract x i)(hx:bV n l x=some (.tup q))(hu:nth q i=some u):bO T O (fr n l) op=some (u,O):=by subst ho;exact g_ hx hu
theorem oUn{b:UnOp}{v1 v2:Value}(ho:op=.unOp b t x)(hx:bV n l x=some v)(h1:toV v=some v1)(h2:OD b v1=some v2)(hq:iH v2=some u):bO T O (fr n l) op=some (u,O):=by subst ho;exact QC hx h1 h2 hq
theorem oAp{xt e1 e2:TypeId}{a st cT K s0 s1 by_:Nat}{yv:X}{cs':List U}(ho:op=.call { callee:=.builtin .append,args:=args,argTypes:=ts })(ha:args.toList=[x,y])(ht:ts.toList=[t,xt])(hx:bV n l x=some (.vl a st 0 xs.length))(hy:bV n l y=some (.sl K 0 1 1))[d1:eZ T t (.slice e)][d2:eZ T xt (.slice e2)][g:AA h a (.vec (xs.map c).flatten e s0 st)][i:j8 T e s1 by_ z][g2:AA h K (.row q e1)][s:SZ q 0 s1 cs][w:SO cs cs'][d:DeC c cs' yv][lc:fZ c s1][ep:kp st cT][ug:Ap h a (.vec (List.map c (xs++[yv])).flatten e s1 cT) h'](QY:s0=s1)(hp:Nat.ble 1 s1=true)(hc:pU cs=(List.map c [yv]).flatten)(hz:Nat.beq z.cells.toList.length s1=true)(hr:(xs.length+1)*by_<=140737488355328/\xs.length+1<=140737488355328):bO T ⟨h,nx⟩ (fr n l) op=some (.vl a cT 0 (xs++[yv]).length,⟨h',nx⟩):=by
 subst ho;subst QY;obtain⟨sz,rfl⟩:∃sz,s0=sz+1:=⟨s0-1,by have:=zY hp;omega⟩;have e1:=ep.h;subst e1;have:=AW (O:=⟨h,nx⟩) ha ht hx hy (P9 c [yv] d1.h d2.h i.h hz lc.h g.h (Je c [yv] (q:=q) (by simp only[rowOf,g2.h]) (by rw[Nat.one_mul];exact s.h) rfl hc) hr);rw[ug.h]at this;exact this
theorem oAq{xt e2:TypeId}{a st cT s0 s1 by_:Nat}{ys:List X}(ho:op=.call { callee:=.builtin .append,args:=args,argTypes:=ts })(ha:args.toList=[x,y])(ht:ts.toList=[t,xt])(hx:bV n l x=some (.vl a st 0 xs.length))(hy:bV n l y=some (.isl b (ys.map c)))[d1:eZ T t (.slice e)][d2:eZ T xt (.slice e2)][g:AA h a (.vec (xs.map c).flatten e s0 st)][i:j8 T e s1 by_ z][lc:fZ c s1][ep:kp st cT][ug:Ap h a (.vec (List.map c (xs++ys)).flatten e s1 cT) h'](QY:s0=s1)(hp:Nat.ble 1 s1=true)(hz:Nat.beq z.cells.toList.length s1=true)(hr:(xs.length+ys.length)*by_<=140737488355328/\xs.length+ys.length<=140737488355328):bO T ⟨h,nx⟩ (fr n l) op=some (.vl a cT 0 (xs++ys).length,⟨h',nx⟩):=by
 subst ho;subst QY;obtain⟨sz,rfl⟩:∃sz,s0=sz+1:=⟨s0-1,by have:=zY hp;omega⟩;have e1:=ep.h;subst e1;have:=AW (O:=⟨h,nx⟩) ha ht hx hy (P9 c ys d1.h d2.h i.h hz lc.h g.h (Jf c lc.h) hr);rw[ug.h]at this;exact this
end
variable{A:Prop}
theorem opx (h:A:=by first
 |exact Go.Vx.oIo rfl rfl rfl rfl
 |exact Go.Vx.oLo rfl rfl rfl rfl
 |exact Go.Vx.oFi rfl rfl (by exact rfl) (by exact Go.Vx.SzC.h) (by exact rfl)
 |exact Go.Vx.oFa rfl rfl (by exact rfl) (by exact Go.Vx.SzC.h) (by exact Go.Vx.AdC.h)
 |exact Go.Vx.oLa rfl rfl rfl
 |exact Go.Vx.oIa rfl rfl rfl
 |exact Go.Vx.oLe rfl rfl rfl rfl
 |exact Go.Vx.oLv rfl rfl rfl rfl
 |exact Go.Vx.oBx rfl rfl rfl
 |exact Go.Vx.oAl rfl
 |exact Go.Vx.oSt rfl rfl rfl rfl rfl
 |exact Go.Vx.oBd rfl rfl (by exact inferInstance) rfl):A:=h
theorem opy (h:A:=by first
 |exact Go.Vx.oMv rfl rfl
 |exact Go.Vx.oAs rfl rfl
 |exact Go.Vx.oIn rfl rfl rfl rfl
 |exact Go.Vx.oEx rfl rfl rfl
 |exact Go.Vx.oP1 rfl rfl (by first |with_reducible_and_instances assumption |exact rfl) rfl
 |exact Go.Vx.oP0 rfl rfl (by first |with_reducible_and_instances assumption |exact rfl) rfl
 |exact Go.Vx.oUn rfl rfl rfl rfl rfl
 |exact Go.Vx.opx):A:=h
theorem opz (h:A:=by first
 |exact Go.Vx.oBs rfl rfl (by exact inferInstance) (by exact inferInstance) rfl rfl rfl rfl (by exact inferInstance)
 |exact Go.Vx.oAp rfl rfl rfl rfl rfl rfl rfl rfl rfl (by with_reducible assumption)
 |exact Go.Vx.oAq rfl rfl rfl rfl rfl rfl rfl rfl (by with_reducible assumption)
 |exact Go.Vx.opx):A:=h
section
variable{T:Tb}{aA r:List Oper}{o:Oper}{n:Nat}{l:List (Nat×U)}{O O':Sg}{u:U}
variable{C:PG}
variable{K:List U->Sg->Prop}
variable{d:Tmp}
theorem bU(hk:RU C T aA r (fr n ((d,u)::l)) O' K)(h:bO T O (fr n l) o.op=some (u,O'):=by exact Go.Vx.opz)(he:o.dst=some d:=by exact rfl)(hw:cP aA (fr n l) o=some true:=by exact Go.Vx.wA)(hd:Nat.blt d n=true:=by exact rfl):RU C T aA (o::r) (fr n l) O K:=RS.op hw h he hd hk
variable{P:Program}
variable{aY:List RK}
variable{K:List RK->List U->Sg->Prop}
theorem dC(hk:RH P T aA r (fr n ((d,u)::l)) O' ((3,⟨fr n l,o,u,true,true,O,O'⟩)::aY) K)(h:bO T O (fr n l) o.op=some (u,O'):=by exact Go.Vx.opz)(he:o.dst=some d:=by exact rfl)(hw:cP aA (fr n l) o=some true:=by exact Go.Vx.wA)(hd:Nat.blt d n=true:=by exact rfl):RH P T aA (o::r) (fr n l) O aY K:=RD.act hw h he hd hk
theorem v5(hk:RH P T aA r (fr n l) O' ((3,⟨fr n l,o,u,true,true,O,O'⟩)::aY) K)(h:bO T O (fr n l) o.op=some (u,O'):=by exact Go.Vx.opz)(he:o.dst=none:=by exact rfl)(hw:cP aA (fr n l) o=some true:=by exact Go.Vx.wA):RH P T aA (o::r) (fr n l) O aY K:=KE hw h he hk
theorem RD.ou(hk:RH P T aA r (fr n ((d,u)::l)) O ((1,⟨fr n l,o,u,false,false,O,O⟩)::aY) K)(h:bO T O (fr n l) o.op=some (u,O):=by exact Go.Vx.opy)(he:o.dst=some d:=by exact rfl)(hw:cP aA (fr n l) o=some true:=by exact Go.Vx.wA)(hd:Nat.blt d n=true:=by exact rfl):RH P T aA (o::r) (fr n l) O aY K:=RD.look hw h he hd hk
theorem RD.nt{d':Tmp}{j:Nat}{b:Bool}(hg:o.guard=some (j,true))(hj:yO aA j=some d')(hl:bV n l (.tmp d')=some (.bool b))(hb:b=false)(he:o.dst=some d)(hk:RH P T aA r (fr n ((d,.tup [])::l)) O ((0,⟨fr n l,o,.tup [],false,false,O,O⟩)::aY) K)(hd:Nat.blt d n=true:=by exact rfl):RH P T aA (o::r) (fr n l) O aY K:=RD.no (Ut hg hj hl hb) he hd hk
theorem RD.nf{d':Tmp}{j:Nat}{b:Bool}(hg:o.guard=some (j,false))(hj:yO aA j=some d')(hl:bV n l (.tmp d')=some (.bool b))(hb:b=true)(he:o.dst=some d)(hk:RH P T aA r (fr n ((d,.tup [])::l)) O ((0,⟨fr n l,o,.tup [],false,false,O,O⟩)::aY) K)(hd:Nat.blt d n=true:=by exact rfl):RH P T aA (o::r) (fr n l) O aY K:=RD.no (Ut hg hj hl hb) he hd hk
theorem aZ{K:List U->Sg->Prop}{X:Type}{xs:List X}{z:Int}{y:X}(hy:aB xs z=some y)(hk:RU C T aA r (fr n ((d,u)::l)) O K)(h:aB xs z=some y->bO T O (fr n l) o.op=some (u,O):=by intro hy;exact Go.Vx.oIx rfl rfl rfl hy)(he:o.dst=some d:=by exact rfl)(hw:cP aA (fr n l) o=some true:=by exact Go.Vx.wA)(hd:Nat.blt d n=true:=by exact rfl):RU C T aA (o::r) (fr n l) O K:=RS.op hw (h hy) he hd hk
theorem cK{X:Type}{xs:List X}{z:Int}{y:X}(hy:aB xs z=some y)(hk:RH P T aA r (fr n ((d,u)::l)) O ((1,⟨fr n l,o,u,false,false,O,O⟩)::aY) K)(h:aB xs z=some y->bO T O (fr n l) o.op=some (u,O):=by intro hy;exact Go.Vx.oIx rfl rfl rfl hy)(he:o.dst=some d:=by exact rfl)(hw:cP aA (fr n l) o=some true:=by exact Go.Vx.wA)(hd:Nat.blt d n=true:=by exact rfl):RH P T aA (o::r) (fr n l) O aY K:=RD.look hw (h hy) he hd hk
theorem RS.ou{K:List U->Sg->Prop}(hk:RU C T aA r (fr n ((d,u)::l)) O' K)(h:bO T O (fr n l) o.op=some (u,O'):=by exact Go.Vx.opx)(he:o.dst=some d:=by exact rfl)(hw:cP aA (fr n l) o=some true:=by exact Go.Vx.wA)(hd:Nat.blt d n=true:=by exact rfl):RU C T aA (o::r) (fr n l) O K:=RS.op hw h he hd hk
theorem RS.oz{K:List U->Sg->Prop}(hk:RU C T aA r (fr n l) O' K)(h:bO T O (fr n l) o.op=some (u,O'):=by exact Go.Vx.opx)(he:o.dst=none:=by exact rfl)(hw:cP aA (fr n l) o=some true:=by exact Go.Vx.wA):RU C T aA (o::r) (fr n l) O K:=KD hw h he hk
end
theorem gd{B:Prop}(h:B) (g:Hd B->A:=by
 intro h
 repeat' first
  |(refine Go.Vx.RD.nt rfl rfl rfl ?_ rfl ?_;· first |with_reducible_and_instances assumption |exact rfl)
  |(refine Go.Vx.RD.nf rfl rfl rfl ?_ rfl ?_;· first |with_reducible_and_instances assumption |exact rfl)
  |refine Go.Vx.RD.ou ?_
 exact h.h):A:=g ⟨h⟩
theorem gs{B: Prop}(h:B) (g:Hd B->A:=by
  intro h
  first
    |refine Go.Vx.gq ?_
    |with_reducible refine Go.Vx.sq ?_
    |with_reducible refine Go.Vx.WPU.skip ?_
    |with_reducible refine Go.Vx.RS.done ?_
    |with_reducible refine Go.Vx.WPU.ret ?_
    |with_reducible refine Go.Vx.WPU.exit ?_
    |(refine Go.Vx.RS.nt rfl rfl rfl ?_ rfl rfl ?_;· first |with_reducible_and_instances assumption |exact rfl)
    |(refine Go.Vx.RS.nf rfl rfl rfl ?_ rfl rfl ?_;· first |with_reducible_and_instances assumption |exact rfl)
    |(refine Go.Vx.RS.mo rfl rfl rfl ?_ rfl ?_;· exact Go.Vx.wA)
    |(refine Go.Vx.RS.in rfl rfl rfl rfl rfl ?_ rfl ?_;· exact Go.Vx.wA)
    | (refine Go.Vx.RS.p1 rfl rfl ?_ rfl rfl ?_ rfl ?_; · first | with_reducible_and_instances assumption | exact rfl
       exact Go.Vx.wA)
    | (refine Go.Vx.RS.p0 rfl rfl ?_ rfl rfl ?_ rfl ?_; · first | with_reducible_and_instances assumption | exact rfl
       exact Go.Vx.wA)
    |(refine Go.Vx.RS.a rfl rfl rfl ?_ rfl ?_;· exact Go.Vx.wA)
    |(refine Go.Vx.RS.ex rfl rfl rfl rfl ?_ rfl ?_;· exact Go.Vx.wA)
    |(refine Go.Vx.RS.un rfl rfl rfl rfl rfl rfl ?_ rfl ?_;· exact Go.Vx.wA)
    |refine Go.Vx.RS.ou ?_
    |refine Go.Vx.RS.oz ?_
  exact h.h):A:=g ⟨h⟩
theorem go{B:Prop}(h:B)(g:Hd B->A:=by intro h;(repeat' first |refine Go.Vx.gs ?_ |refine Go.Vx.rg1 rfl ?_);exact h.h):A:=g ⟨h⟩
theorem gn{B:Prop}(h:B)(g:Hd B->A:=by intro h;(repeat' refine Go.Vx.gs ?_);exact h.h):A:=g ⟨h⟩
theorem gr{B:Prop}(h:B)(g:Hd B->A:=by intro h;refine Go.Vx.gn ?_;refine Go.Vx.rg1 rfl ?_;refine Go.Vx.gn ?_;exact h.h):A:=g ⟨h⟩
theorem gx{X:Type}{a b:X}(h:some a=some b)(g:a=b->A:=by intro e;subst e;refine Go.Vx.go ?_;exact Go.Vx.rt1 rfl rfl rfl rfl):A:=g (sI h)
theorem gy{X:Type}{a b:X}(h:some a=some b)(g:a=b->A:=by intro e;subst e;refine Go.Vx.go ?_;exact Go.Vx.xC ⟨rfl,rfl⟩):A:=g (sI h)
theorem gB{H:Type}{t:Bool}{a b r:Option H}(h:cond t a b=r):(t=true/\a=r)\/(t=false/\b=r):=by cases t;exact .inr ⟨rfl,h⟩;exact .inl ⟨rfl,h⟩
abbrev B.bv{X:Type}(c:X->List U)(l:List X)(e:TypeId)(sz st:Nat):B:=.vec (l.map c).flatten e sz st
abbrev dF(P:Program)(f:FuncId)(args:List U)(u:U):Prop:=bA P f args ⟨[],0⟩ (fun u' _=>u'=u/\b7 0 u')
section
variable{C:PG}{n0 n:Nat}{Q:Exit->List U->Sg->Prop}{l:List (Nat×U)}{h:List (Nat×B)}{nx:Nat}{c:Code}
theorem gV(i:Nat)(e:TypeId)(sz n1:Nat)(hw:WPU C n0 c (fr n ((i,.vl nx 0 0 0)::l)) ⟨(nx,.vec [] e sz 0)::h,n1⟩ Q)(hi:bV n l (.tmp i)=some .nils:=by exact rfl)(hs:Nat.blt 0 sz=true:=by exact rfl)(hn:nx+1=n1:=by exact rfl)(h0:n0<=nx:=by first |exact Nat.zero_le _ |exact zY rfl)(hd:nj n (some i)=true:=by exact rfl):WPU C n0 c (fr n l) ⟨h,nx⟩ Q:=by
 subst hn;refine c9 (Au i e sz ?_ h0 hi hd) (Nat.le_succ_of_le h0) hw;exact Nat.lt_of_succ_le (zY hs)
theorem gL{l':List (Nat×U)}{O:Sg}{id:Nat}(I:Nat->List U->Sg->Prop)(E:List U->Sg->Prop)(k:Nat)(h0:I k (fr n l') O)
  (out:∀tm O,E tm O->Q .normal tm O)
  (round:∀m tm O,I m tm O->WPU C n0 c tm O (CG (fun tm' O'=>∃n' iL bT,n'<m/\I n' iL bT/\n0<=bT.nx/\Gh n0 tm' O' iL bT) (yQ id (OQ n0 E Q))))
  (hn:n0<=O.nx:=by first |exact Nat.zero_le _ |exact zY rfl) (ht:F7 l l':=by((repeat refine⟨rfl,?_⟩);exact trivial)):WPU C n0 (.block id (.loop c)) (fr n l) O Q:=c9 (Gh.sub ht) hn (WPU.loopK I E k h0 out round)
theorem dE{T:Tb}[t:kl C T]{tm:List U}{O:Sg}{id:Nat}{aA:Array Oper}(pr:List (Nat×Nat))(h:RH C.prog T aA.toList aA.toList tm O [] (fun ks tm' O'=>flE aA.toList (ks.reverse.map (·.1)) pr=true/\Wr T ks.reverse pr/\Q .normal tm' O'))(c8:VJ aA.toList=true:=by kernel_rfl):WPU C n0 (.region id aA true) tm O Q:=WPU.drawE t.ok pr c8 h
end
theorem gF{H:Type}{t:Bool}{a b r:Option H}{A A1 A2:Prop}(J:cond t a b=r)(h1:t=true->a=r->A1)(h2:t=false->b=r->A2) (g:cond t a b=r->Hd (t=true->a=r->A1)->Hd (t=false->b=r->A2)->A:=by
 intro e h k;refine Go.Vx.go ?_;exact Go.Vx.cF e h.h k.h):A:=g J ⟨h1⟩ ⟨h2⟩
end Go.Vx
