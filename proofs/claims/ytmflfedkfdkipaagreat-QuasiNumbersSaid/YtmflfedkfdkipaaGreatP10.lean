import Derived.Test.YtmflfedkfdkipaaGreatP9
set_option linter.all false
namespace Go.Vx
open Go Go.Rx
variable{n:Nat}
theorem yr{F:Nat->i5->Prop}{y:Cx}{K:Nat}{l:List U}{e:TypeId}{sz t:Nat}{h:List (Nat×B)}(hy:y.σ=⟨(K,.vec l e sz t)::h,K+1⟩)(hh:eQ y)(hf:Fr F y)(hb:∀k b,gt h k=some b->k<K/\BelB K b)(hl:aE 0 l):
  ∃y':Cx,y'.σ=⟨(K,.vec l e sz 0)::h,K+1⟩/\y'.s=y.s/\eQ y'/\Fr F y'/\Ke K y y'/\∀v,aA y (.vl K t 0 n) v->aA y' (.vl K 0 0 n) v:=by
 have gy:∀j,gt y.σ.h j=if K=j then some (.vec l e sz t)else gt h j:=fun j=>by rw[hy];exact aK _ _ _ _
 have gy':∀j,gt ((K,B.vec l e sz 0)::h) j=if K=j then some (.vec l e sz 0)else gt h j:=fun j=>aK _ _ _ _;have hnx:y.σ.nx=K+1:=by rw[hy]
 let y':Cx:=⟨y.ρ,⟨(K,.vec l e sz 0)::h,K+1⟩,y.s⟩
 have hmo:Mo K y y':=by refine⟨fun j h1 h2=>⟨by show j<K+1;omega,fun b' hb'=>?_⟩,fun _ _ _ h=>h⟩;have hb2:gt ((K,B.vec l e sz 0)::h) j=some b':=hb';rw[gy',if_neg (by omega)]at hb2;exact⟨b',by rw[gy,if_neg (by omega)];exact hb2,zF _,fun _=>⟨rfl,fun l e sz st h=>⟨l,h⟩⟩⟩
 refine⟨y',rfl,rfl,⟨fun j b hbj=>?_,fun j j' b b' i hbj hbj' h1 h2=>?_,hh.bd⟩,fun i b J=>?_,hmo.ke,fun v hv=>?_⟩;have hb2:gt ((K,B.vec l e sz 0)::h) j=some b:=hbj;rw[gy']at hb2;by_cases e1:K=j;subst e1;rw[if_pos rfl]at hb2;cases hb2;refine⟨by show K<K+1;omega,?_⟩;obtain⟨_,q1,q2,q3⟩:=hh.ok K (.vec l e sz t) (by rw[gy,if_pos rfl]);refine⟨q1,q2,?_⟩;rcases q3 with q3 |⟨i,l',r1,r2,r3⟩;exact .inl q3;exact .inr ⟨i,l',r1,r2,hmo.ke.E (aE.le (Nat.zero_le _) l hl) r3⟩;rw[if_neg e1]at hb2;obtain⟨h1,h2⟩:=hb j b hb2;refine⟨by show j<K+1;omega,?_⟩;exact(hh.ok j b (by rw[gy,if_neg e1];exact hb2)).2.monoB h2 hmo rfl fun _ _ _ h=>h
 have key:∀j b,gt ((K,B.vec l e sz 0)::h) j=some b->∃c,gt y.σ.h j=some c:=fun j b hb=>by rw[gy']at hb;by_cases e1:K=j;exact⟨_,by rw[gy,if_pos e1]⟩;rw[if_neg e1]at hb;exact⟨b,by rw[gy,if_neg e1];exact hb⟩
 obtain⟨c,g1⟩:=key j b hbj;obtain⟨c',g2⟩:=key j' b' hbj';exact hh.inj j j' c c' i g1 g2 h1 h2;obtain⟨h1,h2⟩:=hf i b J;refine⟨h1,fun j c hc=>?_⟩;have E5:gt ((K,B.vec l e sz 0)::h) j=some c:=hc;rw[gy']at E5;by_cases e1:K=j;exact h2 j _ (by rw[gy,if_pos e1]);rw[if_neg e1]at E5;exact h2 j c (by rw[gy,if_neg e1];exact E5);simp only[aA]at hv ⊢;refine⟨hv.1,by show K<K+1;omega,fun b hb=>?_⟩;have hb2:gt ((K,B.vec l e sz 0)::h) K=some b:=hb;rw[gy',if_pos rfl]at hb2;cases hb2;obtain⟨_,g2⟩:=hv.2.2 (.vec l e sz t) (by rw[gy,if_pos rfl]);obtain⟨l2,e2,Wp,g3,g4⟩:=g2 rfl;cases g3;exact⟨zF _,fun _=>⟨l,e,sz,rfl,g4⟩⟩
theorem aO.own0{α:Type}(c:α->List U){P:Program}{f:FuncId}{ys:List α}{e:TypeId}{sz:Nat}{a7:List U}[hc:BF c][ha:jC 0 a7]{k:Nat}
  (h:aO P f a7 ⟨[],0⟩ (fun u σ'=>∃t',u=.vl k t' 0 ys.length/\σ'=⟨[(k,.vec (ys.map c).flatten e sz t')],k+1⟩))
  (σ:Sg) (K:Nat) (hK:σ.nx+k=K):
  aO P f a7 σ (fun u σ'=>u=.vl K 0 0 ys.length/\σ'=⟨(K,.vec (ys.map c).flatten e sz 0)::σ.h,K+1⟩):=fun F x vs m w cargs hx hh hfr he hfit hargs=>by
 have h1:=aO.own1 c h σ K hK;refine(h1 F x vs m w cargs hx hh hfr he hfit hargs).mono ?_;rintro e' w₁ ⟨y,aF,u,v,cv,q1,⟨t',rfl,q3⟩,q4,q5,q6,q7,q8,q9,s_⟩;obtain⟨y',z1,z2,z3,z4,z5,z6⟩:=yr (F:=F) q3 q6 q7 (fun k b hb=>by
  have:=hh.ok k b (by rw[hx];exact hb);rw[hx]at this;refine⟨by omega,?_⟩;have hbel:=this.2.belB;rw[hx]at hbel;cases b with
  |row l e=>exact aE.le (by omega) l hbel|vec l e s st=>exact aE.le (by omega) l hbel
  |map es cl=>exact fun e he=>⟨aJ.le (by omega) _ (hbel e he).1,aJ.le (by omega) _ (hbel e he).2⟩) (QT 0 (hc.h 0) ys)
 exact⟨y',aF,_,v,cv,q1,⟨rfl,z1⟩,by rw[z2];exact q4,by rw[z2];exact q5,z3,z4,z6 v q8,q9.trans (z5.le (by rw[hx];omega)),by rw[z1,hx];show σ.nx<=K+1;omega⟩
theorem II{P:Program}{T:Tb}{ops r:List Oper}{o:Oper}{l:List (Nat×U)}{σ cC:Sg}{acc:List RK}{K:List RK->List U->Sg->Prop}{u:U}{f:FuncId}{args:List U}(hw:bO ops (fr n l) o=some true)(hc:fQ T (fr n l) o.op=some (f,args))(hev:aO P f args σ (fun u' σ'=>u'=u/\σ'=cC)){d:Tmp}(he:o.dst=some d)(hd:Nat.blt d n=true)
  (hk:RH P T ops r (fr n ((d,u)::l)) cC ((3,⟨fr n l,o,u,true,true,σ,cC⟩)::acc) K):RH P T ops (o::r) (fr n l) σ acc K :=
 RH.callM hw hc hev (by rw[he,mP (d:=some d) u hd];exact hk)
def AY(k:IntKind)(a b:Int):Int:=k.wrap (BitVec.ofInt k.bits a&&&BitVec.ofInt k.bits b).toNat
def SB(k:IntKind)(a b:Int):Int:=k.wrap (BitVec.ofInt k.bits a|||BitVec.ofInt k.bits b).toNat
def KS(k:IntKind)(a b:Int):Int:=k.wrap (BitVec.ofInt k.bits a &&& ~~~ BitVec.ofInt k.bits b).toNat
theorem zm(k:IntKind)(a b:Int):fP .andNot k a k b=some (.int k (KS k a b)):=by simp[fP,KS]
theorem Mg(k:IntKind)(a b:Int):fP .and k a k b=some (.int k (AY k a b)):=by simp[fP,AY]
theorem YE(k:IntKind)(a b:Int):fP .or k a k b=some (.int k (SB k a b)):=by simp[fP,SB]
def K9(s:List UInt8)(i:Int):Option Int:=if 0<=i/\i<(s.length:Int)then(s[i.toNat]?).map fun b=>(b.toNat:Int)else none
theorem Nl{T:Tb}{σ:Sg}{l:List (Nat×U)}{t:TypeId}{x y:Operand}{s:List UInt8}{k:IntKind}{i z:Int}(hd:T.und t=some .string)(hx:aY n l x=some (.str s))(hy:aY n l y=some (.int k i))(h:K9 s i=some z):aV T σ (fr n l) (.index t x y)=some (.int .u8 z,σ):=by
 unfold K9 at h;split at h;rename_i hp;rcases hb:s[i.toNat]? with _|b;rw[hb]at h;cases h;rw[hb]at h;simp only[zM,zA]at h;subst h;have e1:kG i s.length=true:=B9 hp;refine nI ?_;simp only[eH,cB hx,cB hy,Cp,g2,toV,KJ,hd,e1,zC,eR,hb,eT];cases h
def Ul(σ τ:Sg):Prop:=∀k b,gt σ.h k=some b->gt τ.h k=some b
section
variable{σ τ:Sg}(hs:Ul σ τ)
include hs
variable{T:Tb}{tm:List U}
def GM:Op->Bool
 |.alloc _ |.box _ _ |.store _ _ _ |.buildSlice _ _ _ |.makeSlice _ _ _ |.makeMap _ _ |.mapUpdate _ _ _ _ |.insert _ _ _ _ |.mapEntry _ _ _ |.entryStore _ _ _ _=>false|.call c=>(match c.callee with
  |.builtin .append=>false|.builtin .copy=>false
  |.builtin .delete=>false|.builtin .clear=>false
  |_=>true)
 |_=>true
end
def IA:Option Nat->Nat->U
 |none,k=>.ptr k 0 0|some n,k=>.sl k 0 n n
structure Al where
 i:Nat
 k:Nat
 o:Option Nat
 l:List U
 e:TypeId
def yb(P:Program)(T:Tb)(tm:List U)(op:Op)(al:Al):Prop :=
 (∀s,aV T s tm op=some (IA al.o s.nx,newU s (.row al.l al.e)))\/∃f args,fQ T tm op=some (f,args)/\∀s,aO P f args s (fun u s'=>u=IA al.o s.nx/\s'=newU s (.row al.l al.e))
structure Loc(T:Tb)(ops:List Oper)(als:List Al)(i:Nat)(r:cT)(K:Nat)(q q':List U)(e:TypeId):Prop where
 name:∃al∈als,al.k=K
 row:gt r.s.h K=some (.row q e)
 out:r.s'=⟨ug r.s.h K (.row q' e),r.s.nx⟩
 dst:r.o.dst=none
 run:∀ τ:Sg,gt τ.h K=some (.row q e)->aV T τ r.tm r.o.op=some (r.u,⟨ug τ.h K (.row q' e),τ.nx⟩)
 pre:∀al∈als,Pre ops i al.i\/(al.k≠K/\aE al.k q')
 want:bO ops r.tm r.o=some true
structure m_(P:Program)(T:Tb)(ops:List Oper)(tm₀:List U)(σb cC:Sg)(rs:List cT)(als:List Al):Prop where
 some:als≠[]
 names:∀al∈als,σb.nx<=al.k/\al.k<cC.nx
 nodup:∀a∈als,∀b∈als,a.k=b.k->a.i=b.i
 le:σb.nx<=cC.nx
 at_:∀al∈als,∃r d,rs[al.i]? = .some r/\r.u=IA al.o al.k/\r.act=false/\r.mv=true/\yb P T r.tm r.o.op al/\r.o.guard=none/\r.o.dst=.some d
 row:∀al∈als,aE 0 al.l
 all:∀(i:Nat)(r:cT),rs[i]? = .some r->r.act=false->r.mv=true->∃al∈als,al.i=i
 own:∀al∈als,gt cC.h al.k=.some (.row al.l al.e)
 oth:∀j,(∀al∈als,al.k≠j)->gt cC.h j=gt σb.h j
 acts:∀(i:Nat)(r:cT),rs[i]? = .some r->r.act=true->(∀al∈als,Pre ops i al.i)\/∃K q q' e,Loc T ops als i r K q q' e
 early:∀(i:Nat)(r:cT),rs[i]? = .some r->r.act=false->r.mv=false->(∀al∈als,Pre ops i al.i)\/(aJ σb.nx r.u/\(bO ops r.tm r.o=.some true->aV T r.s r.tm r.o.op=.some (r.u,r.s')->GM r.o.op=true/\aV T ⟨σb.h,cC.nx⟩ r.tm r.o.op=.some (r.u,⟨σb.h,cC.nx⟩)))
section
variable{P:Program}{T:Tb}(hT:eZ P T)(ops:Array Oper){tm₀:List U}{σb cC:Sg}{rs:List cT}{tm':List U}{σ':Sg}{als:List Al}
 (htr:Jm P T ops.toList tm₀ cC rs tm' σ') (hst:KX ops.toList=true) (hch:Uq T ops.toList rs) (hal:m_ P T ops.toList tm₀ σb cC rs als)
include htr hal
include hT hst hch
end
def YC(mk K:Nat)(q':List U):List Al->Prop
 |[]=>True|al::r=>(Nat.testBit mk al.i=true\/(al.k≠K/\aE al.k q'))/\YC mk K q' r
def RA(P:Program)(T:Tb)(ops:List Oper)(nb:Nat)(σe:Sg)(qa:List Al):List Oper->List U->Sg->List RK->List Al->(List RK->List U->Sg->Prop)->Prop
 |[],tm,σ,acc,q,K=>q=[]/\K acc tm σ|o::r,tm,σ,acc,q,K=>
  (bO ops tm o=some true/\∃u,aV T σ tm o.op=some (u,σ)/\RA P T ops nb σe qa r (cQ tm o.dst u) σ ((1,⟨tm,o,u,false,false,σ,σ⟩)::acc) q K)\/ (bO ops tm o=some true/\∃u σ',aV T σ tm o.op=some (u,σ')/\RA P T ops nb σe qa r (cQ tm o.dst u) σ' ((3,⟨tm,o,u,true,true,σ,σ'⟩)::acc) q K)\/ (bO ops tm o=some true/\∃f args u,fQ T tm o.op=some (f,args)/\aO P f args σ (fun u' σ'=>u'=u/\σ'=σ)/\RA P T ops nb σe qa r (cQ tm o.dst u) σ ((2,⟨tm,o,u,true,false,σ,σ⟩)::acc) q K)\/ (bO ops tm o=some true/\∃f args u σ',fQ T tm o.op=some (f,args)/\aO P f args σ (fun u' s'=>u'=u/\s'=σ')/\RA P T ops nb σe qa r (cQ tm o.dst u) σ' ((3,⟨tm,o,u,true,true,σ,σ'⟩)::acc) q K)\/ (bO ops tm o=some false/\RA P T ops nb σe qa r (cQ tm o.dst (.tup [])) σ ((0,⟨tm,o,.tup [],false,false,σ,σ⟩)::acc) q K)\/ (bO ops tm o=some true/\∃u,mO P T tm o.op u/\aJ nb u/\RA P T ops nb σe qa r (cQ tm o.dst u) σ ((6,⟨tm,o,u,false,false,σ,σ⟩)::acc) q K)\/ (bO ops tm o=some true/\∃u,aV T σ tm o.op=some (u,σ)/\aV T σe tm o.op=some (u,σe)/\GM o.op=true/\aJ nb u/\RA P T ops nb σe qa r (cQ tm o.dst u) σ ((5,⟨tm,o,u,false,false,σ,σ⟩)::acc) q K)\/ (∃al q' d,q=al::q'/\al.i=acc.length/\yb P T tm o.op al/\o.guard=none/\o.dst=some d/\RA P T ops nb σe qa r (cQ tm o.dst (IA al.o al.k)) σ ((4,⟨tm,o,IA al.o al.k,false,true,σ,σ⟩)::acc) q' K)\/ (bO ops tm o=some true/\∃u KK c c' e mk,(cK ops [])[acc.length]? = some mk/\o.dst=none/\gt σ.h KK=some (.row c e)/\(∀ τ:Sg,gt τ.h KK=some (.row c e)->aV T τ tm o.op=some (u,⟨ug τ.h KK (.row c' e),τ.nx⟩))/\(∃al∈qa,al.k=KK)/\YC mk KK c' qa/\
   RA P T ops nb σe qa r (cQ tm o.dst u) ⟨ug σ.h KK (.row c' e),σ.nx⟩ ((7,⟨tm,o,u,true,true,σ,⟨ug σ.h KK (.row c' e),σ.nx⟩⟩)::acc) q K)
section
variable{P:Program}{T:Tb}
end
section
variable{C:PG}{T:Tb}(hT:eZ C.prog T){n0:Nat}{Q:Exit->List U->Sg->Prop}{tm:List U}{σ:Sg}
include hT
end
section
variable{P:Program}{T:Tb}{ops r:List Oper}{o:Oper}{n nb:Nat}{σe:Sg}{l:List (Nat×U)}{σ σ':Sg}{acc:List RK}{q qa:List Al}{K:List RK->List U->Sg->Prop}{u:U}
variable{d:Tmp}
theorem RQ.act(hw:bO ops (fr n l) o=some true)(h:aV T σ (fr n l) o.op=some (u,σ'))(he:o.dst=some d)(hd:Nat.blt d n=true)(hk:RA P T ops nb σe qa r (fr n ((d,u)::l)) σ' ((3,⟨fr n l,o,u,true,true,σ,σ'⟩)::acc) q K):RA P T ops nb σe qa (o::r) (fr n l) σ acc q K :=
 .inr (.inl ⟨hw,u,σ',h,by rw[he,mP (d:=some d) u hd];exact hk⟩)
theorem RQ.call{f:FuncId}{args:List U}(hw:bO ops (fr n l) o=some true)(hc:fQ T (fr n l) o.op=some (f,args))(hev:aO P f args σ (fun u' σ'=>u'=u/\σ'=σ))(he:o.dst=some d)(hd:Nat.blt d n=true)(hk:RA P T ops nb σe qa r (fr n ((d,u)::l)) σ ((2,⟨fr n l,o,u,true,false,σ,σ⟩)::acc) q K):RA P T ops nb σe qa (o::r) (fr n l) σ acc q K :=
 .inr (.inr (.inl ⟨hw,f,args,u,hc,hev,by rw[he,mP (d:=some d) u hd];exact hk⟩))
theorem RQ.alloc{al:Al}(hi:al.i=acc.length)(ho:∀s,aV T s (fr n l) o.op=some (IA al.o s.nx,newU s (.row al.l al.e)))(hg:o.guard=none)(he:o.dst=some d)(hd:Nat.blt d n=true)(hk:RA P T ops nb σe qa r (fr n ((d,IA al.o al.k)::l)) σ ((4,⟨fr n l,o,IA al.o al.k,false,true,σ,σ⟩)::acc) q K):RA P T ops nb σe qa (o::r) (fr n l) σ acc (al::q) K :=
 .inr (.inr (.inr (.inr (.inr (.inr (.inr (.inl ⟨al,q,d,rfl,hi,.inl ho,hg,he,by rw[he,mP (d:=some d) _ hd];exact hk⟩)))))))
end
section
variable{C:PG}{T:Tb}(hT:eZ C.prog T){n0:Nat}{Q:Exit->List U->Sg->Prop}{tm:List U}{σ:Sg}
include hT
end
class TbP(P:Program)(T:outParam Tb):Prop where
 ok:eZ P T
class Jn(C:PG)(T:outParam Tb):Prop where
 ok:eZ C.prog T
instance{P:Program}{T:Tb}[h:TbP P T]:Jn (PG.of P) T:=⟨h.ok⟩
section
variable{P:Program}{T:Tb}{ops r:List Oper}{o:Oper}{n:Nat}{l:List (Nat×U)}{σ σ':Sg}{u:U}
theorem bG{C:PG}{K:List U->Sg->Prop}{d:Tmp}(he:o.dst=some d)(h:aV T σ (fr n l) o.op=some (u,σ'))(hk:RU C T ops r (fr n ((d,u)::l)) σ' K)(hw:bO ops (fr n l) o=some true:=by exact rfl)(hd:Nat.blt d n=true:=by exact rfl):RU C T ops (o::r) (fr n l) σ K:=RS.op hw h he hd hk
theorem bB{acc:List RK}{K:List RK->List U->Sg->Prop}{d:Tmp}(he:o.dst=some d)(h:aV T σ (fr n l) o.op=some (u,σ))(hk:RH P T ops r (fr n ((d,u)::l)) σ ((1,⟨fr n l,o,u,false,false,σ,σ⟩)::acc) K)(hw:bO ops (fr n l) o=some true:=by exact rfl)(hd:Nat.blt d n=true:=by exact rfl):RH P T ops (o::r) (fr n l) σ acc K:=RD.look hw h he hd hk
end
theorem st{A B:Prop}(h:B)(g:B->A:=by intro h;(repeat refine Go.Vx.gq ?_);(repeat refine Go.Vx.sq ?_);exact h):A:=g h
class eI{α:Type}(c:α->List U)(n:outParam Nat):Prop where
 h:∀x,(c x).length=n
instance(k:IntKind):eI (cI k) 1:=⟨nY k⟩
instance:eI cS 1:=⟨CU⟩
instance{α:Type}(c:α->List U):eI (cL c) 1:=⟨PX c⟩
abbrev U.iM{α:Type}(c:α->List U)(l:List α):U:=.isl false (l.map c)
abbrev U.i6(z:Int):U:=.int .i64 z
variable{P:Program}
variable{f:FuncId}
variable{args:List U}
variable{u:U}
theorem pC(h:aO P f args ⟨[],0⟩ (fun u' _=>u'=u/\aJ 0 u'))[q:jC 0 args](σ:Sg):aO P f args σ (fun u' σ'=>u'=u/\σ'=σ):=aO.pure1C h σ
theorem sI{α:Type}{a b:α}(h:some a=some b):a=b:=Option.some.inj h
class Nq(a b:Nat):Prop where
 h:Nat.beq a b=false
instance{b:Nat}:Nq 0 (b+1):=⟨rfl⟩
instance{b:Nat}:Nq (b+1) 0:=⟨rfl⟩
instance{a b:Nat}[q:Nq a b]:Nq (a+1) (b+1):=⟨q.h⟩
class dK(h:List (Nat×B))(K:Nat)(b:outParam B):Prop where
 h:gt h K=some b
instance(priority:=low){K k:Nat}{x b:B}{t:List (Nat×B)}[n:Nq k K][g:dK t K b]:dK ((k,x)::t) K b:=⟨by simp only[gt,n.h,zD,g.h]⟩
instance{K:Nat}{b:B}{t:List (Nat×B)}:dK ((K,b)::t) K b:=⟨by simp[gt]⟩
class Be(b:B):Prop where
 h:∀es cl,b≠.map es cl
instance{l:List U}{e:TypeId}:Be (.row l e):=⟨fun _ _=>nofun⟩
instance{l:List U}{e:TypeId}{s t:Nat}:Be (.vec l e s t):=⟨fun _ _=>nofun⟩
class Ck(n sz:Nat)(l:List U)(r:outParam (List (List U))):Prop where
 h:n*sz<=l.length
 e:bC sz n l=r
instance{s:Nat}{l:List U}:Ck 0 s l []:=⟨by omega,by simp[bC]⟩
instance{n:Nat}{a:U}{l:List U}{r:List (List U)}[q:Ck n 1 l r]:Ck (n+1) 1 (a::l) ([a]::r):=⟨by have:=q.h;simp;omega,by have:=q.e;simp[bC,this]⟩
instance{n:Nat}{a b:U}{l:List U}{r:List (List U)}[q:Ck n 2 l r]:Ck (n+1) 2 (a::b::l) ([a,b]::r):=⟨by have:=q.h;simp;omega,by have:=q.e;simp[bC,this]⟩
instance{n:Nat}{a b c:U}{l:List U}{r:List (List U)}[q:Ck n 3 l r]:Ck (n+1) 3 (a::b::c::l) ([a,b,c]::r):=⟨by have:=q.h;simp;omega,by have:=q.e;simp[bC,this]⟩
class mY(K:Nat)(b:B)(sz:Nat)(u:U)(u':outParam U):Prop where
 h:fz K b sz u=u'
class AB(K:Nat)(b:B)(sz:Nat)(l:List U)(l':outParam (List U)):Prop where
 h:fF K b sz l=l'
section
variable{K:Nat}{b:B}{sz:Nat}
instance(priority:=low){l:List U}[q:jC K l]:AB K b sz l l:=⟨qR b sz l q.h⟩
instance:AB K b sz [] []:=⟨D3 K b sz⟩
instance{u u':U}{l l':List U}[a:mY K b sz u u'][q:AB K b sz l l']:AB K b sz (u::l) (u'::l'):=⟨by rw[wU,a.h,q.h]⟩
instance{k:IntKind}{z:Int}:mY K b sz (.int k z) (.int k z):=⟨CX K b sz k z⟩
instance{x:List UInt8}:mY K b sz (.str x) (.str x):=⟨Q3 K b sz x⟩
instance:mY K b sz .nils .nils:=⟨QD K b sz⟩
instance{t:Bool}{l:List (List U)}:mY K b sz (.isl t l) (.isl t l):=⟨CW K b sz t l⟩
instance{l l':List U}[q:AB K b sz l l']:mY K b sz (.agg l) (.agg l'):=⟨by rw[Q4,q.h]⟩
instance{l l':List U}[q:AB K b sz l l']:mY K b sz (.tup l) (.tup l'):=⟨by rw[Q2,q.h]⟩
instance{f:Fn}{a a' c c':List U}[q:AB K b sz a a'][r:AB K b sz c c']:mY K b sz (.fn f a c) (.fn f a' c'):=⟨by rw[PJ,q.h,r.h]⟩
instance{k st off n:Nat}[q:Nq k K]:mY K b sz (.vl k st off n) (.vl k st off n):=⟨fz_vn q.h b sz st off n⟩
instance{k off n c:Nat}[q:Nq k K]:mY K b sz (.sl k off n c) (.sl k off n c):=⟨H7 q.h b sz off n c⟩
instance{k st off:Nat}[q:Nq k K]:mY K b sz (.ptr k st off) (.ptr k st off):=⟨H9 q.h b sz st off⟩
end
instance{α:Type}{c:α->List U}{sz s K st:Nat}{l:List α}{e:TypeId}[q:eI c sz]:mY K (.vec (l.map c).flatten e sz st) s (.vl K st 0 l.length) (.isl false (l.map c)):=⟨CR q.h l K s e st⟩
instance{K sz n:Nat}{l:List U}{e:TypeId}{r:List (List U)}[q:Ck n sz l r]:mY K (.row l e) sz (.sl K 0 n n) (.isl false r):=⟨by rw[H8 K l e sz n q.h,q.e]⟩
instance{K sz:Nat}{l:List U}{e:TypeId}:mY K (.row l e) sz (.ptr K 0 0) (.iptr l):=⟨ZH K l e sz⟩
instance{K sz:Nat}{b:B}{u u':U}[q:mY K b sz u u']:mY K b sz (i9 [u]) u':=⟨q.h⟩
instance{K sz:Nat}{b:B}{u v u':U}{l:List U}[q:mY K b sz (.tup (u::v::l)) u']:mY K b sz (i9 (u::v::l)) u':=⟨q.h⟩
class Up(K:Nat)(b:B)(sz:Nat)(x:B)(x':outParam B):Prop where
 h:fzB K b sz x=x'
instance{K sz:Nat}{b:B}{l l':List U}{e:TypeId}[q:AB K b sz l l']:Up K b sz (.row l e) (.row l' e):=⟨by rw[fzB,q.h]⟩
instance{K sz:Nat}{b:B}{l l':List U}{e:TypeId}{s st:Nat}[q:AB K b sz l l']:Up K b sz (.vec l e s st) (.vec l' e s st):=⟨by rw[fzB,q.h]⟩
class IG(K:Nat)(b:B)(sz:Nat)(h:List (Nat×B))(h':outParam (List (Nat×B))):Prop where
 h:fzH K b sz h=h'
section
variable{K:Nat}{b:B}{sz:Nat}
instance:IG K b sz [] []:=⟨rfl⟩
instance(priority:=low){k:Nat}{c c':B}{h h':List (Nat×B)}[n:Nq k K][p:Up K b sz c c'][q:IG K b sz h h']:IG K b sz ((k,c)::h) ((k,c')::h'):=⟨by simp only[fzH,n.h,zD,p.h,q.h]⟩
instance{c:B}{h h':List (Nat×B)}[q:IG K b sz h h']:IG K b sz ((K,c)::h) h':=⟨by simp[fzH,q.h]⟩
end
class Jt(K:Nat)(b:B)(sz:Nat)(l:List (Nat×U))(l':outParam (List (Nat×U))):Prop where
 h:fzS K b sz l=l'
instance{K:Nat}{b:B}{sz:Nat}:Jt K b sz [] []:=⟨rfl⟩
instance{K:Nat}{b:B}{sz i:Nat}{u u':U}{l l':List (Nat×U)}[a:mY K b sz u u'][q:Jt K b sz l l']:Jt K b sz ((i,u)::l) ((i,u')::l'):=⟨by rw[fzS,a.h,q.h]⟩
variable{n0:Nat}
variable{nx:Nat}
variable{h:List (Nat×B)}
variable{h':List (Nat×B)}
variable{b:B}
theorem mF{tm tm':List U}(K sz:Nat)[g:dK h K b][m:Be b][t:AB K b sz tm tm'][q:IG K b sz h h']:Gh n0 tm ⟨h,nx⟩ tm' ⟨h',nx⟩:=Gh.fz K b sz g.h m.h t.h q.h
variable{n:Nat}
variable{l:List (Nat×U)}
variable{l':List (Nat×U)}
theorem IH(K sz:Nat)[g:dK h K b][m:Be b][t:Jt K b sz l l'][q:IG K b sz h h']:Gh n0 (fr n l) ⟨h,nx⟩ (fr n l') ⟨h',nx⟩:=Gh.fzS K b sz g.h m.h t.h q.h
class IC(h:List (Nat×B))(K:Nat)(b:B)(h':outParam (List (Nat×B))):Prop where
 h:ug h K b=h'
instance{K:Nat}{x b:B}{t:List (Nat×B)}:IC ((K,x)::t) K b ((K,b)::t):=⟨by simp[ug]⟩
instance(priority:=low){K k:Nat}{x b:B}{t t':List (Nat×B)}[n:Nq k K][g:IC t K b t']:IC ((k,x)::t) K b ((k,x)::t'):=⟨by simp only[ug,n.h,zD,g.h]⟩
class IB(l:List U)(l':outParam (List U)):Prop where
 h:jU l l'
instance:IB [] []:=⟨.nil⟩
instance(priority:=low){u:U}{l l':List U}[q:IB l l']:IB (u::l) (u::l'):=⟨.cons (.refl _) q.h⟩
instance{l l':List U}[q:IB l l']:IB (.nils::l) (.isl false []::l'):=⟨.cons (.nil false) q.h⟩
theorem Gh.rowC{tm:List U}{q q':List U}{e:TypeId}(K:Nat)[g:dK h K (.row q e)][w:IB q q'][u:IC h K (.row q' e) h'](hk:okL q'=true:=by exact rfl):Gh n0 tm ⟨h,nx⟩ tm ⟨h',nx⟩:=by
 have:=Gh.rowW (n0:=n0) (tm:=tm) (σ:=⟨h,nx⟩) g.h hk w.h;simp only[u.h]at this;exact this
theorem NZ:0<=n:=Nat.zero_le n
theorem NL{a b:Nat}(h:Nat.ble a b=true:=by exact rfl):a<=b:=zY h
theorem sB{a b:Nat}(h:Nat.ble a b=true):a<=b:=zY h
variable{T:Tb}
variable{fn:Func}
variable{k:Code}
variable{σ:Sg}
variable{R:U->Sg->Prop}
theorem Tw[t:TbP P T](n:Nat)(hf:T.fn f=some fn)(h:WPU (PG.of P) σ.nx k (fr n []) σ fun e tm' σ'=>(e=.normal\/e=.ret)/\∃l,gD T σ' tm' fn.results.toList=some l/\∃u' aN,σ.nx<=aN.nx/\Gh σ.nx [i9 l] σ' [u'] aN/\R u' aN)(hn:fn.ntmps=n:=by exact rfl)(hb:fn.body=some k:=by exact rfl)(hk:Nat.ble 0 n=true:=by exact rfl):aO P f [] σ R:=P4 t.ok hf hb (cR (by rw[hn];exact P0 (sB hk)) (zF _) h)
theorem gY[t:TbP P T]{a:U}(n:Nat)(hf:T.fn f=some fn)(h:WPU (PG.of P) σ.nx k (fr n [(0,a)]) σ fun e tm' σ'=>(e=.normal\/e=.ret)/\∃l,gD T σ' tm' fn.results.toList=some l/\∃u' aN,σ.nx<=aN.nx/\Gh σ.nx [i9 l] σ' [u'] aN/\R u' aN)(hn:fn.ntmps=n:=by exact rfl)(hb:fn.body=some k:=by exact rfl)(hk:Nat.ble 1 n=true:=by exact rfl):aO P f [a] σ R:=P4 t.ok hf hb (cR (by rw[hn];exact P0 (sB hk)) (zF _) h)
theorem dF[t:TbP P T]{a b:U}(n:Nat)(hf:T.fn f=some fn)(h:WPU (PG.of P) σ.nx k (fr n [(0,a),(1,b)]) σ fun e tm' σ'=>(e=.normal\/e=.ret)/\∃l,gD T σ' tm' fn.results.toList=some l/\∃u' aN,σ.nx<=aN.nx/\Gh σ.nx [i9 l] σ' [u'] aN/\R u' aN)(hn:fn.ntmps=n:=by exact rfl)(hb:fn.body=some k:=by exact rfl)(hk:Nat.ble 2 n=true:=by exact rfl):aO P f [a,b] σ R:=P4 t.ok hf hb (cR (by rw[hn];exact P0 (sB hk)) (zF _) h)
variable{c:U}
theorem EI[t:TbP P T]{a b:U}(n:Nat)(hf:T.fn f=some fn)(h:WPU (PG.of P) σ.nx k (fr n [(0,a),(1,b),(2,c)]) σ fun e tm' σ'=>(e=.normal\/e=.ret)/\∃l,gD T σ' tm' fn.results.toList=some l/\∃u' aN,σ.nx<=aN.nx/\Gh σ.nx [i9 l] σ' [u'] aN/\R u' aN)(hn:fn.ntmps=n:=by exact rfl)(hb:fn.body=some k:=by exact rfl)(hk:Nat.ble 3 n=true:=by exact rfl):aO P f [a,b,c] σ R:=P4 t.ok hf hb (cR (by rw[hn];exact P0 (sB hk)) (zF _) h)
theorem Au[t:TbP P T]{a b d:U}(n:Nat)(hf:T.fn f=some fn)(h:WPU (PG.of P) σ.nx k (fr n [(0,a),(1,b),(2,c),(3,d)]) σ fun e tm' σ'=>(e=.normal\/e=.ret)/\∃l,gD T σ' tm' fn.results.toList=some l/\∃u' aN,σ.nx<=aN.nx/\Gh σ.nx [i9 l] σ' [u'] aN/\R u' aN)(hn:fn.ntmps=n:=by exact rfl)(hb:fn.body=some k:=by exact rfl)(hk:Nat.ble 4 n=true:=by exact rfl):aO P f [a,b,c,d] σ R:=P4 t.ok hf hb (cR (by rw[hn];exact P0 (sB hk)) (zF _) h)
theorem j_[t:TbP P T]{a b d e:U}(n:Nat)(hf:T.fn f=some fn)(h:WPU (PG.of P) σ.nx k (fr n [(0,a),(1,b),(2,c),(3,d),(4,e)]) σ fun e tm' σ'=>(e=.normal\/e=.ret)/\∃l,gD T σ' tm' fn.results.toList=some l/\∃u' aN,σ.nx<=aN.nx/\Gh σ.nx [i9 l] σ' [u'] aN/\R u' aN)(hn:fn.ntmps=n:=by exact rfl)(hb:fn.body=some k:=by exact rfl)(hk:Nat.ble 5 n=true:=by exact rfl):aO P f [a,b,c,d,e] σ R:=P4 t.ok hf hb (cR (by rw[hn];exact P0 (sB hk)) (zF _) h)
class C7(u u':U):Prop where
 h:Wk u u'
class Bd(l l':List U):Prop where
 h:jU l l'
instance(priority:=low){u:U}:C7 u u:=⟨.refl u⟩
instance:C7 .nils (.isl false []):=⟨.nil false⟩
instance{l l':List U}[q:Bd l l']:C7 (.agg l) (.agg l'):=⟨.agg q.h⟩
instance{l l':List U}[q:Bd l l']:C7 (.tup l) (.tup l'):=⟨.tup q.h⟩
instance{u u':U}[q:C7 u u']:C7 (i9 [u]) u':=⟨q.h⟩
instance{u v u':U}{l:List U}[q:C7 (.tup (u::v::l)) u']:C7 (i9 (u::v::l)) u':=⟨q.h⟩
instance:Bd [] []:=⟨.nil⟩
instance{u u':U}{l l':List U}[a:C7 u u'][q:Bd l l']:Bd (u::l) (u'::l'):=⟨.cons a.h q.h⟩
theorem lC{I:Nat->List U->Sg->Prop}{m n1:Nat}(hI:I m (fr n l') ⟨h',n1⟩)(ht:AR l l':=by((repeat refine⟨rfl,?_⟩);exact trivial))(hs:Vx.cut n1 h=h':=by exact rfl)(h1:n0<=n1:=by first |exact Nat.zero_le _ |exact zY rfl)(h2:n1<=nx:=by exact zY rfl)[hb:BS n1 l'][hh:BH n1 h']:∃n' tm' σ',n'<m+1/\I n' tm' σ'/\n0<=σ'.nx/\Gh n0 (fr n l) ⟨h,nx⟩ tm' σ':=⟨m,_,_,zN _,hI,h1,Gh.toC ht hs h1 h2⟩
theorem xC{E:List U->Sg->Prop}{n1:Nat}(hE:E (fr n l') ⟨h',n1⟩)(ht:AR l l':=by((repeat refine⟨rfl,?_⟩);exact trivial))(hs:Vx.cut n1 h=h':=by exact rfl)(h1:n0<=n1:=by first |exact Nat.zero_le _ |exact zY rfl)(h2:n1<=nx:=by exact zY rfl)[hb:BS n1 l'][hh:BH n1 h']:∃tm' σ',E tm' σ'/\n0<=σ'.nx/\Gh n0 (fr n l) ⟨h,nx⟩ tm' σ':=⟨_,_,hE,h1,Gh.toC ht hs h1 h2⟩
section
variable{T:Tb}{n:Nat}{l:List (Nat×U)}{σ:Sg}{rs:List ResultVar}
theorem rT{us:List U}(hr:gD T σ (fr n l) rs=some us)(hg:Gh 0 [i9 us] σ [u] ⟨[],0⟩)[q:BU 0 u]:(Exit.ret=.normal\/Exit.ret=.ret)/\∃l',gD T σ (fr n l) rs=some l'/\∃u' aN,(⟨[],0⟩:Sg).nx<=aN.nx/\Gh (⟨[],0⟩:Sg).nx [i9 l'] σ [u'] aN/\u'=u/\aJ 0 u':=⟨.inr rfl,us,hr,u,⟨[],0⟩,zF _,hg,rfl,q.h⟩
theorem rt1{a:Tmp}{t:List ResultVar}{v:U}(ht:rs=.tmp a::t)(h:aY n l (.tmp a)=some v)(h0:t=[])(hu:v=u)[q:BU 0 u]:(Exit.ret=.normal\/Exit.ret=.ret)/\∃l',gD T σ (fr n l) rs=some l'/\∃u' aN,(⟨[],0⟩:Sg).nx<=aN.nx/\Gh (⟨[],0⟩:Sg).nx [i9 l'] σ [u'] aN/\u'=u/\aJ 0 u':=by
 subst ht;subst h0;subst hu;exact rT (dO h dX) (vN _ rfl)
theorem CH{a b:Tmp}{t:List ResultVar}{v w:U}(ht:rs=.tmp a :: .tmp b::t)(h:aY n l (.tmp a)=some v)(h':aY n l (.tmp b)=some w)(h0:t=[])(hu : .tup [v,w]=u)[q:BU 0 u]:(Exit.ret=.normal\/Exit.ret=.ret)/\∃l',gD T σ (fr n l) rs=some l'/\∃u' aN,(⟨[],0⟩:Sg).nx<=aN.nx/\Gh (⟨[],0⟩:Sg).nx [i9 l'] σ [u'] aN/\u'=u/\aJ 0 u':=by
 subst ht;subst h0;subst hu;exact rT (dO h (dO h' dX)) (vN _ rfl)
end
theorem fR{u0:U}(K sz:Nat)[g:dK h K b][m:Be b][t:mY K b sz u0 u][q:IG K b sz h h'][p:BU 0 u]:Gh 0 [u0] ⟨h,nx⟩ [u] ⟨[],0⟩:=Gh.trans (mF K sz) (vN u rfl)
theorem wR{u0:U}[w:C7 u0 u][p:BU 0 u]:Gh 0 [u0] σ [u] ⟨[],0⟩:=Gh.trans (Gh.wk (.cons w.h .nil)) (vN u rfl)
section
variable{C:PG}{n0 n:Nat}{Q:Exit->List U->Sg->Prop}{l:List (Nat×U)}{σ:Sg}
theorem cF{β:Type}{c:Operand}{p q:Code}{t:Bool}{a b r:Option β}(J:cond t a b=r)(h1:t=true->a=r->WPU C n0 p (fr n l) σ Q)(h2:t=false->b=r->WPU C n0 q (fr n l) σ Q)(hc:aY n l c=some (.bool t):=by exact rfl):WPU C n0 (.cond c p q) (fr n l) σ Q:=cU hc (fun h=>h1 h (OD h J)) (fun h=>h2 h (OE h J))
end
class A9(op:BinOp)(k:IntKind)(a:Int)(k':IntKind)(b:Int)(r:outParam Value):Prop where
 h:fP op k a k' b=some r
section
variable{k:IntKind}{a b:Int}
instance:A9 .add k a k b (.int k (k.wrap (a+b))):=⟨MW k a b⟩
instance:A9 .sub k a k b (.int k (k.wrap (a-b))):=⟨MM k a b⟩
instance:A9 .mul k a k b (.int k (k.wrap (a*b))):=⟨MQ k a b⟩
instance:A9 .eql k a k b (.bool (a==b)):=⟨MV k a b⟩
instance:A9 .neq k a k b (.bool (a != b)):=⟨MP k a b⟩
instance:A9 .lss k a k b (.bool (decide (a<b))):=⟨MR k a b⟩
instance:A9 .leq k a k b (.bool (decide (a<=b))):=⟨MS k a b⟩
instance:A9 .gtr k a k b (.bool (decide (a>b))):=⟨MT k a b⟩
instance:A9 .geq k a k b (.bool (decide (a>=b))):=⟨MU k a b⟩
end
class cY(T:Tb)(t:TypeId)(d:outParam TypeDesc):Prop where
 h:T.und t=some d
class SzC(T:Tb)(t:TypeId)(n:outParam Nat):Prop where
 h:bJ T t=some n
section
variable{P:Program}{T:Tb}{ops r:List Oper}{o:Oper}{n:Nat}{l:List (Nat×U)}{σ σ':Sg}{u:U}
variable{d:Tmp}
theorem wT{j:Nat}{b:Bool}(hg:o.guard=some (j,true))(hj:qO ops j=some d)(hl:aY n l (.tmp d)=some (.bool b))(hb:b=true):bO ops (fr n l) o=some true:=Jy hg hj hl hb
theorem wF{j:Nat}{b:Bool}(hg:o.guard=some (j,false))(hj:qO ops j=some d)(hl:aY n l (.tmp d)=some (.bool b))(hb:b=false):bO ops (fr n l) o=some true:=Jy hg hj hl hb
theorem wA{A:Prop}(h:A:=by first |exact rfl |exact Go.Vx.wT rfl rfl rfl (by first |with_reducible_and_instances assumption |exact rfl)|exact Go.Vx.wF rfl rfl rfl (by first |with_reducible_and_instances assumption |exact rfl)):A:=h
variable{C:PG}
variable{K:List U->Sg->Prop}
theorem RS.w(he:o.dst=some d)(h:aV T σ (fr n l) o.op=some (u,σ'))(hk:RU C T ops r (fr n ((d,u)::l)) σ' K)(hw:bO ops (fr n l) o=some true:=by exact Go.Vx.wA)(hd:Nat.blt d n=true:=by exact rfl):RU C T ops (o::r) (fr n l) σ K:=RS.op hw h he hd hk
theorem RS.wn(he:o.dst=none)(h:aV T σ (fr n l) o.op=some (u,σ'))(hk:RU C T ops r (fr n l) σ' K)(hw:bO ops (fr n l) o=some true:=by exact Go.Vx.wA):RU C T ops (o::r) (fr n l) σ K:=RS.opn hw h he hk
theorem RD.w{acc:List RK}{K:List RK->List U->Sg->Prop}(he:o.dst=some d)(h:aV T σ (fr n l) o.op=some (u,σ))(hk:RH P T ops r (fr n ((d,u)::l)) σ ((1,⟨fr n l,o,u,false,false,σ,σ⟩)::acc) K)(hw:bO ops (fr n l) o=some true:=by exact Go.Vx.wA)(hd:Nat.blt d n=true:=by exact rfl):RH P T ops (o::r) (fr n l) σ acc K:=RD.look hw h he hd hk
def U8(n:Nat)(l:List (Nat×U))(o:Oper):Option (Tmp×FuncId×List U):=match o.dst,o.op with
 |some d,.call c=>match c.callee with
  |.value f=>match aY n l f with
   |some (.fn (.func g) [] [])=>match CK n l c.args.toList with
    |some a7=>some (d,g,a7)|none=>none
   |_=>none
  |_=>none
 |_,_=>none
theorem eG{g:FuncId}{a7:List U}(h:U8 n l o=some (d,g,a7))(hg:T.fn g=some fn)(hb:fn.body.isSome=true):o.dst=some d/\fQ T (fr n l) o.op=some (g,a7):=by
 unfold U8 at h;split at h
 ·next d' c h1 h2=>
  split at h
  ·next f h3=>
   split at h
   ·next g' h4=>
    split at h
    ·next as' h5=>simp only[zA,zB]at h;obtain⟨rfl,rfl,rfl⟩:=h;exact⟨h1,by rw[h2];exact wQ h3 h4 hg hb h5 (by simp)⟩
    cases h
   cases h
  cases h
 cases h
theorem aI(h:U8 n l o=some (d,f,args))(hev:aO C.prog f args σ (fun u' σ'=>u'=u/\σ'=σ))(hg:T.fn f=some fn)(hk:RU C T ops r (fr n ((d,u)::l)) σ K)(hb:fn.body.isSome=true:=by exact rfl)(hw:bO ops (fr n l) o=some true:=by exact Go.Vx.wA)(hd:Nat.blt d n=true:=by exact rfl):RU C T ops (o::r) (fr n l) σ K:=RS.call hw (eG h hg hb).2 hev (eG h hg hb).1 hd hk
theorem RS.fc{args':List U}{cC:Sg}(h:U8 n l o=some (d,f,args))(hG:Gh σ.nx args σ args' cC)(hev:aO C.prog f args' cC (fun u' σ'=>u'=u/\σ'=cC))(hg:T.fn f=some fn)(hk:RU C T ops r (fr n ((d,u)::l)) cC K)(hn:σ.nx<=cC.nx:=by exact zY rfl)(hb:fn.body.isSome=true:=by exact rfl)(hw:bO ops (fr n l) o=some true:=by exact Go.Vx.wA)(hd:Nat.blt d n=true:=by exact rfl):RU C T ops (o::r) (fr n l) σ K:=RS.fcall hw (eG h hg hb).2 hG hn hev (eG h hg hb).1 hd hk
theorem gZ{acc:List RK}{K:List RK->List U->Sg->Prop}(h:U8 n l o=some (d,f,args))(hev:∀s,aO P f args s (fun u' σ'=>u'=u/\σ'=s))(hg:T.fn f=some fn)(hk:RH P T ops r (fr n ((d,u)::l)) σ ((0,⟨fr n l,o,u,false,false,σ,σ⟩)::acc) K)(hb:fn.body.isSome=true:=by exact rfl)(hw:bO ops (fr n l) o=some true:=by exact Go.Vx.wA)(hd:Nat.blt d n=true:=by exact rfl):RH P T ops (o::r) (fr n l) σ acc K:=RD.free hw (eG h hg hb).2 hev (eG h hg hb).1 hd hk
end
theorem vw{args':List U}{v:Value}{cC:Sg}(h:aO P f args ⟨[],0⟩ (fun u' _=>u'=u/\aJ 0 u'))(hg:Gh 0 args' σ args cC)[ha:jC 0 args](hu:toV u=some v:=by simp only[toV,j0,okL,okC,zC]<;>rfl)(hren:∀m,ren m v=v:=by exact fun m=>by simp[ren,aD]):aO P f args' σ (fun u' σ'=>u'=u/\σ'=σ):=aO.view h ha.h hu hren hg
structure Hd(B:Prop):Prop where
 h:B
section
variable{C:PG}{n0:Nat}{tm:List U}{σ:Sg}{Q:Exit->List U->Sg->Prop}
theorem pd[t:Jn C T]{i:Nat}{ops:Array Oper}{L:List Oper}(h:RU C T L L tm σ (fun tm' σ'=>Q .normal tm' σ'))(hl:ops.toList=L):WPU C n0 (.region i ops false) tm σ Q:=WPU.region t.ok (by rw[hl];exact h)
theorem rg1[t:Jn C T]{i:Nat}{ops:Array Oper}{o:Oper}{r:List Oper}(hl:ops.toList=o::r)(h:RU C T (o::r) (o::r) tm σ (fun tm' σ'=>Q .normal tm' σ')):WPU C n0 (.region i ops false) tm σ Q:=pd h hl
end
section
variable{C:PG}{T:Tb}{ops r:List Oper}{o:Oper}{n:Nat}{l:List (Nat×U)}{σ σ':Sg}{u:U}{K:List U->Sg->Prop}{d:Tmp}
theorem RS.nt{j:Nat}{b:Bool}{d':Tmp}(hg:o.guard=some (j,true))(hj:qO ops j=some d')(hl:aY n l (.tmp d')=some (.bool b))(hb:b=false)(he:o.dst=some d)(hd:Nat.blt d n=true)(hk:RU C T ops r (fr n ((d,.tup [])::l)) σ K):RU C T ops (o::r) (fr n l) σ K:=RS.no (Bj hg hj hl hb) he hd hk
theorem RS.nf{j:Nat}{b:Bool}{d':Tmp}(hg:o.guard=some (j,false))(hj:qO ops j=some d')(hl:aY n l (.tmp d')=some (.bool b))(hb:b=true)(he:o.dst=some d)(hd:Nat.blt d n=true)(hk:RU C T ops r (fr n ((d,.tup [])::l)) σ K):RU C T ops (o::r) (fr n l) σ K:=RS.no (Bj hg hj hl hb) he hd hk
variable{x:Operand}
theorem RS.mo(ho:o.op=.move x)(hx:aY n l x=some u)(he:o.dst=some d)(hw:bO ops (fr n l) o=some true)(hd:Nat.blt d n=true)(hk:RU C T ops r (fr n ((d,u)::l)) σ K):RU C T ops (o::r) (fr n l) σ K:=RS.w he (by rw[ho];exact lJ hx) hk hw hd
theorem RS.in{op:BinOp}{t t':TypeId}{y:Operand}{k k':IntKind}{a b:Int}{v:Value}(ho:o.op=.binOp op t x y t')(hx:aY n l x=some (.int k a))(hy:aY n l y=some (.int k' b))[h:A9 op k a k' b v](hr:eT v=some u)(he:o.dst=some d)(hw:bO ops (fr n l) o=some true)(hd:Nat.blt d n=true)(hk:RU C T ops r (fr n ((d,u)::l)) σ K):RU C T ops (o::r) (fr n l) σ K:=RS.w he (by rw[ho];exact pO hx hy h.h hr) hk hw hd
theorem RS.p1{c a b:Operand}{t:Bool}(ho:o.op=.pick c a b)(hc:aY n l c=some (.bool t))(ht:t=true)(h:aY n l a=some u)(he:o.dst=some d)(hw:bO ops (fr n l) o=some true)(hd:Nat.blt d n=true)(hk:RU C T ops r (fr n ((d,u)::l)) σ K):RU C T ops (o::r) (fr n l) σ K:=RS.w he (by rw[ho];exact Zl hc ht h) hk hw hd
theorem RS.p0{c a b:Operand}{t:Bool}(ho:o.op=.pick c a b)(hc:aY n l c=some (.bool t))(ht:t=false)(h:aY n l b=some u)(he:o.dst=some d)(hw:bO ops (fr n l) o=some true)(hd:Nat.blt d n=true)(hk:RU C T ops r (fr n ((d,u)::l)) σ K):RU C T ops (o::r) (fr n l) σ K:=RS.w he (by rw[ho];exact Zm hc ht h) hk hw hd
theorem RS.ex{i:Nat}{q:List U}(ho:o.op=.extract x i)(hx:aY n l x=some (.tup q))(h:nth q i=some u)(he:o.dst=some d)(hw:bO ops (fr n l) o=some true)(hd:Nat.blt d n=true)(hk:RU C T ops r (fr n ((d,u)::l)) σ K):RU C T ops (o::r) (fr n l) σ K:=RS.w he (by rw[ho];exact Vf hx h) hk hw hd
theorem RS.un{op:UnOp}{t:TypeId}{v:U}{v1 v2:Value}(ho:o.op=.unOp op t x)(hx:aY n l x=some v)(h:toV v=some v1)(hu:EY op v1=some v2)(hq:eT v2=some u)(he:o.dst=some d)(hw:bO ops (fr n l) o=some true)(hd:Nat.blt d n=true)(hk:RU C T ops r (fr n ((d,u)::l)) σ K):RU C T ops (o::r) (fr n l) σ K:=RS.w he (by rw[ho];exact GK hx h hu hq) hk hw hd
theorem RS.a(ho:o.op=.assign x)(hx:aY n l x=some u)(he:o.dst=some d)(hw:bO ops (fr n l) o=some true)(hd:Nat.blt d n=true)(hk:RU C T ops r (fr n ((d,u)::l)) σ K):RU C T ops (o::r) (fr n l) σ K:=RS.as hw ho hx he hk hd
end
class fG(T:Tb)(t:TypeId)(a b:outParam Nat)(z:outParam Value):Prop where
 h:T.inf t=some (a,b,z)
instance{T:Tb}{t:TypeId}{a b:Nat}{z:Value}[q:fG T t a b z]:SzC T t a:=⟨bQ q.h⟩
class m5(T:Tb)(t:TypeId)(zu:outParam (List U)):Prop where
 h:∃a b z,T.inf t=some (a,b,z)/\jF z.cells.toList=some zu/\okL zu=true
class sU(u:U)(cs:outParam (List U)):Prop where
 h:o0 u=some cs
instance{l:List U}:sU (.agg l) l:=⟨rfl⟩
instance{k:IntKind}{z:Int}:sU (.int k z) [.int k z]:=⟨rfl⟩
instance{b:Bool}:sU (.bool b) [.bool b]:=⟨rfl⟩
instance{s:List UInt8}:sU (.str s) [.str s]:=⟨rfl⟩
instance{t:Bool}{l:List (List U)}:sU (.isl t l) [.isl t l]:=⟨rfl⟩
instance{k st off:Nat}:sU (.ptr k st off) [.ptr k st off]:=⟨rfl⟩
instance{k st off n:Nat}:sU (.vl k st off n) [.vl k st off n]:=⟨rfl⟩
instance{k off n c:Nat}:sU (.sl k off n c) [.sl k off n c]:=⟨rfl⟩
instance{k:Nat}:sU (.map k) [.map k]:=⟨rfl⟩
instance{f:Fn}{a c:List U}:sU (.fn f a c) [.fn f a c]:=⟨rfl⟩
class CM(q:List U)(off n:Nat)(cs:outParam (List U)):Prop where
 h:fI q off n=some cs
instance{q:List U}:CM q 0 0 []:=⟨by simp[fI]⟩
instance{a:U}{q cs:List U}{n:Nat}[s:CM q 0 n cs]:CM (a::q) 0 (n+1) (a::cs):=⟨by
 have:=s.h;unfold fI at*;split at this
 ·next h=>cases this;rw[if_pos (by simp at*;omega)];simp
 cases this⟩
instance{a:U}{q cs:List U}{o n:Nat}[s:CM q o n cs]:CM (a::q) (o+1) n cs:=⟨by
 have:=s.h;unfold fI at*;split at this
 ·next h=>cases this;rw[if_pos (by simp at*;omega)];simp
 cases this⟩
instance(priority:=low){α:Type}{c:α->List U}{x:α}{sz:Nat}[q:eI c sz]:CM (c x) 0 sz (c x):=⟨by
 unfold fI;rw[if_pos (by rw[q.h];omega),List.drop_zero,zW (by rw[q.h];exact zF _)]⟩
class SM(q:List U)(n:Nat):Prop where
 h:q.length=n
instance:SM [] 0:=⟨rfl⟩
instance{a:U}{q:List U}{n:Nat}[s:SM q n]:SM (a::q) (n+1):=⟨by simp[s.h]⟩
class EK(q:List U)(off:Nat)(cs:List U)(q':outParam (List U)):Prop where
 h:jW q off cs=some q'
instance{q:List U}:EK q 0 [] q:=⟨by simp[jW]⟩
instance{a b:U}{q cs q':List U}[s:EK q 0 cs q']:EK (a::q) 0 (b::cs) (b::q'):=⟨by
 have:=s.h;unfold jW at*;split at this
 ·next h=>cases this;rw[if_pos (by simp at*;omega)];simp
 cases this⟩
instance{a:U}{q cs q':List U}{o:Nat}[s:EK q o cs q']:EK (a::q) (o+1) cs (a::q'):=⟨by
 have:=s.h;unfold jW at*;split at this
 ·next h=>cases this;rw[if_pos (by simp at*;omega)];simp[show o+1+cs.length=(o+cs.length)+1 by omega]
 cases this⟩
instance(priority:=low){α:Type}{c:α->List U}{x:α}{sz:Nat}{q:List U}[s:eI c sz][t:SM q sz]:EK q 0 (c x) (c x):=⟨by
 unfold jW;have h1:=s.h x;have h2:=t.h;rw[if_pos (by omega),List.drop_eq_nil_of_le (by omega)];simp⟩
class Jx(a b:List U)(c:outParam (List U)):Prop where
 h:a++b=c
instance{b:List U}:Jx [] b b:=⟨rfl⟩
instance{x:U}{a b c:List U}[s:Jx a b c]:Jx (x::a) b (x::c):=⟨by rw[List.cons_append,s.h]⟩
class Jo(pl:List (Nat×Nat))(i:Nat)(o s:outParam Nat):Prop where
 h:nth pl i=some (o,s)
instance{o s:Nat}{pl:List (Nat×Nat)}:Jo ((o,s)::pl) 0 o s:=⟨rfl⟩
instance{a:Nat×Nat}{i o s:Nat}{pl:List (Nat×Nat)}[q:Jo pl i o s]:Jo (a::pl) (i+1) o s:=⟨q.h⟩
variable{zu:List U}
variable{q':List U}
variable{cs:List U}
variable{s:Nat}
variable{qs:List (Nat×U)}
theorem Wb{place:Nat->Option (Nat×Nat)}{c0:List U}{i o:Nat}{v:U}(hp:place i=some (o,s))(hc:o0 v=some c0)(hl:c0.length=s)(hq:jW zu o c0=some q')(hr:lH place q' qs=some cs):lH place zu ((i,v)::qs)=some cs:=by
 have:Nat.beq c0.length s=true:=by simp[beq_eq,hl]
 simp only[lH,hp,hc,this,zC,hq,hr]
class Jv(pl:List (Nat×Nat))(zu:List U)(qs:List (Nat×U))(cs:outParam (List U)):Prop where
 h:lH (nth pl) zu qs=some cs
instance{pl:List (Nat×Nat)}{zu:List U}:Jv pl zu [] zu:=⟨rfl⟩
instance{pl:List (Nat×Nat)}{zu q' cs c0:List U}{i o s:Nat}{v:U}{qs:List (Nat×U)}[p:Jo pl i o s][c:sU v c0][l:SM c0 s][q:EK zu o c0 q'][r:Jv pl q' qs cs]:Jv pl zu ((i,v)::qs) cs:=⟨Wb p.h c.h l.h q.h r.h⟩
class Jr(a b:Nat)(c:outParam Nat):Prop where
 h:a*b=c
instance{b:Nat}:Jr 0 b 0:=⟨Nat.zero_mul b⟩
instance{b:Nat}:Jr 1 b b:=⟨Nat.one_mul b⟩
instance{a:Nat}:Jr (a+2) 1 (a+2):=⟨Nat.mul_one _⟩
class Ju(s:Nat)(zu:List U)(qs:List (Nat×U))(cs:outParam (List U)):Prop where
 h:lH (fun i=>some (i*s,s)) zu qs=some cs
instance{s:Nat}{zu:List U}:Ju s zu [] zu:=⟨rfl⟩
instance{zu q' cs c0:List U}{i o s:Nat}{v:U}{qs:List (Nat×U)}[m:Jr i s o][c:sU v c0][l:SM c0 s][q:EK zu o c0 q'][r:Ju s q' qs cs]:Ju s zu ((i,v)::qs) cs:=⟨Wb (by rw[m.h]) c.h l.h q.h r.h⟩
class Jl(z:List U)(k:Nat)(zs:outParam (List U)):Prop where
 h:lX z k=zs
instance{z:List U}:Jl z 0 []:=⟨rfl⟩
instance{z a b:List U}{k:Nat}[q:Jl z k a][p:Jx z a b]:Jl z (k+1) b:=⟨by
 have:=q.h;have:=p.h;simp only[lX,List.replicate_succ,List.flatten_cons]at*;simp_all⟩
class DeC{α:Type}(c:α->List U)(cs:List U)(x:outParam α):Prop where
 h:c x=cs
instance{k:IntKind}{z:Int}:DeC (cI k) [.int k z] z:=⟨rfl⟩
instance{s:List UInt8}:DeC cS [.str s] s:=⟨rfl⟩
instance{α:Type}{c:α->List U}{l:List α}:DeC (cL c) [.isl false (l.map c)] l:=⟨rfl⟩
instance(priority:=low){α:Type}{c:α->List U}{x:α}:DeC c (c x) x:=⟨rfl⟩
instance(priority:=low){α:Type}{c:α->List U}{x:α}:IB (c x) (c x):=⟨jU.refl _⟩
class oA(T:Tb)(t:TypeId)(zu:outParam (List U))(pl:outParam (List (Nat×Nat))):Prop where
 h:Ur T t zu pl
class SuC(a:Nat)(b:outParam Nat):Prop where
 h:a+1=b
instance:SuC 0 1:=⟨rfl⟩
instance:SuC 1 2:=⟨rfl⟩
instance:SuC 2 3:=⟨rfl⟩
instance:SuC 3 4:=⟨rfl⟩
instance:SuC 4 5:=⟨rfl⟩
instance:SuC 5 6:=⟨rfl⟩
instance:SuC 7 8:=⟨rfl⟩
instance:SuC 9 10:=⟨rfl⟩
class AdC(a b:Nat)(c:outParam Nat):Prop where
 h:a+b=c
instance{b:Nat}:AdC 0 b b:=⟨Nat.zero_add b⟩
class Jp(a:Nat)(b:outParam Nat):Prop where
 h:a+1=b
instance{a b:Nat}[q:SuC a b]:Jp a b:=⟨q.h⟩
instance(priority:=low){a:Nat}:Jp a (a+1):=⟨rfl⟩
section
variable{T:Tb}{n:Nat}{l:List (Nat×U)}{h h':List (Nat×B)}{nx nx':Nat}{u v w:U}{op:Op}
variable{e:TypeId}
theorem oAl(ho:op=.alloc e)[z:m5 T e zu][hn:SuC nx nx']:aV T ⟨h,nx⟩ (fr n l) op=some (.ptr nx 0 0,⟨(nx,.row zu e)::h,nx'⟩):=by
 subst ho;have hn':=hn.h;subst hn';obtain⟨a,b,q,h1,h2,h3⟩:=z.h;exact sf h1 h2 h3
variable{x:Operand}
theorem oBx(ho:op=.box e x)(hx:aY n l x=some v)[c:sU v cs](hk:okL cs=true)[hn:SuC nx nx']:aV T ⟨h,nx⟩ (fr n l) op=some (.ptr nx 0 0,⟨(nx,.row cs e)::h,nx'⟩):=by
 subst ho;have hn':=hn.h;subst hn';exact M5 hx c.h hk
variable{t:TypeId}
variable{a:Operand}
variable{k:Nat}
variable{off:Nat}
variable{sz:Nat}
variable{q:List U}
theorem oSt(ho:op=.store t a x)(ha:aY n l a=some (.ptr k 0 off))(hx:aY n l x=some v)[g:dK h k (.row q e)][s:SzC T t sz][c:sU v cs][p:EK q off cs q'][w:IC h k (.row q' e) h'](hl:Nat.beq cs.length sz=true)(hk:okL cs=true):aV T ⟨h,nx⟩ (fr n l) op=some (.junk,⟨h',nx⟩):=by
 subst ho;refine se s.h ha hx c.h hl hk (q:=q) (q':=q') ?_ ?_ ?_;simp only[cellsOf,g.h];rfl;simp only[uO,g.h];exact p.h;simp only[B3,g.h,w.h]
variable{d:TypeDesc}
theorem oLa(ho:op=.load t x)(hx:aY n l x=some (.ptr k 0 off))[hd:cY T t d](ha:kQ d=true)[g:dK h k (.row q e)][s:SzC T t sz][p:CM q off sz cs]:aV T ⟨h,nx⟩ (fr n l) op=some (.agg cs,⟨h,nx⟩):=by
 subst ho;exact pP hd.h ha s.h hx (by simp only[cellsOf,g.h];rfl) p.h
theorem oLo(ho:op=.load t x)(hx:aY n l x=some (.ptr k 0 off))[hd:cY T t d](ha:kQ d=false)[g:dK h k (.row q e)](hu:nth q off=some u):aV T ⟨h,nx⟩ (fr n l) op=some (u,⟨h,nx⟩):=by
 subst ho;exact CV hd.h ha hx (by simp only[cellsOf,g.h];rfl) hu
theorem oIa(ho:op=.load t x)(hx:aY n l x=some (.iptr q))[hd:cY T t d](ha:kQ d=true)[s:SzC T t sz][p:CM q 0 sz cs]:aV T ⟨h,nx⟩ (fr n l) op=some (.agg cs,⟨h,nx⟩):=by
 subst ho;exact Vn hd.h ha s.h hx p.h
theorem oIo(ho:op=.load t x)(hx:aY n l x=some (.iptr q))[hd:cY T t d](ha:kQ d=false)(hu:nth q 0=some u):aV T ⟨h,nx⟩ (fr n l) op=some (u,⟨h,nx⟩):=by
 subst ho;exact UI hd.h ha hx hu
theorem oFa{f:Nat}{fs:Array Field}{fd:Field}{off':Nat}(ho:op=.fieldAddr t x f)(hx:aY n l x=some (.ptr k 0 off))[hd:cY T t (.struct fs)][g:dK h k (.row q e)](hf:nth fs.toList f=some fd)(hs:bJ T fd.type=some (s+1))(h2:off+fd.offset=off'):aV T ⟨h,nx⟩ (fr n l) op=some (.ptr k 0 off',⟨h,nx⟩):=by
 subst ho;exact qN hd.h hf hs hx (by simp only[live,g.h];rfl) h2
theorem oFi{f:Nat}{fs:Array Field}{fd:Field}(ho:op=.fieldAddr t x f)(hx:aY n l x=some (.iptr q))[hd:cY T t (.struct fs)](hf:nth fs.toList f=some fd)(hs:bJ T fd.type=some (s+1))(hq:q.drop fd.offset=q'):aV T ⟨h,nx⟩ (fr n l) op=some (.iptr q',⟨h,nx⟩):=by
 subst ho;exact Kg hd.h hf hs hx hq
variable{α:Type}
variable{c:α->List U}
variable{b:Bool}
variable{xs:List α}
theorem oIx{i:Operand}{k:IntKind}{z:Int}{y:α}(ho:op=.indexAddr t x i)(hx:aY n l x=some (.isl b (xs.map c)))(hi:aY n l i=some (.int k z))[hd:cY T t (.slice e)][hs:SzC T e sz][hc:eI c sz](hy:aC xs z=some y):aV T ⟨h,nx⟩ (fr n l) op=some (.iptr (c y),⟨h,nx⟩):=by
 subst ho;exact eJ hx hi (PZ c hd.h hs.h hc.h hy rfl)
variable{args:Array Operand}
variable{ts:Array TypeId}
theorem oLe{q:List TypeId}(ho:op=.call { callee:=.builtin .len,args:=args,argTypes:=ts })(ha:args.toList=[x])(ht:ts.toList=t::q)(hx:aY n l x=some (.isl b (xs.map c)))[hd:cY T t (.slice e)]:aV T ⟨h,nx⟩ (fr n l) op=some (.int .i64 xs.length,⟨h,nx⟩):=by
 subst ho;exact B6 ha ht hx (Xy c hd.h)
theorem oLv{e':TypeId}{q:List TypeId}{K st m:Nat}(ho:op=.call { callee:=.builtin .len,args:=args,argTypes:=ts })(ha:args.toList=[x])(ht:ts.toList=t::q)(hx:aY n l x=some (.vl K st 0 m))[hd:cY T t (.slice e)][g:dK h K (.vec cs e' sz st)]:aV T ⟨h,nx⟩ (fr n l) op=some (.int .i64 m,⟨h,nx⟩):=by
 subst ho;exact B6 ha ht hx (Mf hd.h g.h)
theorem oBd{pl:List (Nat×Nat)}{ps:Array (Nat×Operand)}(ho:op=.build t ps)[q:oA T t zu pl](he:rV n l ps.toList=some qs)(c:Jv pl zu qs cs)(hk:okL cs=true):aV T ⟨h,nx⟩ (fr n l) op=some (.agg cs,⟨h,nx⟩):=by
 subst ho;exact Vg q.h he c.h hk
variable{z:Value}
theorem oBs{b:Nat}{zs:List U}{ps:Array (Nat×Operand)}(ho:op=.buildSlice t k ps)(he:rV n l ps.toList=some qs)[hd:cY T t (.slice e)][hi:fG T e sz b z][hz:m5 T e zu](zc:Jl zu k zs)(c:Ju sz zs qs cs)(hk:okL cs=true)(h1:Nat.ble (k*sz) 16777216=true)(h2:Nat.ble k 16777216=true)(h3:Nat.beq z.cells.toList.length sz=true)(hn:SuC nx nx'):aV T ⟨h,nx⟩ (fr n l) op=some (.sl nx 0 k k,⟨(nx,.row cs e)::h,nx'⟩):=by
 subst ho;have hn':=hn.h;subst hn';obtain⟨a,b',q,g1,g2,g3⟩:=hz.h;have e1:=hi.h;rw[g1]at e1;cases e1;exact wN hd.h hi.h he h1 h2 h3 g2 (by rw[zc.h];exact c.h) hk
variable{σ:Sg}
theorem oMv(ho:op=.move x)(hx:aY n l x=some u):aV T σ (fr n l) op=some (u,σ):=by subst ho;exact lJ hx
theorem oAs(ho:op=.assign x)(hx:aY n l x=some u):aV T σ (fr n l) op=some (u,σ):=by subst ho;exact zg hx
variable{y:Operand}
theorem oIn{b:BinOp}{t':TypeId}{k k':IntKind}{i j:Int}{r:Value}(ho:op=.binOp b t x y t')(hx:aY n l x=some (.int k i))(hy:aY n l y=some (.int k' j))[q:A9 b k i k' j r](hr:eT r=some u):aV T σ (fr n l) op=some (u,σ):=by subst ho;exact pO hx hy q.h hr
theorem oP1{c b:Operand}{t:Bool}(ho:op=.pick c a b)(hc:aY n l c=some (.bool t))(ht:t=true)(hu:aY n l a=some u):aV T σ (fr n l) op=some (u,σ):=by subst ho;exact Zl hc ht hu
theorem oP0{c b:Operand}{t:Bool}(ho:op=.pick c a b)(hc:aY n l c=some (.bool t))(ht:t=false)(hu:aY n l b=some u):aV T σ (fr n l) op=some (u,σ):=by subst ho;exact Zm hc ht hu
theorem oEx{i:Nat}(ho:op=.extract x i)(hx:aY n l x=some (.tup q))(hu:nth q i=some u):aV T σ (fr n l) op=some (u,σ):=by subst ho;exact Vf hx hu
theorem oUn{b:UnOp}{v1 v2:Value}(ho:op=.unOp b t x)(hx:aY n l x=some v)(h1:toV v=some v1)(h2:EY b v1=some v2)(hq:eT v2=some u):aV T σ (fr n l) op=some (u,σ):=by subst ho;exact GK hx h1 h2 hq
theorem oAp{xt e1 e2:TypeId}{a st st' K s0 s1 by_:Nat}{yv:α}{cs':List U}(ho:op=.call { callee:=.builtin .append,args:=args,argTypes:=ts })(ha:args.toList=[x,y])(ht:ts.toList=[t,xt])(hx:aY n l x=some (.vl a st 0 xs.length))(hy:aY n l y=some (.sl K 0 1 1))[d1:cY T t (.slice e)][d2:cY T xt (.slice e2)][g:dK h a (.vec (xs.map c).flatten e s0 st)][i:fG T e s1 by_ z][g2:dK h K (.row q e1)][s:CM q 0 s1 cs][w:IB cs cs'][d:DeC c cs' yv][lc:eI c s1][Rv:Jp st st'][ug:IC h a (.vec (List.map c (xs++[yv])).flatten e s1 st') h'](GW:s0=s1)(hp:Nat.ble 1 s1=true)(hc:kJ cs=(List.map c [yv]).flatten)(hz:Nat.beq z.cells.toList.length s1=true)(hr:(xs.length+1)*by_<=140737488355328/\xs.length+1<=140737488355328):aV T ⟨h,nx⟩ (fr n l) op=some (.vl a st' 0 (xs++[yv]).length,⟨h',nx⟩):=by
 subst ho;subst GW;obtain⟨sz,rfl⟩:∃sz,s0=sz+1:=⟨s0-1,by have:=zY hp;omega⟩;have e1:=Rv.h;subst e1;have:=m8 (σ:=⟨h,nx⟩) ha ht hx hy (tK c [yv] d1.h d2.h i.h hz lc.h g.h (vA c [yv] (q:=q) (by simp only[rowOf,g2.h]) (by rw[Nat.one_mul];exact s.h) rfl hc) hr);rw[ug.h]at this;exact this
theorem oAq{xt e2:TypeId}{a st st' s0 s1 by_:Nat}{ys:List α}(ho:op=.call { callee:=.builtin .append,args:=args,argTypes:=ts })(ha:args.toList=[x,y])(ht:ts.toList=[t,xt])(hx:aY n l x=some (.vl a st 0 xs.length))(hy:aY n l y=some (.isl b (ys.map c)))[d1:cY T t (.slice e)][d2:cY T xt (.slice e2)][g:dK h a (.vec (xs.map c).flatten e s0 st)][i:fG T e s1 by_ z][lc:eI c s1][Rv:Jp st st'][ug:IC h a (.vec (List.map c (xs++ys)).flatten e s1 st') h'](GW:s0=s1)(hp:Nat.ble 1 s1=true)(hz:Nat.beq z.cells.toList.length s1=true)(hr:(xs.length+ys.length)*by_<=140737488355328/\xs.length+ys.length<=140737488355328):aV T ⟨h,nx⟩ (fr n l) op=some (.vl a st' 0 (xs++ys).length,⟨h',nx⟩):=by
 subst ho;subst GW;obtain⟨sz,rfl⟩:∃sz,s0=sz+1:=⟨s0-1,by have:=zY hp;omega⟩;have e1:=Rv.h;subst e1;have:=m8 (σ:=⟨h,nx⟩) ha ht hx hy (tK c ys d1.h d2.h i.h hz lc.h g.h (UU c lc.h) hr);rw[ug.h]at this;exact this
end
variable{A:Prop}
theorem opx (h:A:=by first
 |exact Go.Vx.oIo rfl rfl rfl rfl
 |exact Go.Vx.oLo rfl rfl rfl rfl
 |exact Go.Vx.oFi rfl rfl (by exact rfl) (by exact Go.Vx.SzC.h) (by exact rfl)
 |exact Go.Vx.oFa rfl rfl (by exact rfl) (by exact Go.Vx.SzC.h) (by exact Go.Vx.AdC.h)
 |exact Go.Vx.oLa rfl rfl rfl
 |exact Go.Vx.oIa rfl rfl rfl
 |exact Go.Vx.oLe rfl rfl rfl rfl
 |exact Go.Vx.oLv rfl rfl rfl rfl
 |exact Go.Vx.oBx rfl rfl rfl
 |exact Go.Vx.oAl rfl
 |exact Go.Vx.oSt rfl rfl rfl rfl rfl
 |exact Go.Vx.oBd rfl rfl (by exact inferInstance) rfl):A:=h
theorem opy (h:A:=by first
 |exact Go.Vx.oMv rfl rfl
 |exact Go.Vx.oAs rfl rfl
 |exact Go.Vx.oIn rfl rfl rfl rfl
 |exact Go.Vx.oEx rfl rfl rfl
 |exact Go.Vx.oP1 rfl rfl (by first |with_reducible_and_instances assumption |exact rfl) rfl
 |exact Go.Vx.oP0 rfl rfl (by first |with_reducible_and_instances assumption |exact rfl) rfl
 |exact Go.Vx.oUn rfl rfl rfl rfl rfl
 |exact Go.Vx.opx):A:=h
theorem opz (h:A:=by first
 |exact Go.Vx.oBs rfl rfl (by exact inferInstance) (by exact inferInstance) rfl rfl rfl rfl (by exact inferInstance)
 |exact Go.Vx.oAp rfl rfl rfl rfl rfl rfl rfl rfl rfl (by with_reducible assumption)
 |exact Go.Vx.oAq rfl rfl rfl rfl rfl rfl rfl rfl (by with_reducible assumption)
 |exact Go.Vx.opx):A:=h
section
variable{T:Tb}{ops r:List Oper}{o:Oper}{n:Nat}{l:List (Nat×U)}{σ σ':Sg}{u:U}
variable{C:PG}
variable{K:List U->Sg->Prop}
variable{d:Tmp}
theorem bV(hk:RU C T ops r (fr n ((d,u)::l)) σ' K)(h:aV T σ (fr n l) o.op=some (u,σ'):=by exact Go.Vx.opz)(he:o.dst=some d:=by exact rfl)(hw:bO ops (fr n l) o=some true:=by exact Go.Vx.wA)(hd:Nat.blt d n=true:=by exact rfl):RU C T ops (o::r) (fr n l) σ K:=RS.op hw h he hd hk
variable{P:Program}
variable{acc:List RK}
variable{K:List RK->List U->Sg->Prop}
theorem dT(hk:RH P T ops r (fr n ((d,u)::l)) σ' ((3,⟨fr n l,o,u,true,true,σ,σ'⟩)::acc) K)(h:aV T σ (fr n l) o.op=some (u,σ'):=by exact Go.Vx.opz)(he:o.dst=some d:=by exact rfl)(hw:bO ops (fr n l) o=some true:=by exact Go.Vx.wA)(hd:Nat.blt d n=true:=by exact rfl):RH P T ops (o::r) (fr n l) σ acc K:=RD.act hw h he hd hk
theorem pI(hk:RH P T ops r (fr n l) σ' ((3,⟨fr n l,o,u,true,true,σ,σ'⟩)::acc) K)(h:aV T σ (fr n l) o.op=some (u,σ'):=by exact Go.Vx.opz)(he:o.dst=none:=by exact rfl)(hw:bO ops (fr n l) o=some true:=by exact Go.Vx.wA):RH P T ops (o::r) (fr n l) σ acc K:=SN hw h he hk
theorem RD.ou(hk:RH P T ops r (fr n ((d,u)::l)) σ ((1,⟨fr n l,o,u,false,false,σ,σ⟩)::acc) K)(h:aV T σ (fr n l) o.op=some (u,σ):=by exact Go.Vx.opy)(he:o.dst=some d:=by exact rfl)(hw:bO ops (fr n l) o=some true:=by exact Go.Vx.wA)(hd:Nat.blt d n=true:=by exact rfl):RH P T ops (o::r) (fr n l) σ acc K:=RD.look hw h he hd hk
theorem RD.nt{d':Tmp}{j:Nat}{b:Bool}(hg:o.guard=some (j,true))(hj:qO ops j=some d')(hl:aY n l (.tmp d')=some (.bool b))(hb:b=false)(he:o.dst=some d)(hk:RH P T ops r (fr n ((d,.tup [])::l)) σ ((0,⟨fr n l,o,.tup [],false,false,σ,σ⟩)::acc) K)(hd:Nat.blt d n=true:=by exact rfl):RH P T ops (o::r) (fr n l) σ acc K:=RD.no (Bj hg hj hl hb) he hd hk
theorem RD.nf{d':Tmp}{j:Nat}{b:Bool}(hg:o.guard=some (j,false))(hj:qO ops j=some d')(hl:aY n l (.tmp d')=some (.bool b))(hb:b=true)(he:o.dst=some d)(hk:RH P T ops r (fr n ((d,.tup [])::l)) σ ((0,⟨fr n l,o,.tup [],false,false,σ,σ⟩)::acc) K)(hd:Nat.blt d n=true:=by exact rfl):RH P T ops (o::r) (fr n l) σ acc K:=RD.no (Bj hg hj hl hb) he hd hk
theorem aP{K:List U->Sg->Prop}{α:Type}{xs:List α}{z:Int}{y:α}(hy:aC xs z=some y)(hk:RU C T ops r (fr n ((d,u)::l)) σ K)(h:aC xs z=some y->aV T σ (fr n l) o.op=some (u,σ):=by intro hy;exact Go.Vx.oIx rfl rfl rfl hy)(he:o.dst=some d:=by exact rfl)(hw:bO ops (fr n l) o=some true:=by exact Go.Vx.wA)(hd:Nat.blt d n=true:=by exact rfl):RU C T ops (o::r) (fr n l) σ K:=RS.op hw (h hy) he hd hk
theorem bY{α:Type}{xs:List α}{z:Int}{y:α}(hy:aC xs z=some y)(hk:RH P T ops r (fr n ((d,u)::l)) σ ((1,⟨fr n l,o,u,false,false,σ,σ⟩)::acc) K)(h:aC xs z=some y->aV T σ (fr n l) o.op=some (u,σ):=by intro hy;exact Go.Vx.oIx rfl rfl rfl hy)(he:o.dst=some d:=by exact rfl)(hw:bO ops (fr n l) o=some true:=by exact Go.Vx.wA)(hd:Nat.blt d n=true:=by exact rfl):RH P T ops (o::r) (fr n l) σ acc K:=RD.look hw (h hy) he hd hk
theorem RS.ou{K:List U->Sg->Prop}(hk:RU C T ops r (fr n ((d,u)::l)) σ' K)(h:aV T σ (fr n l) o.op=some (u,σ'):=by exact Go.Vx.opx)(he:o.dst=some d:=by exact rfl)(hw:bO ops (fr n l) o=some true:=by exact Go.Vx.wA)(hd:Nat.blt d n=true:=by exact rfl):RU C T ops (o::r) (fr n l) σ K:=RS.op hw h he hd hk
theorem RS.oz{K:List U->Sg->Prop}(hk:RU C T ops r (fr n l) σ' K)(h:aV T σ (fr n l) o.op=some (u,σ'):=by exact Go.Vx.opx)(he:o.dst=none:=by exact rfl)(hw:bO ops (fr n l) o=some true:=by exact Go.Vx.wA):RU C T ops (o::r) (fr n l) σ K:=RS.opn hw h he hk
end
theorem gd{B:Prop}(h:B) (g:Hd B->A:=by
 intro h
 repeat' first
  |(refine Go.Vx.RD.nt rfl rfl rfl ?_ rfl ?_;· first |with_reducible_and_instances assumption |exact rfl)
  |(refine Go.Vx.RD.nf rfl rfl rfl ?_ rfl ?_;· first |with_reducible_and_instances assumption |exact rfl)
  |refine Go.Vx.RD.ou ?_
 exact h.h):A:=g ⟨h⟩
theorem gs{B: Prop}(h:B) (g:Hd B->A:=by
  intro h
  first
    |refine Go.Vx.gq ?_
    |with_reducible refine Go.Vx.sq ?_
    |with_reducible refine Go.Vx.WPU.skip ?_
    |with_reducible refine Go.Vx.RS.done ?_
    |with_reducible refine Go.Vx.WPU.ret ?_
    |with_reducible refine Go.Vx.WPU.exit ?_
    |(refine Go.Vx.RS.nt rfl rfl rfl ?_ rfl rfl ?_;· first |with_reducible_and_instances assumption |exact rfl)
    |(refine Go.Vx.RS.nf rfl rfl rfl ?_ rfl rfl ?_;· first |with_reducible_and_instances assumption |exact rfl)
    |(refine Go.Vx.RS.mo rfl rfl rfl ?_ rfl ?_;· exact Go.Vx.wA)
    |(refine Go.Vx.RS.in rfl rfl rfl rfl rfl ?_ rfl ?_;· exact Go.Vx.wA)
    | (refine Go.Vx.RS.p1 rfl rfl ?_ rfl rfl ?_ rfl ?_; · first | with_reducible_and_instances assumption | exact rfl
       exact Go.Vx.wA)
    | (refine Go.Vx.RS.p0 rfl rfl ?_ rfl rfl ?_ rfl ?_; · first | with_reducible_and_instances assumption | exact rfl
       exact Go.Vx.wA)
    |(refine Go.Vx.RS.a rfl rfl rfl ?_ rfl ?_;· exact Go.Vx.wA)
    |(refine Go.Vx.RS.ex rfl rfl rfl rfl ?_ rfl ?_;· exact Go.Vx.wA)
    |(refine Go.Vx.RS.un rfl rfl rfl rfl rfl rfl ?_ rfl ?_;· exact Go.Vx.wA)
    |refine Go.Vx.RS.ou ?_
    |refine Go.Vx.RS.oz ?_
  exact h.h):A:=g ⟨h⟩
theorem go{B:Prop}(h:B)(g:Hd B->A:=by intro h;(repeat' first |refine Go.Vx.gs ?_ |refine Go.Vx.rg1 rfl ?_);exact h.h):A:=g ⟨h⟩
theorem gn{B:Prop}(h:B)(g:Hd B->A:=by intro h;(repeat' refine Go.Vx.gs ?_);exact h.h):A:=g ⟨h⟩
theorem gr{B:Prop}(h:B)(g:Hd B->A:=by intro h;refine Go.Vx.gn ?_;refine Go.Vx.rg1 rfl ?_;refine Go.Vx.gn ?_;exact h.h):A:=g ⟨h⟩
theorem gx{α:Type}{a b:α}(h:some a=some b)(g:a=b->A:=by intro e;subst e;refine Go.Vx.go ?_;exact Go.Vx.rt1 rfl rfl rfl rfl):A:=g (sI h)
theorem gy{α:Type}{a b:α}(h:some a=some b)(g:a=b->A:=by intro e;subst e;refine Go.Vx.go ?_;exact Go.Vx.xC ⟨rfl,rfl⟩):A:=g (sI h)
theorem gB{β:Type}{t:Bool}{a b r:Option β}(h:cond t a b=r):(t=true/\a=r)\/(t=false/\b=r):=by cases t;exact .inr ⟨rfl,h⟩;exact .inl ⟨rfl,h⟩
abbrev B.bv{α:Type}(c:α->List U)(l:List α)(e:TypeId)(sz st:Nat):B:=.vec (l.map c).flatten e sz st
abbrev cE(P:Program)(f:FuncId)(args:List U)(u:U):Prop:=aO P f args ⟨[],0⟩ (fun u' _=>u'=u/\aJ 0 u')
section
variable{C:PG}{n0 n:Nat}{Q:Exit->List U->Sg->Prop}{l:List (Nat×U)}{h:List (Nat×B)}{nx:Nat}{c:Code}
theorem gV(i:Nat)(e:TypeId)(sz n1:Nat)(hw:WPU C n0 c (fr n ((i,.vl nx 0 0 0)::l)) ⟨(nx,.vec [] e sz 0)::h,n1⟩ Q)(hi:aY n l (.tmp i)=some .nils:=by exact rfl)(hs:Nat.blt 0 sz=true:=by exact rfl)(hn:nx+1=n1:=by exact rfl)(h0:n0<=nx:=by first |exact Nat.zero_le _ |exact zY rfl)(hd:Ji n (some i)=true:=by exact rfl):WPU C n0 c (fr n l) ⟨h,nx⟩ Q:=by
 subst hn;refine cR (Gh.nilS i e sz ?_ h0 hi hd) (Nat.le_succ_of_le h0) hw;exact Nat.lt_of_succ_le (zY hs)
theorem gL{l':List (Nat×U)}{σ:Sg}{id:Nat}(I:Nat->List U->Sg->Prop)(E:List U->Sg->Prop)(k:Nat)(h0:I k (fr n l') σ)
  (out:∀tm σ,E tm σ->Q .normal tm σ)
  (round:∀m tm σ,I m tm σ->WPU C n0 c tm σ (tE (fun tm' σ'=>∃n' tm'' aN,n'<m/\I n' tm'' aN/\n0<=aN.nx/\Gh n0 tm' σ' tm'' aN) (pS id (FA n0 E Q))))
  (hn:n0<=σ.nx:=by first |exact Nat.zero_le _ |exact zY rfl) (ht:AR l l':=by((repeat refine⟨rfl,?_⟩);exact trivial)):WPU C n0 (.block id (.loop c)) (fr n l) σ Q:=cR (Gh.sub ht) hn (WPU.loopK I E k h0 out round)
theorem dE{T:Tb}[t:Jn C T]{tm:List U}{σ:Sg}{id:Nat}{ops:Array Oper}(pr:List (Nat×Nat))(h:RH C.prog T ops.toList ops.toList tm σ [] (fun ks tm' σ'=>vp ops.toList (ks.reverse.map (·.1)) pr=true/\Df T ks.reverse pr/\Q .normal tm' σ'))(hst:KX ops.toList=true:=by kernel_rfl):WPU C n0 (.region id ops true) tm σ Q:=WPU.drawE t.ok pr hst h
end
theorem gF{β:Type}{t:Bool}{a b r:Option β}{A A1 A2:Prop}(J:cond t a b=r)(h1:t=true->a=r->A1)(h2:t=false->b=r->A2) (g:cond t a b=r->Hd (t=true->a=r->A1)->Hd (t=false->b=r->A2)->A:=by
 intro e h k;refine Go.Vx.go ?_;exact Go.Vx.cF e h.h k.h):A:=g J ⟨h1⟩ ⟨h2⟩
end Go.Vx
