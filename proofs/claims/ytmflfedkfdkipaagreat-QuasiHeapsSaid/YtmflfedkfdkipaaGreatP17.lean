import Derived.Shelf.SlSortCmp.WholeK
import Derived.Test.YtmflfedkfdkipaaGreatP16
set_option linter.all false
set_option maxRecDepth 10000
open List Go.IntKind
open Nat hiding beq_eq
namespace Go.Vx
open Go Go.Rx Go.Proofs Go.Sort
def aT.of_same{P:Ib}{f:FuncId}{d:X U}{vs:X I}{u:U}{cv:I}(s:eE d=some vs)(q:∀m,aF m vs=vs)(r:cK u=some cv)(j:∀m,G0 m cv=cv)(h:∀w,Calls P f vs.toArray w fun e g=>e=.returned cv/\g=w)(Y:Sg):aT P f d Y (fun y k=>y=u/\k=Y):=fun F x i m w a t p n o l b=>by
 have:=(F5 d vs s x i).1 o;subst this;have c:a=i:=by rw[<-b.at,q]
 subst c;refine(h w).mono ?_;rintro e g ⟨rfl,rfl⟩;exact⟨x,m,u,cv,cv,rfl,⟨rfl,t⟩,bJ.refl l,fun v _=>j v,p,n,(DL u cv r x cv).2 rfl,Ke.refl _ _,zF _⟩
def MI{a:Type}(lt:a->a->Rl)(x:a):X a->X a
 |[]=>[x]|y::l=>cond (lt y x) (y::MI lt x l) (x::y::l)
def gR{a:Type}(lt:a->a->Rl):X a->X a
 |[]=>[]|x::l=>MI lt x (gR lt l)
def gz{a:Type}(lt:a->a->Rl)(x:a):∀l,(MI lt x l).Perm (x::l)
 |[]=>.refl _|y::l=>by simp only[MI];obtain _|_:=lt y x;exact .refl _;exact((gz lt x l).cons y).trans (.swap _ _ _)
def PE{a:Type}(lt:a->a->Rl):∀l,(gR lt l).Perm l
 |[]=>.refl _|x::l=>(gz lt x _).trans ((PE lt l).cons x)
def fL{a:Type}(lt:a->a->Rl)(l:X a):Prop:=l.Pairwise (fun x y=>lt y x=false)
def qvy{b:Type}{lt:b->b->Rl}(h:SWO lt)(x:b):∀{l},fL lt l->fL lt (MI lt x l)
 |[],_=>by simp[MI,fL]
 |y::l,c=>by
  simp only[MI];unfold fL at c ⊢;rw[wz]at c;cases d:lt y x with
  |true=>simp only[zC];rw[wz];refine⟨fun z a=>?_,qvy h x c.2⟩;have:=(gz lt x l).mem_iff.1 a;obtain rfl |a:=zI.1 this;rcases e:lt z y with _|_;rfl;have:=h.trans y z y d e;rw[h.irrefl]at this;cases this;exact c.1 z a
  |false=>simp only[zD];rw[wz];refine⟨fun z a=>?_,pairwise_cons.2 c⟩;obtain rfl |a:=zI.1 a;exact d;exact h.ntrans z y x (c.1 z a) d
def z3o{a:Type}{lt:a->a->Rl}(h:SWO lt):∀l,fL lt (gR lt l)
 |[]=>by simp[gR,fL]
 |x::l=>qvy h x (z3o h l)
end Go.Vx
namespace Go.Proofs
open Go Go.Rx Go.Vx Go.Shelf Go.Sort
def qgv:∀a b:X RX,lX a b=true↔a=b
 |[],[]=>by simp[lX]
 |[],_::_=>by simp[lX]
 |_::_,[]=>by simp[lX]
 |x::a,y::b=>by have h:(x.toNat=y.toNat)↔x=y:=UInt8.toNat_inj;simp only[lX,beq_eq];by_cases e:x=y;subst e;simp[qgv a b];simp[e,mt h.1 e]
def z9i(a b:Nat):blt a b=true↔a<b:=by unfold blt;rw[wm];exact Iff.rfl
def sZ(a b:Nat):blt a b=decide (a<b):=by rw[ve,z9i];simp
def qgm:∀a:X RX,lE a a=false
 |[]=>rfl|x::a=>by simp[lE,sZ,qgm a]
def qhq:∀a b c:X RX,lE a b=true->lE b c=true->lE a c=true
 |_,[],_,h,_=>by simp[lE]at h
 |_,_::_,[],_,h=>by simp[lE]at h
 |[],_::_,_::_,_,_=>by simp[lE]
 |x::a,y::b,z::c,g,d=>by
  simp only[lE,sZ,beq_eq]at*;by_cases h:x.toNat<y.toNat;by_cases f:y.toNat<z.toNat;have:x.toNat<z.toNat:=by omega
  simp[this];simp only[f,yB,zD]at d;by_cases e:y.toNat=z.toNat;have:x.toNat<z.toNat:=by omega
  simp[this];simp[e]at d;simp only[h,yB,zD]at g;by_cases e:x.toNat=y.toNat;simp only[e,yC,zC]at g;by_cases f:y.toNat<z.toNat;simp[e,f];simp only[f,yB,zD]at d;by_cases i:y.toNat=z.toNat;simp only[i,yC,zC]at d;have:=qhq a b c g d;simp[e,i,this];simp[i]at d;simp[e]at g
def qhp:∀a b:X RX,lE a b=false->lE b a=false->a=b
 |[],[],_,_=>rfl|[],_::_,h,_=>by simp[lE]at h
 |_::_,[],_,h=>by simp[lE]at h
 |x::a,y::b,c,d=>by
  simp only[lE,sZ,beq_eq]at*;by_cases h:x.toNat<y.toNat;simp[h]at c;by_cases f:y.toNat<x.toNat;simp[f]at d;have e:x.toNat=y.toNat:=by omega
  simp only[e,Nat.lt_irrefl,yB,zD,yC,zC]at c d;rw[qhp a b c d,UInt8.toNat_inj.1 e]
variable{g:Type}
def aN{b:Type}(a:g)(k:g->A b):a8 (some a) k=k a:=rfl
def wr{z:Int}(a : -9223372036854775808<=z)(b:z<=9223372036854775807):i64.wrap z=z:=wrap_i64 ag ag
variable{i:Nat}
def pS{len:Nat}(h:i<len)(a:len<=9223372036854775807):i64.wrap ((i:Int)+1)=((i+1:Nat):Int):=by rw[wr ag ag];simp
def MR{z:Int}{k:Nat}(h:z=k)(a:k<=9223372036854775807):i64.wrap z=(k:Int):=by subst h;exact wr ag ag
variable{l:X g}
def gO(h:i<l.length):∃x,l[i]? = some x/\x∈l:=⟨l[i],by simp[h],by simp⟩
variable{x:g}
def lG(h:l[i]? = some x):l.take (i+1)=l.take i++[x]:=by rw[KX,h];rfl
def b7(h:l[i]? = some x):l.drop i=x::l.drop (i+1):=by have a:i<l.length:=(zG.1 h).1;rw[Xk a];congr 1;rw[hF a]at h;exact Option.some.inj h
def nL{n:Nat}(h:i<n):decide ((i:Int)<(n:Int))=true:=by simp;omega
def oD{n:Nat}(h:¬ i<n):decide ((i:Int)<(n:Int))=false:=by simp;omega
def bZ(h:¬ i<l.length):l.drop i=[]:=Aa ag
structure dW{g:Type}(c:g->g->Int):Prop where
 val:∀x y,c x y= -1\/c x y=0\/c x y=1
 U0:∀x y,c y x= - c x y
 trans:∀x y z,c x y<=0->c y z<=0->c x z<=0
variable{c:g->g->Int}
def dW.self(h:dW c)(x:g):c x x=0:=by have:=h.U0 x x;omega
variable{y:g}
def dW.congr(h:dW c)(f:c x y=0)(z:g):c x z=c y z:=by have d:=h.val x z;have e:=h.val y z;have a:=h.U0 x y;have b:=h.U0 x z;have a3:=h.U0 y z;have t1:=h.trans x y z;have t2:=h.trans y x z;have t3:=h.trans z x y;have t4:=h.trans z y x;omega
def dW.mS(h:dW c)(a:c x y=0)(z:g):c z x=c z y:=by have d:=h.congr a z;have b:=h.U0 x z;have a3:=h.U0 y z;omega
def dW.mV(h:dW c){z:g}(d:c x y<0)(b:c y z<=0):c x z<0:=by have t1:=h.trans x y z ag b;obtain a |a:=Int.lt_or_eq_of_le t1;exact a;have:=h.congr a y;have a3:=h.U0 y z;omega
def GR{g:Type}(c d:g->g->Int)(x y:g):Int:=if c x y≠0 then c x y else d x y
def dW.lex{d:g->g->Int}(hc:dW c)(hd:dW d):dW (GR c d) where
 val x y:=by unfold GR;split;exact hc.val x y;exact hd.val x y
 U0 x y:=by
  unfold GR;have a1:=hc.U0 x y;have a2:=hd.U0 x y;by_cases h:c x y=0;have:c y x=0:=by omega
  simp[h,this,a2];have:¬ c y x=0:=by omega
  simp[h,this,a1]
 trans x y z h1 h2:=by
  unfold GR at*;by_cases h:c x y=0;have e:=hc.congr h z;simp only[h,dG,ox,LX]at h1;rw[e];by_cases h':c y z=0;simp only[h',dG,ox,LX]at h2 ⊢;exact hd.trans x y z h1 h2;simp only[h',dG,gP,It]at h2 ⊢;exact h2;simp only[h,dG,gP,It]at h1;have vL:c x y<0:=by omega
  by_cases h':c y z=0;have e:=hc.mS h' x;rw[<-e];simp only[h,dG,gP,It];exact h1;simp only[h',dG,gP,It]at h2;have:=hc.mV vL h2;have cA:¬ c x z=0:=by omega
  simp only[cA,dG,gP,It];omega
def qm8{d:g->g->Int}:GR c d x y=0↔c x y=0/\d x y=0:=by unfold GR;by_cases h:c x y=0<;>simp[h]
def dW.pull{a:Type}(h:dW c)(f:a->g):dW (fun x y=>c (f x)<|f y):=⟨fun x y=>h.val _ _,fun x y=>h.U0 _ _,fun x y z=>h.trans _ _ _⟩
def pF(a b:Int):Int:=if a<b then -1 else if b<a then 1 else 0
def Tw{a b:Int}:pF a b=0↔a=b:=by unfold pF;split;omega;split<;>omega
def Lz:dW pF where
  val x y := by unfold pF; split; · simp
                split<;>simp
  U0 x y:=by unfold pF;split<;>split<;>(try split)<;>omega
  trans x y z:=by unfold pF;intro h1 h2;split at h1<;>split at h2<;>(try split at h1)<;>(try split at h2)<;>(try split)<;>(try split)<;>omega
def z60(c:g->g->Int)(x y:g):ltOf c x y=true↔c x y<0:=by simp[ltOf]
def dW.swo(h:dW c):SWO (ltOf c) where
 irrefl x:=by have:=h.self x;simp[ltOf,this]
 trans x y z h1 h2:=by rw[z60]at*;exact h.mV h1 ag
 ntrans x y z h1 h2:=by
  have e:∀a b,ltOf c a b=false↔c b a<=0:=fun a b=>by have:=h.U0 a b;simp[ltOf];omega
  rw[e]at*;exact h.trans z y x h2 h1
section
variable{g:Type}{c:g->g->Int}
def ZS(a:dW c)(l:X g):(gR (ltOf c) l).Pairwise (fun x y=>c x y<=0):=by have:=z3o a.swo l;refine Pairwise.imp ?_ this;intro x y h;have:=a.U0 x y;simp[ltOf]at h;omega
end
end Go.Proofs
namespace Go.Vx
open Go Go.Rx
section
variable{K c:Type}[DecidableEq K]
def uW(k:K):X (K×c×Nat)->A c
 |[]=>none|e::a=>if k=e.1 then some e.2.1 else uW k a
variable{eq:K->K->Rl}(d:∀a b,eq a b=true↔a=b)
include d
omit [DecidableEq K] in
def jy{a b:K}(h:¬ a=b):eq a b=false:=by rcases e:eq a b with _|_;rfl;exact absurd ((d a b).1 e) h
def qp8(k:K):∀(f:X (K×c×Nat))(i:Nat),(B2 eq k f i).map (fun x=>x.2.1)=uW k f
 |[],i=>rfl|e::f,i=>by simp only[B2,uW];by_cases h:k=e.1;rw[(d k e.1).2 h,kh h];rfl;rw[jy d h,iy h];exact qp8 k f (i+1)
def z61(m:kF K c)(k:K):I3 eq m k=uW k m.es:=qp8 d k m.es 0
def z09(k:K)(v:c):∀{g:X (K×c×Nat)}{i j:Nat}{q:c×Nat},B2 eq k g i=some (j,q)->i<=j/\∀x,uW x (AX v g<|j-i)=if x=k then some v else uW x g
 |[],i,j,q,h=>by cases h
 |e::g,i,j,q,h=>by simp only[B2]at h;by_cases f:k=e.1;rw[(d k e.1).2 f]at h;simp only[zC,zA,zB]at h;obtain⟨rfl,_⟩:=h;refine⟨zF _,fun x=>?_⟩;simp only[mr,AX,uW,f];split<;>rfl;rw[jy d f]at h;simp only[zD]at h;obtain⟨n,m⟩:=z09 k v h;refine⟨by omega,fun x=>?_⟩;rw[show j-i=(j-(i+1))+1 by omega];simp only[AX,uW,m];by_cases l:x=e.1;have:¬ x=k:=fun h=>f<|h ▸ l;simp[l];intro h;exact absurd h.symm f;simp[l]
omit d [DecidableEq K] in
def qx9(v:c):∀(f:X (K×c×Nat))(i:Nat),(AX v f i).map (fun e=>e.1)=f.map (fun e=>e.1)/\(AX v f i).map (fun e=>e.2.2)=f.map (fun e=>e.2.2)
 |[],i=>by simp[AX]
 |e::f,0=>by simp[AX]
 |e::f,i+1=>by simp[AX,qx9 v f i]
omit d in
def Ay(x k:K)(v:c)(b:Nat):∀f:X (K×c×Nat),uW x (f++[(k,v,b)])=if uW x f=none then(if x=k then some v else none)else uW x f
 |[]=>by simp[uW]
 |e::f=>by simp only[fV,uW];by_cases g:x=e.1;simp[g];simp only[g,LX];exact Ay x k v b f
structure fH(m:kF K c):Prop where
 keys:(m.es.map (fun e=>e.1)).Nodup
 r7:(m.es.map (fun e=>e.2.2)).Nodup
 lt:∀e∈m.es,e.2.2<m.cl
omit d in
def fH.app{m:kF K c}(h:fH m){k:K}(i:uW k m.es=none)(v:c):fH (⟨m.es++[(k,v,m.cl)],m.cl+1⟩:kF K c):=by
 refine⟨?_,?_,?_⟩;simp only[LY,zQ,gg];rw[f_];refine⟨h.keys,by simp,?_⟩;intro a f b g l;simp only[mq]at g;subst l g;clear h;generalize m.es=n at*;induction n with
 |nil=>simp at f|cons e n o=>simp only[uW]at i;by_cases j:a=e.1;simp[j]at i;simp only[j,LX]at i;simp only[zQ,zI,j,Ew]at f;exact o f i
 simp only[LY,zQ,gg];rw[f_];refine⟨h.r7,by simp,?_⟩;intro a f b g l;simp only[mq]at g;obtain⟨e,d,rfl⟩:=mem_map.1 f;have:=h.lt e d;omega;intro e d;obtain d |d:=yD.1 d;have:=h.lt e d;simp only;omega;simp only[mq]at d;subst d;simp
omit d [DecidableEq K] in
def fH.set{m:kF K c}(h:fH m)(v:c)(i:Nat):fH (⟨AX v m.es i,m.cl⟩:kF K c):=by obtain⟨j,f⟩:=qx9 v m.es i;refine⟨by simp only[j];exact h.keys,by simp only[f];exact h.r7,fun e d=>?_⟩;have:e.2.2∈(AX v m.es i).map (fun e=>e.2.2):=mem_map.2 ⟨e,d,rfl⟩;rw[f]at this;obtain⟨g,g1,g2⟩:=mem_map.1 this;have:=h.lt g g1;simp only at g2 ⊢;omega
def YI{m:kF K c}(h:fH m)(k:K)(v:c):fH (DG eq m k v)/\∀x,uW x (DG eq m k v).es=if x=k then some v else uW x m.es:=by
 unfold DG;cases e:B2 eq k m.es 0 with
 |none=>
  have f:uW k m.es=none:=by rw[<-qp8 d k m.es 0,e];rfl
  refine⟨h.app f v,fun x=>?_⟩;simp only[Ay];by_cases g:x=k;simp[g,f];simp only[g,LX];split<;>simp_all
 |some q=>obtain⟨j,q⟩:=q;have:=(z09 d k v e).2;exact⟨h.set v j,fun x=>by simpa using this x⟩
end
end Go.Vx
namespace Go.Proofs
open Go Go.Rx Go.Vx Go.Shelf Go.Sort
def oC{a:Type}(c:a->a->Int):X a->X a->Int
 |[],[]=>0|[],_::_=>-1
 |_::_,[]=>1|x::b,y::d=>if c x y≠0 then c x y else oC c b d
def dW.list{v12:Type}{c:v12->v12->Int}(h:dW c):dW (oC c) where
 val:=by
  intro x;induction x with
  |nil=>intro y;cases y<;>simp[oC]|cons a x ih=>intro y;obtain _|⟨b,y⟩:=y;simp[oC];simp only[oC];split;exact h.val a b;exact ih y
 U0:=by
  intro x;induction x with
  |nil=>intro y;cases y<;>simp[oC]|cons a x ih=>
   intro y;obtain _|⟨b,y⟩:=y;simp[oC];simp only[oC];have a1:=h.U0 a b;have a2:=ih y;by_cases e:c a b=0;have:c b a=0:=by omega
   simp[e,this,a2];have:¬ c b a=0:=by omega
   simp[e,this,a1]
 trans:=by
  intro x;induction x with
  |nil=>intro y z h1 h2;cases z<;>simp[oC]|cons a x ih=>
   intro y z h1 h2;obtain _|⟨b,y⟩:=y;simp[oC]at h1;obtain _|⟨d,z⟩:=z;simp[oC]at h2;simp only[oC]at*;by_cases e:c a b=0;have e2:=h.congr e d;simp only[e,dG,ox,LX]at h1;rw[e2];by_cases e3:c b d=0;simp only[e3,dG,ox,LX]at h2 ⊢;exact ih y z h1 h2;simp only[e3,dG,gP,It]at h2 ⊢;exact h2;simp only[e,dG,gP,It]at h1;have vL:c a b<0:=by omega
   by_cases e3:c b d=0;have e4:=h.mS e3 a;rw[<-e4];simp only[e,dG,gP,It];exact h1;simp only[e3,dG,gP,It]at h2;have:=h.mV vL h2;have cA:¬ c a d=0:=by omega
   simp only[cA,dG,gP,It];omega
def qm9{b:Type}{c:b->b->Int}:∀{d f:X b},(∀x∈d,∀y,c x y=0->x=y)->oC c d f=0->d=f
 |[],[],_,_=>rfl|[],_::_,_,h=>by simp[oC]at h
 |_::_,[],_,h=>by simp[oC]at h
 |x::d,y::f,g,h=>by simp only[oC]at h;by_cases e:c x y=0;simp only[e,dG,ox,LX]at h;rw[g x ca y e,qm9 (fun a i=>g a<|by simp[i]) h];simp[e]at h
def SI:aL->aL->Int:=GR (fun x y=>pF x.D9 y.D9) (fun x y=>pF x.To y.To)
def Iv:dW SI:=(Lz.pull _).lex (Lz.pull _)
def z58{x y:aL}(h:SI x y=0):x=y:=by simp only[SI,qm8,Tw]at h;cases x;cases y;simp only at h;obtain⟨rfl,rfl⟩:=h;rfl
def XP:aU->aU->Int:=GR (GR (fun x y=>pF x.R y.R) fun x y=>pF x.E2.length y.E2.length) (fun x y=>oC SI x.E2 y.E2)
def Ir:dW XP:=((Lz.pull _).lex (Lz.pull (fun x:aU=>(x.E2.length:Int)))).lex (Iv.list.pull _)
def z59{x y:aU}(h:XP x y=0):x=y:=by simp only[XP,qm8,Tw]at h;have:=qm9 (fun a _ b h=>z58 h) h.2;cases x;cases y;simp only at h this;obtain⟨⟨rfl,_⟩,_⟩:=h;subst this;rfl
def Iu:cb->cb->Int:=GR (fun x y=>pF x.D6.length y.D6.length) (fun x y=>oC XP x.D6 y.D6)
def Is:dW Iu:=(Lz.pull (fun x:cb=>(x.D6.length:Int))).lex (Ir.list.pull _)
def qvf{x y:cb}:Iu x y=0↔x=y:=⟨fun h=>by
 simp only[Iu,qm8,Tw]at h;have:=qm9 (fun a _ b h=>z59 h) h.2;cases x;cases y;simp only at this;subst this;rfl,fun h=>by subst h;exact Is.self x⟩
structure dC(f:cb)(k:Nat):Prop where
 nodes:f.D6.length<=k
 D8:∀x∈f.D6,x.E2.length<=k
def MK(l:X aL):X Int:=l.flatMap fun a=>[a.D9,a.To]
def TO(x:aU):X Int:=[x.R,(x.E2.length:Int)]++MK x.E2
def I2(f:cb):X Int:=(f.D6.length:Int)::f.D6.flatMap TO
def Z!:∀l:X aL,(MK l).length=2*l.length
 |[]=>rfl|a::l=>by have:=Z! l;simp only[MK,KL,zU,zO,zS]at*;omega
def z1p{x:aU}{i:Int}{rc:Int->X Int->A (X Int)}(f:x.E2.length<=1000000):∀(m k:Nat)(b:X Int),x.E2.length-k<m->k<=x.E2.length->b.length+2*(x.E2.length-k)<=1000000000->
  Nz i rc x m k b=rc (i64.wrap<|i+1) (b++MK (x.E2.drop k))
 |0,k,b,hm,_,_=>by omega
 |m+1,k,b,hm,h,g=>by
  unfold Nz;by_cases c:k<x.E2.length;obtain⟨a,d,_⟩:=gO c;have e:(b.length+2)*8<=140737488355328/\b.length+2<=140737488355328:=by omega
  simp only[nL c,zC,cZ,d,aN,aE,e,lr,It,pS c<|show x.E2.length<=9223372036854775807 by omega];rw[z1p f m (k+1) _ ag ag (by simp only[zU,zO,zS];omega),b7 d];simp[MK];simp only[oD c,zD,ff,bZ c,MK,flatMap_nil,il]
def z1o{f:cb}{n:Nat}(c:dC f 1000)(e:1001<=n):∀(m i:Nat)(a:X Int),f.D6.length-i<m->i<=f.D6.length->a.length+2002*(f.D6.length-i)<=900000000->
  QB f n m i a=some (a++(f.D6.drop i).flatMap TO)
 |0,i,a,hm,_,_=>by omega
 |m+1,i,a,hm,l,k=>by
  unfold QB;have o:=c.nodes;by_cases b:i<f.D6.length;obtain⟨x,g,h⟩:=gO b;have j:=c.D8 x h;have e:(a.length+2)*8<=140737488355328/\a.length+2<=140737488355328:=by omega
  have d:=z1p (i:=(i:Int)) (rc:=QB f n m) (x:=x) ag n 0 (a++[x.R,(x.E2.length:Int)]) ag ag (by simp only[zU,zO,zS];omega);rw[zV,Xl]at d;simp only[nL b,zC,cZ,g,aN,aE,e,lr,It,d,pS b<|show f.D6.length<=9223372036854775807 by omega];rw[z1o c ag m (i+1) _ ag ag (by simp only[zU,zO,zS,Z!];omega),b7 g];simp[TO];simp only[oD b,zD,fg,bZ b,flatMap_nil,il]
variable{f:cb}{n:Nat}
def z1q(a:dC f 1000)(b:1001<=n):Nh n f=some (I2 f):=by have c:=a.nodes;have:=z1o a b n 0 [(f.D6.length:Int)] ag ag (by simp only[zO,zS];omega);rw[zV,Xl]at this;simp only[Nh,this,I2,qcY]
def C6:X Int->X Int->Int
 |x::a,y::b=>if pF x y≠0 then pF x y else C6 a b|_,_=>0
def qwy{l m:X Int}(h:l.length<=1000000000):∀(n i:Nat),l.length-i<n->i<=l.length->Oa l m n i=some (C6 (l.drop i)<|m.drop i)
 |0,i,j,_=>by omega
 |n+1,i,j,k=>by unfold Oa;by_cases a:i<l.length;obtain⟨x,d,_⟩:=gO a;by_cases b:i<m.length;obtain⟨y,g,_⟩:=gO b;simp only[nL a,nL b,zC,aN,cZ,d,g,pS a (show l.length<=9223372036854775807 by omega),b7 d,b7 g,C6,pF];by_cases c:x<y;simp[c];by_cases e:y<x;simp[c,e];simp only[c,e,yB,zD,LX,dG,ox,gt_iff_lt];exact qwy h n (i+1) ag ag;simp only[nL a,oD b,zC,zD,aN,Wl,b7 d,bZ b,C6];simp only[oD a,zD,aN,Wl,bZ a,C6]
def z69{k:Nat}(b:dC f k):(I2 f).length<=1+f.D6.length*(2+2*k):=by
 have:∀l:X aU,(∀x∈l,x.E2.length<=k)->(l.flatMap TO).length<=l.length*(2+2*k):=by
  intro l;induction l with
  |nil=>intro _;simp|cons x l d=>
   intro h;have e:=d fun y c=>h y<|kj _ c;have g:=h x ca;have a:(l.length+1)*(2+2*k)=l.length*(2+2*k)+(2+2*k):=by rw[dR,Nat.one_mul]
   simp only[KL,zU,TO,zO,zS,Z!];rw[a];omega
 have:=this f.D6 b.D8;simp only[I2,zO];omega
def z34{g:cb}(a:dC f 1000)(c:dC g 1000)(h:3000000<=n):Vl n f g=some (C6 (I2 f)<|I2 g):=by have d:=z69 a;have b:=a.nodes;have e:f.D6.length*(2+2*1000)<=1000*(2+2*1000):=ri _ b;have:=qwy (l:=I2 f) (m:=I2 g) ag n 0 ag ag;rw[zV,Xl,Xl]at this;simp only[Vl,z1q a (show 1001<=n by omega),z1q c (show 1001<=n by omega),aN,this]
def qrz{c d:X Int}:∀{a b:X aL},a.length=b.length->C6 (MK a++c) (MK b++d)=if oC SI a b≠0 then oC SI a b else C6 c d
 |[],[],_=>by simp[MK,oC]
 |[],_::_,h=>by simp at h
 |_::_,[],h=>by simp at h
 |x::a,y::b,h=>by simp only[zO,qcP]at h;have g:=qrz (c:=c) (d:=d) h;simp only[MK,KL,fV,eY,C6,oC]at g ⊢;rw[g];unfold SI GR;by_cases e:pF x.D9 y.D9=0;by_cases i:pF x.To y.To=0<;>simp[e,i];simp[e]
def qo7{c d:X Int}:∀{a b:X aU},a.length=b.length->C6 (a.flatMap TO++c) (b.flatMap TO++d)=if oC XP a b≠0 then oC XP a b else C6 c d
 |[],[],_=>by simp[oC]
 |[],_::_,h=>by simp at h
 |_::_,[],h=>by simp at h
 |x::a,y::b,h=>by
  simp only[zO,qcP]at h;have l:=qo7 (c:=c) (d:=d) h;simp only[KL,TO,zT,fV,eY,C6,oC];have j:XP x y=(if(if pF x.R y.R≠0 then pF x.R y.R else pF (x.E2.length:Int) y.E2.length)≠0 then(if pF x.R y.R≠0 then pF x.R y.R else pF (x.E2.length:Int) y.E2.length)else oC SI x.E2 y.E2):=rfl;simp only[j];by_cases e:pF x.R y.R=0;by_cases g:pF (x.E2.length:Int) y.E2.length=0;have k:x.E2.length=y.E2.length:=by have:=Tw.1 g;omega
  simp only[e,g,dG,ox,LX];rw[qrz k,l];by_cases i:oC SI x.E2 y.E2=0<;>simp[i];simp[e,g];simp[e]
def z9j(f g:cb):C6 (I2 f) (I2 g)=Iu f g:=by
 simp only[I2,C6,Iu];unfold GR;by_cases e:pF (f.D6.length:Int) g.D6.length=0;have b:f.D6.length=g.D6.length:=by have:=Tw.1 e;omega
 have:=qo7 (c:=[]) (d:=[]) b;simp only[il,C6]at this;simp only[e,dG,ox,LX,this];by_cases a:oC XP f.D6 g.D6=0<;>simp[a];simp[e]
def qwz{g:cb}(a:dC f 1000)(b:dC g 1000)(c:3000000<=n):UM n f g=some (Iu f g==0):=by simp only[UM,z34 a b c,aN,z9j]
def qw4{f:cb}(k:f.D6.length<=12):∀(m i:Nat),f.D6.length-i<m->i<=f.D6.length->∃b,No f m i=some b/\(b=true->∀x∈f.D6.drop i,x.E2.length<=12)
 |0,i,hm,_=>by omega
 |m+1,i,hm,l=>by unfold No;by_cases a:i<f.D6.length;obtain⟨x,c,_⟩:=gO a;simp only[nL a,zC,cZ,c,aN,pS a<|show f.D6.length<=9223372036854775807 by omega];by_cases h:(x.E2.length:Int)>12;simp only[h,yC,zC];exact⟨false,rfl,fun h=>by cases h⟩;simp only[h,yB,zD];obtain⟨b,e,g⟩:=qw4 k m (i+1) ag ag;refine⟨b,e,fun j=>?_⟩;rw[b7 c];intro y d;obtain rfl |d:=zI.1 d;omega;exact g j y d;simp only[oD a,zD,S',bZ a];exact⟨true,rfl,fun _ x c=>by cases c⟩
def z5y(f:cb)(e:20<=n):∃b,Un n f=some b/\(b=true->dC f 12):=by unfold Un;by_cases h:(f.D6.length:Int)>12;simp only[h,yC,zC];exact⟨false,rfl,fun h=>by cases h⟩;simp only[h,yB,zD];obtain⟨b,a,c⟩:=qw4 (f:=f) ag n 0 ag ag;rw[zV]at a;rw[Xl]at c;exact⟨b,a,fun d=>⟨by omega,c d⟩⟩
def dC.up{k a:Nat}(h:dC f k)(c:k<=a):dC f a:=⟨by have:=h.nodes;omega,fun x b=>by have:=h.D8 x b;omega⟩
def cF(a b:aL):Int:=pF a.D9 b.D9
def kz:dW cF:=Lz.pull aL.D9
def wL(l:X aL):X aL:=gR (ltOf cF) l
def PO(l:X aL):(wL l).Perm l:=PE _ l
def m8(l:X aL):Prop:=l.Pairwise (fun a b=>a.D9≠b.D9)
variable{l:X aL}
def m8.perm{m:X aL}(h:l.Perm m)(c:m8 l):m8 m:=(h.pairwise_iff<|fun{a b} h=>Wv h).1 c
def m8.eq:∀{l:X aL},m8 l->∀x∈l,∀y∈l,x.D9=y.D9->x=y
 |[],_,x,c,_,_,_=>by cases c
 |a::l,h,x,c,y,i,e=>by obtain⟨g,j⟩:=pairwise_cons.1 h;obtain d |xG:=zI.1 c;obtain b |qA:=zI.1 i;rw[d,b];subst d;exact absurd e<|g y qA;obtain b |qA:=zI.1 i;subst b;exact absurd e.symm<|g x xG;exact m8.eq j x xG y qA e
def gZ(l:X aL):Prop:=l.Pairwise (fun a b=>a.D9<b.D9)
def vd{a b:aL}:cF a b<=0↔a.D9<=b.D9:=by unfold cF pF;by_cases c:a.D9<b.D9;simp[c];omega;by_cases d:b.D9<a.D9;simp[c,d];simp[c,d];omega
def U5(h:m8 l):gZ (wL l):=by have c:=ZS kz l;have d:m8 (wL l):=h.perm (PO l).symm;refine(Pairwise.and c d).imp fun{a b} h=>?_;have:=vd.1 h.1;have:=h.2;omega
def qqn:∀{a b:X aL},gZ a->gZ b->a.Perm b->a=b
 |[],b,_,_,h=>(nil_perm.1 h).symm|x::a,[],_,_,h=>by have:=h.length_eq;simp at this
 |x::a,y::b,k,m,h=>by
  obtain⟨e,g⟩:=pairwise_cons.1 k;obtain⟨i,j⟩:=pairwise_cons.1 m;have o:x=y:=by rcases zI.1 (h.mem_iff.1<|mem_cons_self)with c |c;exact c;rcases zI.1 (h.mem_iff.2<|mem_cons_self)with d |d;exact d.symm;have p:=e y d;have q:=i x c;omega
  subst o;rw[qqn g j<|h.cons_inv]
def z3n{m:X aL}(a:m8 l)(h:m.Perm l)(hm:gZ m):wL l=m:=qqn (U5 a) hm ((PO l).trans h.symm)
def gZ.aR(h:gZ l):m8 l:=h.imp fun{a b} h=>ag
structure J!(x:aU)(N:Nat):Prop where
 ty:0<=x.R
 aR:m8 x.E2
 O9:∀a∈x.E2,0<=a.D9/\0<=a.To/\a.To<N
def m7(f:cb):Prop:=∀x∈f.D6,J! x f.D6.length
def nd(f:cb)(v:Int):aU:=(f.D6[v.toNat]?).getD (aU.mk 0 [])
def fU(f:cb)(v:Int):Prop:=0<=v/\v<f.D6.length
variable{f:cb}{v:Int}
def xZ(h:fU f v):aC f.D6 v=some (nd f v)/\nd f v∈f.D6:=by
 have b:v.toNat<f.D6.length:=by have:=h.1;have:=h.2;omega
 have a:0<=v/\v<(f.D6.length:Int):=h;simp[aC,a,nd,b]
def R5(f:cb)(v:Int):X aL:=wL (nd f v).E2
def tI{a:aL}:a∈R5 f v↔a∈(nd f v).E2:=(PO _).mem_iff
def jH(g:X Int->Int->X Int)(o:X Int)(a:aL):X Int:=if a.To∈o then o else g o a.To
def O5(f:cb):Nat->X Int->Int->X Int
 |0,o,_=>o|k+1,o,v=>(R5 f v).foldl (jH<|O5 f k) (o++[v])
structure Seen(f:cb)(o:X Int):Prop where
 nd:o.Nodup
 W4:∀v∈o,fU f v
def Uy:∀(N:Nat){o:X Int},o.Nodup->(∀v∈o,0<=v/\v<N)->o.length<=N
 |0,o,_,h=>by obtain _|⟨v,o⟩:=o;simp;have:=h v ca;omega
 |N+1,o,c,h=>by
  have d:=Uy N (o:=o.filter fun v=>v != (N:Int)) (c.filter _) fun v a=>by rw[qcB]at a;have:=h v a.1;have b:=a.2;simp at b;omega
  have b:o.length<=(o.filter fun v=>v != (N:Int)).length+1:=by
   clear d h;induction o with
   |nil=>simp|cons x o j=>
    obtain⟨g,i⟩:=nodup_cons.1 c;have:=j i;by_cases e:x=N;subst e;have:o.filter (fun v=>v != (N:Int))=o:=filter_eq_self.2 fun v a=>by simp only[bne_iff_ne,dG];intro e;subst e;exact g a
    simp[this];have k:(x != (N:Int))=true:=by simpa using e
    rw[filter_cons_of_pos<|by simpa using e];simp only[zO];omega
  omega
variable{o:X Int}
def Seen.len(h:Seen f o):o.length<=f.D6.length:=Uy _ h.nd h.W4
def Seen.snoc(h:Seen f o)(j:fU f v)(i:v ∉ o):Seen f (o++[v]):=⟨by
 rw[f_];refine⟨h.nd,by simp,?_⟩;intro a g b d;simp at d;subst d;intro e;subst e;exact i g,fun u c=>by
 obtain c |c:=yD.1 c;exact h.W4 u c;simp at c;subst c;exact j⟩
def Lk{f:cb}(D:m7 f):∀(k:Nat)(o:X Int)(v:Int),Seen f o->fU f v->v ∉ o->f.D6.length-o.length<=k->
  Seen f (O5 f k o v)/\(∃t,O5 f k o v=o++v::t)/\(∀u∈O5 f k o v,u ∉ o->∀a∈(nd f u).E2,a.To∈O5 f k o v)/\(∀c,f.D6.length-o.length<=c->O5 f c o v=O5 f k o v)
 |0,o,v,B,x,A,J=>by have h:=(B.snoc x A).len;simp only[zU,zO,zS]at h;omega
 |k+1,o,v,B,x,A,J=>by
  have I:=B.snoc x A;have L:=I.len;simp only[zU,zO,zS]at L;have key:∀(l:X aL),(∀a∈l,fU f a.To)->∀(p:X Int),Seen f p->(∃t,p=o++v::t)->(∀u∈p,u ∉ o->u≠v->∀a∈(nd f u).E2,a.To∈p)->
    Seen f (l.foldl (jH<|O5 f k) p)/\(∃t,l.foldl (jH<|O5 f k) p=p++t)/\(∀u∈l.foldl (jH<|O5 f k) p,u ∉ o->u≠v->∀a∈(nd f u).E2,a.To∈l.foldl (jH<|O5 f k) p)/\(∀a∈l,a.To∈l.foldl (jH<|O5 f k) p)/\
     (∀c,f.D6.length-(o.length+1)<=c->l.foldl (jH<|O5 f c) p=l.foldl (jH<|O5 f k) p):=by
   intro l;induction l with
   |nil=>intro _ p w j s;exact⟨w,⟨[],by simp⟩,s,⟨fun a i=>(ml i).elim,fun _ _=>rfl⟩⟩|cons a l F=>
    intro E p w j s;have y:=E a ca;have G:=fun b d=>E b<|kj a d;simp only[oe];by_cases hm:a.To∈p;have e:∀c,jH (O5 f c) p a=p:=fun c=>by simp[jH,hm]
    simp only[e];obtain⟨g1,⟨t,g2⟩,m,q,r⟩:=F G p w j s;refine⟨g1,⟨t,g2⟩,m,fun b d=>?_,r⟩;obtain rfl |d:=zI.1 d;rw[g2];exact vt _ hm;exact q b d;have e:∀c,jH (O5 f c) p a=O5 f c p a.To:=fun c=>by simp[jH,hm]
    obtain⟨t0,j⟩:=j;have M:o.length+1<=p.length:=by rw[j];simp
    obtain⟨d1,⟨t1,d2⟩,d3,d4⟩:=Lk D k p a.To w y hm ag;have K:∀u∈p,u∈O5 f k p a.To:=fun u g=>by rw[d2];exact vt _ g
    obtain⟨g1,⟨t,g2⟩,m,q,r⟩:=F G (O5 f k p a.To) d1 ⟨t0++a.To::t1,by rw[d2,j];simp⟩ (fun u g h z b d=>by by_cases C:u∈p;exact K _<|s u C h z b d;exact d3 u g C b d);rw[e k];refine⟨g1,⟨a.To::t1++t,by rw[g2,d2];simp⟩,m,fun b d=>?_,fun c H=>?_⟩;obtain rfl |d:=zI.1 d;rw[g2,d2];simp;exact q b d;rw[e c,d4 c ag];exact r c H
  have y:∀a∈R5 f v,fU f a.To:=fun a i=>by have h:=(D _ (xZ x).2).O9 a (tI.1 i);exact⟨h.2.1,h.2.2⟩
  obtain⟨g1,⟨t,g2⟩,m,q,r⟩:=key (R5 f v) y (o++[v]) I ⟨[],rfl⟩ (fun u g h z=>by obtain g |g:=yD.1 g;exact absurd g h;simp at g;exact absurd g z);refine⟨g1,⟨t,by show(R5 f v).foldl _ _=_;rw[g2];simp⟩,fun u g h a i=>?_,fun c H=>?_⟩;by_cases e:u=v;subst e;exact q a<|tI.2 i;exact m u g h e a i;cases c with
  |zero=>omega|succ c=>exact r c ag
def bQ(f:cb)(r:Int):X Int:=O5 f f.D6.length [] r
def Seen.nil(f:cb):Seen f []:=⟨Ab,fun v a=>by cases a⟩
structure XW(f:cb)(r:Int)(o:X Int):Prop where
 seen:Seen f o
 head:∃t,o=r::t
 W7:∀u∈o,∀a∈(nd f u).E2,a.To∈o
def H6(g:m7 f){r:Int}(i:fU f r):XW f r (bQ f r)/\∀k,f.D6.length<=k->O5 f k [] r=bQ f r:=by obtain⟨b,⟨t,c⟩,d,e⟩:=Lk g f.D6.length [] r (Seen.nil f) i ca ca;exact⟨⟨b,⟨t,by have a:=c;rw[eY]at a;exact a⟩,fun u j=>d u j ca⟩,fun k h=>e k<|by simpa using h⟩
def kL(o:X Int)(a:aL):aL:=⟨a.D9,(o.idxOf a.To:Int)⟩
def gQ(f:cb)(o:X Int)(v:Int):aU:=⟨(nd f v).R,(R5 f v).map (kL o)⟩
def bX(f:cb)(r:Int):cb:=⟨(bQ f r).map (gQ f<|bQ f r)⟩
structure dc(w:kF Int Int)(o:X Int):Prop where
 inv:fH w
 get:∀x,uW x w.es=if x∈o then some (o.idxOf x:Int)else none
def vj(a b:Int):(a==b)=true↔a=b:=ca
def dc.nil:dc (GQ:kF Int Int) []:=⟨⟨by simp[GQ],by simp[GQ],by simp[GQ]⟩,fun x=>by simp[GQ,uW]⟩
def dc.snoc{w:kF Int Int}(h:dc w o)(i:v ∉ o):dc (DG (fun a b=>a==b) w v (o.length:Int)) (o++[v]):=by obtain⟨d,g⟩:=YI (eq:=fun a b:Int=>a==b) vj h.inv v (o.length:Int);refine⟨d,fun x=>?_⟩;rw[g,h.get];by_cases e:x=v;subst e;simp[ns,i];by_cases c:x∈o;simp[e,c,ns];simp[e,c]
def dc.AN{w:kF Int Int}(h:dc w o)(x:Int):I3 (fun a b=>a==b) w x=if x∈o then some (o.idxOf x:Int)else none:=by rw[z61 (eq:=fun a b:Int=>a==b) vj,h.get]
def ZV{c:Type}(a b:X c)(x y:c):(a++x::b).set a.length y=a++y::b:=ca
def EX(N:Nat)(seen:X Int):X aL->Int
 |[]=>0|a::l=>if a.D9<0\/a.To<0\/a.To>=(N:Int)then 2 else if a.D9∈seen then 4 else EX N (a.D9::seen) l
def G7(N:Nat)(x:aU):Int:=if x.R<0 then 2 else EX N [] x.E2
def qrh{N:Nat}:∀{l:X aL}{seen:X Int},EX N seen l=0↔(∀a∈l,0<=a.D9/\0<=a.To/\a.To<N)/\m8 l/\∀a∈l,a.D9 ∉ seen
 |[],seen=>by simp[EX,m8]
 |a::l,seen=>by
  simp only[EX];by_cases i:a.D9<0\/a.To<0\/a.To>=(N:Int);simp only[i,It];refine⟨fun h=>absurd h cg,fun h=>?_⟩;have:=h.1 a ca;omega;by_cases g:a.D9∈seen;simp only[i,g,It,LX];exact⟨fun h=>absurd h cg,fun h=>absurd g<|h.2.2 a ca⟩;simp only[i,g,LX];rw[qrh (l:=l)];unfold m8;rw[wz];constructor;rintro⟨g1,g2,d⟩;refine⟨fun b c=>?_,⟨fun b c=>?_,g2⟩,fun b c=>?_⟩;obtain rfl |c:=zI.1 c;omega;exact g1 b c;have:=d b c;simp only[zI,not_or]at this;exact fun e=>this.1 e.symm
  obtain rfl |c:=zI.1 c;exact g;have:=d b c;simp only[zI,not_or]at this;exact this.2;rintro⟨g1,⟨g2,d⟩,j⟩;refine⟨fun b c=>g1 b (by simp[c]),d,fun b c=>?_⟩;simp only[zI,not_or];exact⟨fun e=>g2 b c e.symm,j b<|by simp[c]⟩
def qrk{N:Nat}{x:aU}:G7 N x=0↔J! x N:=by unfold G7;by_cases h:x.R<0;simp only[h,It];exact⟨fun h=>absurd h cg,fun a=>by have:=a.ty;omega⟩;simp only[h,LX];rw[qrh];exact⟨fun⟨b,c,_⟩=>⟨by omega,c,b⟩,fun h=>⟨h.O9,h.aR,fun _ _=>ca⟩⟩
def SR(N:Nat):X aU->Int
 |[]=>0|x::l=>if G7 N x≠0 then G7 N x else SR N l
def qrj{N:Nat}:∀{l:X aU},SR N l=0↔∀x∈l,J! x N
 |[]=>by simp[SR]
 |x::l=>by simp only[SR];by_cases h:G7 N x=0;simp only[h,dG,ox,LX,qrj (l:=l),zI,forall_eq_or_imp,qrk.1 h,di];simp only[h,dG,gP,It,zI,forall_eq_or_imp,false_iff,not_and];exact fun a=>absurd (qrk.2 a) h
def IU(f:cb):Int:=if f.D6.length=0 then 1 else if f.D6.length>4096 then 7 else SR f.D6.length f.D6
variable{f:cb}
def qri:IU f=0↔f.D6.length≠0/\f.D6.length<=4096/\m7 f:=by unfold IU;by_cases a:f.D6.length=0;simp[a];by_cases b:f.D6.length>4096;simp[a,b];intro _;omega;simp only[a,b,LX,qrj];exact⟨fun h=>⟨by simpa using a,by omega,h⟩,fun h=>h.2.2⟩
structure oZ(f g:cb)(V:Int->Int)(S:Int->Prop):Prop where
 W7:∀v,S v->∀a∈R5 f v,S a.To
 inj:∀u v,S u->S v->V u=V v->u=v
 ty:∀v,S v->(nd g (V v)).R=(nd f v).R
 O9:∀v,S v->R5 g (V v)=(R5 f v).map fun a=>⟨a.D9,V a.To⟩
def oZ.O5{f g:cb}{V:Int->Int}{S:Int->Prop}(h:oZ f g V S):∀(k:Nat)(o:X Int)(v:Int),S v->(∀u∈o,S u)->O5 g k (o.map V) (V v)=(Go.Proofs.O5 f k o v).map V/\∀u∈Go.Proofs.O5 f k o v,S u
 |0,o,v,j,t=>⟨rfl,t⟩|k+1,o,v,j,t=>by
  have key:∀(l:X aL)(p:X Int),(∀a∈l,S a.To)->(∀u∈p,S u)->
    (l.map fun a=>(⟨a.D9,V a.To⟩:aL)).foldl (jH<|Go.Proofs.O5 g k) (p.map V)=(l.foldl (jH<|Go.Proofs.O5 f k) p).map V/\∀u∈l.foldl (jH<|Go.Proofs.O5 f k) p,S u:=by
   intro l;induction l with
   |nil=>intro p _ d;exact⟨rfl,d⟩|cons a l y=>
    intro p s d;have x:=s a ca;simp only[zQ,oe];have hm:V a.To∈p.map V↔a.To∈p:=by rw[gf];exact⟨fun⟨u,c,e⟩=>by rw[<-h.inj u a.To (d u c) x e];exact c,fun c=>⟨_,c,rfl⟩⟩
    by_cases i:a.To∈p;have m:jH (Go.Proofs.O5 g k) (p.map V) (⟨a.D9,V a.To⟩:aL)=p.map V:=by simp only[jH,hm.2 i,It]
    have q:jH (Go.Proofs.O5 f k) p a=p:=by simp only[jH,i,It]
    rw[m,q];exact y p (fun b r=>s b<|kj _ r) d;have m:jH (Go.Proofs.O5 g k) (p.map V) (⟨a.D9,V a.To⟩:aL)=Go.Proofs.O5 g k (p.map V) (V a.To):=by simp only[jH,mt hm.1 i,LX]
    have q:jH (Go.Proofs.O5 f k) p a=Go.Proofs.O5 f k p a.To:=by simp only[jH,i,LX]
    obtain⟨g1,g2⟩:=oZ.O5 h k p a.To x d;rw[m,q,g1];exact y _ (fun b r=>s b<|kj _ r) g2
  have w:∀u∈o++[v],S u:=fun u c=>by obtain c |c:=yD.1 c;exact t u c;simp at c;subst c;exact j
  have:=key (R5 f v) (o++[v]) (h.W7 v j) w;refine⟨?_,this.2⟩;show(R5 g<|V v).foldl _ (o.map V++[V v])=_;have e:=this.1;simp only[LY,zQ,gg]at e;rw[h.O9 v j];exact e
def qrt{V:Int->Int}:∀{o:X Int}{x:Int},(∀u∈o,V u=V x->u=x)->(o.map V).idxOf (V x)=o.idxOf x
 |[],x,_=>rfl|u::o,x,h=>by
  simp only[zQ,Gz];have i:=qrt (o:=o) (x:=x) fun w g=>h w<|kj _ g;by_cases e:u=x;subst e;simp;have a:¬ V u=V x:=fun d=>e<|h u ca d;have b:(u==x)=false:=by simpa using e
  have c:(V u==V x)=false:=by simpa using a
  simp only[b,c,zD,i]
variable{r:Int}
def oZ.canon{g:cb}{V:Int->Int}{S:Int->Prop}(h:oZ f g V S)(m:m7 f)(p:m7 g)(q:fU f r)(j:S r)(i:fU g (V r)):bQ g (V r)=(bQ f r).map V/\bX g (V r)=bX f r:=by obtain⟨y,w⟩:=H6 m q;obtain⟨z,x⟩:=H6 p i;have c:=h.O5 (f.D6.length+g.D6.length) [] r j ca;rw[gg,w _ ag,x _ ag]at c;refine⟨c.1,?_⟩;unfold bX;rw[c.1,dT];congr 1;refine Wu fun v t=>?_;have b:=c.2 v t;simp only[Function.comp,gQ,h.ty v b,h.O9 v b,dT];congr 1;refine Wu fun a k=>?_;have d:=h.W7 v b a k;simp only[Function.comp,kL];rw[qrt fun u s e=>h.inj u a.To (c.2 u s) d e]
def uy{l:X aL}(h:gZ l):wL l=l:=z3n h.aR (Perm.refl _) h
def Bo{o:X Int}{v:Int}(h:v∈o):o[o.idxOf v]? = some v:=by have a:=Ji h;rw[hF a,zc]
structure ym(f:cb)(r:Int)(c:cb):Prop where
 len:c.D6.length=(bQ f r).length
 le:c.D6.length<=f.D6.length
 pos:0<c.D6.length
 ok:m7 c
 at_:∀v∈bQ f r,nd c ((bQ f r).idxOf v:Int)=gQ f (bQ f r) v
 up:∀x∈c.D6,gZ x.E2
 x9:oZ f c (fun v=>((bQ f r).idxOf v:Int)) (fun v=>v∈bQ f r)
def YJ{o:X Int}{l:X aL}(h:gZ l):gZ (l.map<|kL o):=by unfold gZ at*;rw[XN];exact h
def Bd(j:m7 f)(A:fU f r):ym f r (bX f r):=by
 obtain⟨g,_⟩:=H6 j A;have k:∀v∈bQ f r,nd (bX f r) ((bQ f r).idxOf v:Int)=gQ f (bQ f r) v:=fun v c=>by simp only[nd,bX,zZ,vz,Bo c,zM,gK]
 have p:∀v∈bQ f r,fU f v:=g.seen.W4;have i:∀v∈bQ f r,gZ (gQ f (bQ f r) v).E2:=fun v c=>YJ<|U5 (j _ (xZ<|p v c).2).aR;refine⟨by simp[bX],by simp only[bX,yA];exact g.seen.len,?_,?_,k,?_,?_⟩;obtain⟨t,B⟩:=g.head;simp[bX,B];intro x d;simp only[bX,gf]at d;obtain⟨v,c,rfl⟩:=d;have s:=j _ (xZ<|p v c).2;refine⟨s.ty,(i v c).aR,fun a h=>?_⟩;simp only[gQ,gf]at h;obtain⟨b,z,rfl⟩:=h;have m:=tI.1 z;refine⟨(s.O9 b m).1,by simp only[kL];omega,?_⟩;have:=Ji<|g.W7 v c b m;simp only[kL,bX,yA];omega;intro x d;simp only[bX,gf]at d;obtain⟨v,c,rfl⟩:=d;exact i v c;refine⟨fun v c a h=>g.W7 v c a<|tI.1 h,fun u v C c e=>?_,fun v c=>?_,fun v c=>?_⟩;have q:=Bo C;have y:=Bo c;have w:(bQ f r).idxOf u=(bQ f r).idxOf v:=Int.ofNat.inj e;rw[w,y]at q;exact(Option.some.inj q).symm;simp only[k v c,gQ];simp only[R5,k v c];rw[uy<|i v c];rfl
def qnv(b:m7 f)(c:fU f r):bX (bX f r) 0=bX f r/\bQ (bX f r) 0=(bQ f r).map fun v=>((bQ f r).idxOf v:Int):=by
 have a:=Bd b c;obtain⟨h,_⟩:=H6 b c;obtain⟨t,g⟩:=h.head;have d:r∈bQ f r:=by rw[g];simp
 have e:((bQ f r).idxOf r:Int)=0:=by rw[g];simp
 have:=a.x9.canon b a.ok c d ⟨by omega,by have:=a.pos;simp only[e];omega⟩;simp only[e]at this;exact⟨this.2,this.1⟩
def dC.canon{k:Nat}(c:dC f k)(a:m7 f)(b:fU f r):dC (bX f r) k:=by have e:=Bd a b;obtain⟨h,_⟩:=H6 a b;refine⟨eb e.le c.nodes,fun x d=>?_⟩;simp only[bX,gf]at d;obtain⟨v,g,rfl⟩:=d;simp only[gQ,yA,R5];rw[(PO _).length_eq];exact c.D8 _ (xZ<|h.seen.W4 v g).2
def qnz{N:Nat}:∀{l:X aL}{s s':X Int},(∀x,x∈s↔x∈s')->EX N s l=EX N s' l
 |[],s,s',_=>rfl|a::l,s,s',h=>by simp only[EX];rw[qnz (l:=l) (s:=a.D9::s) (s':=a.D9::s') fun x=>by simp only[zI,h x]];by_cases b:a.D9∈s;simp only[b,(h _).1 b,It];simp only[b,mt (h _).2 b,LX]
def qz6{l:X aL}(q:l.length<=1000000){i:Nat}{x:aL}(c:l[i]? = some x)(p:i<l.length){rc:Int->A Int}:∀(m k:Nat),i-k<m->k<=i->
  Nj l i rc m k=if x.D9∈((l.take i).drop k).map aL.D9 then some 4 else rc (i64.wrap<|(i:Int)+1)
 |0,k,hm,_=>by omega
 |m+1,k,hm,u=>by
  unfold Nj;by_cases a:k<i;obtain⟨y,d,_⟩:=gO (l:=l) (i:=k) ag;have t:(l.take i)[k]? = some y:=by rw[Ia a];exact d
  have b:decide ((k:Int)<(i:Int))=true:=nL a;have s:i64.wrap ((k:Int)+1)=((k+1:Nat):Int):=MR ag ag;simp only[b,zC,cZ,d,c,aN,b7 t,zQ,zI,s];by_cases e:y.D9=x.D9;simp[e];have g:(y.D9==x.D9)=false:=by simpa using e
  have j:¬ x.D9=y.D9:=fun h=>e h.symm;simp only[g,zD,j,Ew];exact qz6 q c p m (k+1) ag ag;have b:decide ((k:Int)<(i:Int))=false:=oD a;have:(l.take i).drop k=[]:=Aa (by simp;omega);simp only[b,zD,ti,this,gg,ml,LX]
def qz5{l:X aL}{N n:Nat}(k:l.length<=1000000)(p:l.length<n):∀(m i:Nat),l.length-i<m->i<=l.length->PX l N n m i=some (EX N ((l.take i).map aL.D9)<|l.drop i)
 |0,i,hm,_=>by omega
 |m+1,i,hm,q=>by
  unfold PX;by_cases b:i<l.length;obtain⟨a,d,_⟩:=gO b;have g:=qz6 k d b (rc:=PX l N n m) n 0 ag ag;rw[zV,Xl]at g;simp only[nL b,zC,cZ,d,aN,b7 d,EX];by_cases c:a.D9<0;simp[c,aN];by_cases e:a.To<0;simp[c,e,aN];by_cases h:a.To>=(N:Int);simp[c,e,h,aN];simp only[c,e,h,yB,zD,aN,or_self,LX,g,pS b<|show l.length<=9223372036854775807 by omega];rw[qz5 k p m (i+1) ag ag,lG d];by_cases j:a.D9∈(l.take i).map aL.D9;simp only[j,It];simp only[j,LX];congr 1;exact qnz fun x=>by simp[or_comm]
  simp only[oD b,zD,tj,bZ b,EX]
def z03{f:cb}{k:Nat}(c:dC f k)(p:k<=1000000){n:Nat}(q:k<n):∀(m i:Nat),f.D6.length-i<m->i<=f.D6.length->Ni f n m i=some (SR f.D6.length<|f.D6.drop i)
 |0,i,hm,_=>by omega
 |m+1,i,hm,s=>by
  have u:=c.nodes;unfold Ni;by_cases a:i<f.D6.length;obtain⟨x,g,h⟩:=gO a;have t:=c.D8 x h;have e:=qz5 (l:=x.E2) (N:=f.D6.length) (n:=n) ag ag n 0 ag ag;rw[zV,Xl,vp,gg]at e;simp only[nL a,zC,cZ,g,aN,b7 g,SR,G7,bi,e,pS a<|show f.D6.length<=9223372036854775807 by omega];by_cases d:x.R<0;simp[d];simp only[d,yB,zD,LX];by_cases b:EX f.D6.length [] x.E2=0;simp only[b,nh,zD,dG,ox,LX];exact z03 c p q m (i+1) ag ag;have j:(EX f.D6.length [] x.E2 != 0)=true:=by simpa using b
  simp only[j,zC,b,dG,gP,It];simp only[oD a,zD,th,bZ a,SR]
variable{f:cb}{k:Nat}{n:Nat}
def za4(c:dC f k)(e:k<=1000000)(g:k<n):Ub n f=some (IU f):=by
 have i:=c.nodes;unfold Ub IU;by_cases a:f.D6.length=0;simp[a];have d:((f.D6.length:Int)==0)=false:=by simp;intro h;simp[h]at a
 simp only[d,zD,a,LX];by_cases b:f.D6.length>4096;have:(f.D6.length:Int)>4096:=by omega
 simp[b,this];have:¬ (f.D6.length:Int)>4096:=by omega
 simp only[b,this,yB,zD,LX];have h:=z03 c e g n 0 ag ag;rw[zV,Xl]at h;exact h
def z8d{l:X aL}{i:Nat}{x:aL}(s:l[i]? = some x){out:X aL}(t:out.length<=1000000)(g:gZ out){rc:Int->X aL->A (X aL)}:∀(m p:Nat),p<m->p<=out.length->(∀a∈out.drop p,x.D9<a.D9)->
  ∃q,q<=out.length/\Nw l i out rc m p=Nx l i out rc (q:Int)/\(∀a∈out.drop q,x.D9<a.D9)/\(∀a∈out.take q,a.D9<=x.D9)
 |0,p,hm,_,_=>by omega
 |m+1,p,hm,B,c=>by
  unfold Nw;cases p with
  |zero=>
   have:¬ ((0:Nat):Int)>0:=by omega
   simp only[this,yB,zD,aN];exact⟨0,by omega,rfl,c,by simp⟩
  |succ p=>
   have w:((p+1:Nat):Int)>0:=by omega
   have C:i64.wrap (((p+1:Nat):Int)-1)=(p:Int):=MR ag ag;obtain⟨y,d,_⟩:=gO (l:=out) (i:=p) ag;simp only[w,yC,zC,C,cZ,d,s,aN];by_cases e:y.D9>x.D9;simp only[e,yC,zC];refine z8d s t g m p ag ag fun a b=>?_;rw[b7 d]at b;obtain rfl |b:=zI.1 b
   omega;exact c a b;simp only[e,yB,zD];refine⟨p+1,B,rfl,c,fun a b=>?_⟩;obtain⟨j,z,rfl⟩:=mem_iff_getElem.1 b;simp only[Wz]at z;rw[getElem_take];obtain⟨D,h⟩:=zG.1 d;by_cases u:j=p;subst u;rw[h];omega;have:=pairwise_iff_getElem.1 g j p ag D ag;rw[h]at this;omega
def Eg{l:X aL}{i:Nat}{x:aL}(d:l[i]? = some x){out:X aL}(p:out.length<=1000000){rc:Int->X aL->A (X aL)}{q:Nat}(s:q<=out.length):
  Nx l i out rc (q:Int)=rc (i64.wrap<|(i:Int)+1) (out.take q++x::out.drop q):=by
 have b:(out.drop 0).take ((q:Int)).toNat=out.take q:=by rw[Xl,zZ]
 have c:(out.drop<|0+((q:Int)).toNat).take (out.length-((q:Int)).toNat)=out.drop q:=by rw[zZ,Wy,zW ca]
 have t:(out.take q).length=q:=by simp;omega
 have a:(0:Int)<=(q:Int)/\(q:Int)<=((out.length:Nat):Int):=by omega
 have e:0+((q:Int)).toNat<=out.length:=by rw[zZ];omega
 have g:(out.take q).length*16<=140737488355328/\(out.take q).length<=140737488355328:=by omega
 have h:((out.take q).length+1)*16<=140737488355328/\(out.take q).length+1<=140737488355328:=by omega
 have j:(0+((q:Int)).toNat)+(out.length-((q:Int)).toNat)<=out.length:=by rw[zZ];omega
 have m:((out.take q++[x]).length+(out.drop q).length)*16<=140737488355328/\(out.take q++[x]).length+(out.drop q).length<=140737488355328:=by simp;omega
 unfold Nx;simp only[aE,b,c,cZ,d,aN];rw[kh a,kh e,kh g,kh h,kh a,kh j,kh m];simp
def z8c{l:X aL}(z:l.length<=1000000)(s:m8 l){n:Nat}(A:l.length<n):∀(m i:Nat),l.length-i<m->i<=l.length->Q9 l n m i (wL<|l.take i)=some (wL l)
 |0,i,hm,_=>by omega
 |m+1,i,hm,E=>by
  have c:m8 (l.take i):=s.sublist<|IQ i l;have B:(wL<|l.take i).length=i:=by rw[(PO _).length_eq];simp;omega
  unfold Q9;by_cases d:i<l.length;obtain⟨x,h,_⟩:=gO d;obtain⟨q,q1,q2,q3,q4⟩:=z8d h (out:=wL<|l.take i) ag (U5 c) (rc:=Q9 l n m) n (wL<|l.take i).length ag (zF _) ca;simp only[nL d,zC,q2,Eg h (show(wL<|l.take i).length<=1000000 by omega) q1,pS d<|show l.length<=9223372036854775807 by omega];have j:m8 (l.take<|i+1):=s.sublist<|IQ _ l;have u:((wL<|l.take i).take q++x::(wL<|l.take i).drop q).Perm (l.take<|i+1):=by rw[lG h];refine perm_middle.trans ?_;rw[Ww];exact((PO<|l.take i).cons x).trans (qcZ (l₁:=[x]) (l₂:=l.take i))
  have y:∀a∈wL (l.take i),a.D9≠x.D9:=fun a g e=>by rw[lG h]at j;have:=(pairwise_append.1 j).2.2 a ((PO _).mem_iff.1 g) x ca;exact this e
  have w:gZ ((wL<|l.take i).take q++x::(wL<|l.take i).drop q):=by have t:=U5 c;unfold gZ at*;rw[qp];refine⟨t.sublist<|IQ _ _,pairwise_cons.2 ⟨q3,t.sublist<|drop_sublist _ _⟩,fun a g b p=>?_⟩;have C:=q4 a g;have D:=y a<|zn g;obtain rfl |p:=zI.1 p;omega;have:=q3 b p;omega
  rw[<-z3n j u w];exact z8c z s A m (i+1) ag ag;simp only[oD d,zD,dr];rw[zW ag]
def qkh{l:X aL}(b:l.length<=1000000)(a:m8 l)(c:l.length<n):Vd n l=some (wL l):=by have h:=z8c b a c n 0 ag ag;rw[zV,vp]at h;exact h
structure ML(f:cb)(w:X Int)(o:X Int):Prop where
 len:w.length=f.D6.length
 get:∀x,fU f x->aC w x=some (if x∈o then(o.idxOf x:Int)else -1)
def ML.snoc{w o:X Int}(h:ML f w o){v:Int}(b:fU f v)(j:v ∉ o):ML f (w.set (0+v.toNat) (o.length:Int)) (o++[v]):=by
 refine⟨by simp[h.len],fun x a=>?_⟩;have m:v.toNat<w.length:=by rw[h.len];have:=b.1;have:=b.2;omega
 have i:0<=x/\x<((w.set (0+v.toNat) (o.length:Int)).length:Int):=by rw[lu,h.len];exact a
 have d:=h.get x a;have g:0<=x/\x<(w.length:Int):=by rw[h.len];exact a
 rw[aC,kh g]at d;rw[aC,kh i,Wy];by_cases e:x=v;subst e;simp[ns,j,m];rw[Ty (by have:=a.1;have:=b.1;omega),d];by_cases c:x∈o;simp[c,ns];simp[c,e]
def qsy{f:cb}{k:Nat}(s:m7 f)(q:dC f k)(H:k<=1000000):∀(n:Nat)(o:X Int)(v:Int)(w:X Int),Seen f o->fU f v->v ∉ o->ML f w o->f.D6.length-o.length+k+2<=n->
  ∃d,QD n v f.D6 w o=some (d,O5 f n o v)/\ML f d (O5 f n o v)
 |0,o,v,w,D,g,u,b,K=>by omega
 |n+1,o,v,w,D,g,u,b,K=>by
  have F:=D.snoc g u;have L:=F.len;simp only[zU,zO,zS]at L;obtain⟨I,y⟩:=xZ g;have A:=s _ y;have Q:=q.D8 _ y;have R:=q.nodes;have O:(R5 f v).length=(nd f v).E2.length:=(PO _).length_eq;have key:∀(m i:Nat)(p:X Int)(w:X Int),(R5 f v).length-i<m->i<=(R5 f v).length->Seen f p->o.length+1<=p.length->ML f w p->
    ∃d,V3 f.D6 (R5 f v) (QD n) m i w p=some (d,((R5 f v).drop i).foldl (jH<|O5 f n) p)/\ML f d (((R5 f v).drop i).foldl (jH<|O5 f n) p):=by
   intro m;induction m with
   |zero=>intro i p w hm;omega|succ m E=>
    intro i p w hm P x J b;unfold V3;by_cases e:i<(R5 f v).length;obtain⟨a,C,G⟩:=gO e;have B:=A.O9 a<|tI.1 G;have c:fU f a.To:=⟨B.2.1,B.2.2⟩;have z:i64.wrap ((i:Int)+1)=((i+1:Nat):Int):=pS e ag;simp only[nL e,zC,cZ,C,aN,b.get _ c,b7 C,oe];by_cases h:a.To∈p;have j:¬ ((p.idxOf a.To:Nat):Int)<0:=by omega
    simp only[h,It,j,yB,zD,Oh,z,jH];exact E (i+1) p w ag ag x J b;have j:(-1:Int)<0:=by decide
    simp only[h,LX,j,yC,zC,Oh,z,jH];obtain⟨M,g1,g2⟩:=qsy s q H n p a.To w x c h b ag;obtain⟨d1,⟨t,d2⟩,_,_⟩:=Lk s n p a.To x c h ag;simp only[g1,aN];exact E (i+1) _ M ag ag d1 (by rw[d2];simp;omega) g2;rw[bZ e];simp only[oD e,zD,it,foldl_nil];exact⟨w,rfl,b⟩
  have N:(o.length+1)*8<=140737488355328/\o.length+1<=140737488355328:=by omega
  obtain⟨d,g1,g2⟩:=key n 0 (o++[v]) _ ag ag F ca<|b.snoc g u;rw[zV,Xl]at g1;rw[Xl]at g2;refine⟨d,?_,g2⟩;show ik n (QD n) v f.D6 w o=_;simp only[ik,b.get _ g,aE,N,lr,It,I,aN,qkh (show(nd f v).E2.length<=1000000 by omega) A.aR<|show(nd f v).E2.length<n by omega];exact g1
def z08{f:cb}{o w:X Int}{z:Int}{l27:X aU}{rc:Int->X aU->A cb}{x:aU}{l:X aL}(y:l.length<=1000000)(e:ML f w o)(d:∀a∈l,a.To∈o)(h:∀v∈o,fU f v):∀(m i:Nat),l.length-i<m->i<=l.length->
  By (w,o) z l27 rc x m i ((l.take i).map (kL o)++l.drop i)=Vj z l27 rc x (l.map<|kL o)
 |0,i,hm,_=>by omega
 |m+1,i,hm,B=>by
  unfold By;have p:((l.take i).map (kL o)++l.drop i).length=l.length:=by simp;omega
  rw[p];by_cases b:i<l.length;obtain⟨a,c,j⟩:=gO b;have q:(((l.take i).map (kL o)++l.drop i))[i]? = some a:=by rw[kq (by simp;omega)];simp[show min i l.length=i by omega,c]
  have s:(((l.take i).map (kL o)++l.drop i)).set (0+(i:Int).toNat) (kL o a)=(l.take<|i+1).map (kL o)++l.drop (i+1):=by
   rw[b7 c,lG c];have u:((l.take i).map (kL o)).length=i:=by simp;omega
   have:=ZV ((l.take i).map (kL o)) (l.drop<|i+1) a<|kL o a;rw[u]at this;rw[Wy,zZ,this,LY,zQ,gg,zT];rfl
  have g:=d a j;have t:(⟨a.D9,(o.idxOf a.To:Int)⟩:aL)=kL o a:=rfl;simp only[nL b,zC,cZ,q,aN,e.get _<|h _ g,g,It,t,s,pS b<|show l.length<=9223372036854775807 by omega];exact z08 y e d h m (i+1) ag ag;simp only[oD b,zD];rw[zW ag,Aa ag,il]
def z07{f:cb}{k:Nat}(p:m7 f)(d:dC f k)(y:k<=1000000){n:Nat}(A:k+2<=n){r:Int}{o w:X Int}(b:XW f r o)(s:ML f w o):∀(m i:Nat),o.length-i<m->i<=o.length->
  PY f n (w,o) m i ((o.take i).map (gQ f o))=some ⟨o.map<|gQ f o⟩
 |0,i,hm,_=>by omega
 |m+1,i,hm,F=>by
  have D:=b.seen.len;have H:=d.nodes;unfold PY;by_cases c:i<o.length;obtain⟨v,q,g⟩:=gO c;obtain⟨B,h⟩:=xZ<|b.seen.W4 v g;have t:=p _ h;have G:=d.D8 _ h;have E:(R5 f v).length=(nd f v).E2.length:=(PO _).length_eq;have j:=z08 (z:=(i:Int)) (l27:=(o.take i).map (gQ f o)) (rc:=PY f n (w,o) m) (x:=nd f v) (l:=R5 f v) ag s (fun a u=>b.W7 v g a<|tI.1 u) b.seen.W4 n 0 ag ag;rw[zV,vp,gg,eY,Xl]at j;have C:(((o.take i).map (gQ f o)).length+1)*32<=140737488355328/\((o.take i).map (gQ f o)).length+1<=140737488355328:=by simp;omega
  have e:=qkh (show(nd f v).E2.length<=1000000 by omega) t.aR (show(nd f v).E2.length<n by omega);simp only[nL c,zC,cZ,q,B,aN,e];show By (w,o) i _ _ (nd f v) n 0 (R5 f v)=_;rw[j];simp only[Vj,aE];rw[kh C,pS c<|show o.length<=9223372036854775807 by omega];have:=z07 p d y A b s m (i+1) ag ag;rw[lG q]at this;simpa[gQ,R5]using this;simp only[oD c,zD,tk];rw[zW ag]
def z06{f:cb}(b:f.D6.length<=1000000){r:Int}{n:Nat}:∀(m i:Nat),f.D6.length-i<m->i<=f.D6.length->Nk f r n m i (replicate i<|-1)=Vk f r n (replicate f.D6.length<|-1)
 |0,i,hm,_=>by omega
 |m+1,i,hm,d=>by
  unfold Nk;by_cases a:i<f.D6.length;have c:((replicate i (-1:Int)).length+1)*8<=140737488355328/\(replicate i (-1:Int)).length+1<=140737488355328:=by simp;omega
  have e:replicate i (-1:Int)++[-1]=replicate (i+1) (-1):=by rw[replicate_succ']
  simp only[nL a,zC,aE];rw[kh c,pS a (show f.D6.length<=9223372036854775807 by omega),e];exact z06 b m (i+1) ag ag;simp only[oD a,zD];rw[show i=f.D6.length by omega]
def za5(b:m7 f)(a:dC f k)(g:k<=1000000){r:Int}(i:fU f r)(s:2*k+4<=n):Uc n f r=some (bX f r):=by
 obtain⟨h,j⟩:=H6 b i;have t:=a.nodes;have m:ML f (replicate f.D6.length<|-1) []:=⟨by simp,fun x c=>by
  have p:0<=x/\x<((replicate f.D6.length (-1:Int)).length:Int):=by rw[length_replicate];exact c
  rw[aC,kh p];have:x.toNat<f.D6.length:=by have:=c.1;have:=c.2;omega
  simp[this]⟩
 obtain⟨w,g1,g2⟩:=qsy b a g n [] r _ (Seen.nil f) i ca m (by simp;omega);rw[j n ag]at g1 g2;have q:=h.seen.len;have d:=z07 b a g (show k+2<=n by omega) h g2 n 0 ag ag;rw[zV,vp,gg]at d;have e:=z06 (f:=f) ag (r:=r) (n:=n) n 0 ag ag;rw[zV,replicate_zero]at e;simp only[Uc,e,Vk,g1,aN,d,bX]
def qus(b:dC f k)(c:k<=1000000)(g:2*k+4<=n):Uo n f=some (if IU f=0 then(bX f 0,0)else(⟨[]⟩,IU f)):=by
 simp only[Uo,za4 b c (show k<n by omega),aN];by_cases a:IU f=0;obtain⟨h,i,d⟩:=qri.1 a;simp[a,za5 d b c (r:=0) ⟨by omega,by omega⟩ g,aN];have e:(IU f != 0)=true:=by simpa using a
 simp[a,e]
end Go.Proofs
namespace Go.Proofs
open Go Go.Rx Go.Vx
def AR(l:X aL)(f:Int):Rl:=l.any (fun x=>x.D9==f)
variable{f:Int}
def PK{l:X aL}:AR l f=true↔∃x∈l,x.D9=f:=by simp[AR]
def mT(a b:X aL):X aL:=b.filter fun y=>!AR a y.D9
def W0(a b:X aL):X (Int×Int):=b.filterMap fun y=>(a.find? fun x=>x.D9==y.D9).map fun x=>(x.To,y.To)
structure qZ(a b out:X aL):Prop where
 up:gZ out
 pm:out.Perm (a++mT a b)
variable{a:X aL}{b:X aL}{o:X aL}
def qZ.uniq{d:X aL}(h:qZ a b o)(c:qZ a b d):o=d:=qqn h.up c.up (h.pm.trans c.pm.symm)
variable{x:aL}
def z00(g:m8 a)(c:x∈a)(i:x.D9=f):a.find? (fun x=>x.D9==f)=some x:=by
 have key:∀o,a.find? (fun x=>x.D9==f)=o->o=some x:=by intro o h;obtain _|y:=o;have:=find?_eq_none.1 h x c;simp[i]at this;have d:=Z' h;have e:=Kd h;simp at d;rw[g.eq y e x c ag]
 exact key _ rfl
def z01(h:∀x∈a,x.D9≠f):a.find? (fun x=>x.D9==f)=none:=by rw[find?_eq_none];intro x c;simpa using h x c
def qs8(a b:X aL)(y:aL):mT a (b++[y])=mT a b++(if AR a y.D9 then[]else[y]):=by unfold mT;rw[od];cases h:AR a y.D9<;>simp[h]
def quk(c:m8 a){y:aL}(e:x∈a)(d:x.D9=y.D9):W0 a (b++[y])=W0 a b++[(x.To,y.To)]:=by simp[W0,qc0,z00 c e d]
def qse{y:aL}(h:∀x∈a,x.D9≠y.D9):W0 a (b++[y])=W0 a b:=by simp[W0,qc0,z01 h]
def Ls(a:X aL):∀b:X aL,(mT a b).length+(W0 a b).length=b.length
 |[]=>rfl|y::b=>by
  have i:=Ls a b;unfold mT W0 at*;cases h:a.find? (fun x=>x.D9==y.D9)with
  |none=>
   have c:AR a y.D9=false:=by rw[find?_eq_none]at h;rw[qcr];intro e;obtain⟨x,g,d⟩:=PK.1 e;have:=h x g;simp[d]at this
   simp only[ll,c,lf,It,SH,h,uv,zO];omega
  |some x=>have c:AR a y.D9=true:=PK.2 ⟨x,Kd h,by have:=Z' h;simpa using this⟩;simp only[ll,c,fX,XM,LX,SH,h,zM,zO];omega
def z2m{p:Int×Int}(h:p∈W0 a b):∃x∈a,∃y∈b,x.D9=y.D9/\p=(x.To,y.To):=by obtain⟨y,g,e⟩:=mem_filterMap.1 h;rcases c:a.find? (fun x=>x.D9==y.D9)with _|x;rw[c]at e;cases e;rw[c]at e;have d:=Z' c;exact⟨x,Kd c,y,g,by simpa using d,(Option.some.inj e).symm⟩
def qZ.len(h:qZ a b o):o.length+(W0 a b).length=a.length+b.length:=by have c:=h.pm.length_eq;have d:=Ls a b;rw[zU]at c;omega
def qZ.mem(h:qZ a b o)(d:x∈o):x∈a\/x∈b:=by rcases yD.1 (h.pm.mem_iff.1 d)with c |c;exact Or.inl c;exact Or.inr (mem_filter.1 c).1
def vW:X aL->X aL->X aL
  |[],b=> b|a,[]=> a
  |x::a,y::b=> if x.D9<y.D9 then x::vW a (y::b)else if y.D9<x.D9 then y::vW (x::a) b else x::vW a b
 termination_by a b=> a.length+b.length
def z68(b:X aL):mT [] b=b:=by simp[mT,AR]
def z1h(h:∀y∈b,x.D9≠y.D9):mT (x::a) b=mT a b:=by unfold mT;apply filter_congr;intro y c;have:=h y c;simp[AR,this]
def pd(a b:X aL)(y:aL):W0 a (y::b)=((a.find? fun x=>x.D9==y.D9).map fun x=>(x.To,y.To)).toList++W0 a b:=by unfold W0;cases h:a.find? (fun x=>x.D9==y.D9)<;>simp[SH,h]
def qZ.step(h:qZ a b o)(d:∀y∈o,x.D9<y.D9)(c:∀y∈b,x.D9≠y.D9):qZ (x::a) b (x::o):=
 ⟨pairwise_cons.2 ⟨d,h.up⟩,by rw[z1h c];exact h.pm.cons x⟩
def Bn:∀(a b:X aL),gZ a->gZ b->qZ a b (vW a b)
 |[],b,_,k=>by rw[vW];exact⟨k,by rw[z68];exact .refl _⟩
 |x::a,[],j,_=>by rw[vW];exact⟨j,by simp[mT]⟩;intro h;cases h
 |x::a,y::b,j,k=>by
  obtain⟨n,q⟩:=pairwise_cons.1 j;obtain⟨i,r⟩:=pairwise_cons.1 k;rw[vW];by_cases l:x.D9<y.D9;rw[kh l];have d:=Bn a (y::b) q k;have g:∀z∈y::b,x.D9<z.D9:=fun z c=>by obtain rfl |c:=zI.1 c;exact l;have:=i z c;omega
  refine d.step (fun z c=>?_) (fun z c=>by have:=g z c;omega);obtain c |c:=d.mem c;exact n z c;exact g z c;rw[iy l];by_cases m:y.D9<x.D9;rw[kh m];have d:=Bn (x::a) b j r;have p:∀z∈x::a,y.D9<z.D9:=fun z c=>by obtain rfl |c:=zI.1 c;exact m;have:=n z c;omega
  refine⟨pairwise_cons.2 ⟨fun z c=>?_,d.up⟩,?_⟩;obtain c |c:=d.mem c;exact p z c;exact i z c;have e:mT (x::a) (y::b)=y::mT (x::a) b:=by
   have:AR (x::a) y.D9=false:=by rw[qcr];intro h;obtain⟨z,c,e⟩:=PK.1 h;have:=p z c;omega
   unfold mT;simp[ll,this]
  rw[e];exact(d.pm.cons y).trans perm_middle.symm;rw[iy m];have e:x.D9=y.D9:=by omega
  have d:=Bn a b q r;have s:=d.step (x:=x) (fun z c=>by obtain c |c:=d.mem c;exact n z c;have:=i z c;omega) (fun z c=>by have:=i z c;omega);refine⟨s.up,s.pm.trans ?_⟩;have:mT (x::a) (y::b)=mT (x::a) b:=by have:AR (x::a) y.D9=true:=PK.2 ⟨x,by simp,e⟩;unfold mT;simp[ll,this]
  rw[this]
 termination_by a b=>a.length+b.length
def z2n(a:X aL):W0 a []=[]:=rfl
variable{a:X aL}
def qZ.AO(c:gZ a):qZ a [] a:=⟨c,by simp[mT]⟩
def qZ.HP{b o:X aL}{x y:aL}(h:qZ a b o)(c:x∈a)(e:x.D9=y.D9):qZ a (b++[y]) o:=⟨h.up,by
 have:AR a y.D9=true:=PK.2 ⟨x,c,e⟩;rw[qs8,this];simpa using h.pm⟩
def qZ.out{b o:X aL}{y:aL}{k:Nat}(h:qZ a b o)(g:∀z∈o.take k,z.D9<y.D9)(i:∀z∈o.drop k,y.D9<z.D9):qZ a (b++[y]) (o.take k++y::o.drop k):=by
 have j:=h.up;rw[<-Ww k o]at j;obtain⟨m,n,p⟩:=pairwise_append.1 j;have l:AR a y.D9=false:=by rw[qcr];intro e;obtain⟨z,c,e⟩:=PK.1 e;have c:z∈o:=h.pm.mem_iff.2<|vt _ c;rw[<-Ww k o]at c;obtain c |c:=yD.1 c;have:=g z c;omega;have:=i z c;omega
 refine⟨pairwise_append.2 ⟨m,pairwise_cons.2 ⟨i,n⟩,fun z c w d=>?_⟩,?_⟩;obtain rfl |d:=zI.1 d;exact g z c;exact p z c w d;rw[qs8,l];refine perm_middle.trans ?_;rw[Ww];have:(y::o).Perm (y::(a++mT a b)):=h.pm.cons y;refine this.trans ?_;simp only[XM,LX];rw[<-zT];exact(perm_append_singleton y _).symm
structure Aj(N D:Nat)(aA d:Nat->Nat):Prop where
 lt:∀i,i<N->aA i<N
 idem:∀i,i<N->aA (aA i)=aA i
 zero:∀i,i<N->d (aA i)=0
 bd:∀i,i<N->d i<=D
def gM(c:Nat->Nat)(m n i:Nat):Nat:=if c i=n then m else c i
def EY(c d:Nat->Nat)(n i:Nat):Nat:=if c i=n then d i+1 else d i
def Ln(N:Nat)(c d:Nat->Nat)(i j:Nat):Prop:=j<N/\c j=c i/\d j<d i
structure ux(cells:X aY)(N:Nat)(aA d:Nat->Nat):Prop where
 root:∀(i:Nat)(c:aY),cells[i]? = some c->aA i=i->c.forward= -1
 fwd:∀(i:Nat)(c:aY),cells[i]? = some c->aA i≠i->∃j:Nat,c.forward=(j:Int)/\Ln N aA d i j
variable{N:Nat}{D:Nat}{f:Nat->Nat}{d:Nat->Nat}{m:Nat}{n:Nat}
def Aj.aW(h:Aj N D f d)(hm:m<N)(em:f m=m)(en:f n=n)(xJ:m≠n):Aj N (D+1) (gM f m n) (EY f d n) where
 lt i hi:=by unfold gM;split;exact hm;exact h.lt i hi
 idem i hi:=by have h1:=h.idem i hi;unfold gM;by_cases e:f i=n;simp[e,em,xJ];simp[e,h1]
 zero i hi:=by have h1:=h.idem i hi;have h2:=h.zero i hi;have h3:=h.zero m hm;unfold gM EY;rw[em]at h3;by_cases e:f i=n;simp[e,em,xJ,h3];simp[e,h1,h2]
 bd i hi:=by have:=h.bd i hi;unfold EY;split<;>omega
variable{i:Nat}
def Ln.aW{D:Nat}{j:Nat}(h:Ln N f d i j):Ln N (gM f m n) (EY f d n) i j:=by obtain⟨e,c,g⟩:=h;refine⟨e,by simp[gM,c],?_⟩;unfold EY;rw[c];split<;>omega
def qw5(h:Aj N D f d)(hm:m<N)(k:n<N)(em:f m=m)(c:f n=n)(j:m≠n):Ln N (gM f m n) (EY f d n) n m:=by have e:=h.zero m hm;have g:=h.zero n k;rw[em]at e;rw[c]at g;refine⟨hm,by simp[gM,em,c,j],?_⟩;simp[EY,em,c,j,e,g]
def N8{c:Type}{l:X c}{k:Nat}{x y:c}(h:(l.set k x)[i]? = some y):(i=k/\y=x)\/(i≠k/\l[i]? = some y):=by rw[mi]at h;by_cases e:k=i;rw[kh e]at h;split at h;exact Or.inl ⟨e.symm,(Option.some.inj h).symm⟩;cases h;rw[iy e]at h;exact Or.inr ⟨fun q=>e q.symm,h⟩
def Mq(em:f m=m)(c:m≠n)(h:gM f m n i=i):i≠n/\f i=i:=by unfold gM at h;by_cases e:f i=n;rw[kh e]at h;subst h;exact⟨c,em⟩;rw[iy e]at h;exact⟨fun q=>e (by rw[h,q]),h⟩
def qx2(em:f m=m)(h:gM f m n i≠i)(c:i≠n):f i≠i:=by intro q;apply h;unfold gM;rw[q,iy c]
def ux.aW{cells:X aY}{N D:Nat}{f d:Nat->Nat}(h:ux cells N f d)(hr:Aj N D f d){m n:Nat}(hm:m<N)(hn:n<N)(em:f m=m)(en:f n=n)(xJ:m≠n)(t:Int)(o:X aL)(z:Int)(q:X aL):
  ux ((cells.set m ⟨-1,t,o⟩).set n ⟨(m:Int),z,q⟩) N (gM f m n) (EY f d n) where
 root i c hc hi:=by obtain⟨h1,h2⟩:=Mq em xJ hi;obtain⟨e,_⟩|⟨_,hc⟩:=N8 hc;exact absurd e h1;obtain⟨e,e2⟩|⟨_,hc⟩:=N8 hc;subst e2;rfl;exact h.root i c hc h2
 fwd i c hc hi:=by obtain⟨e,e2⟩|⟨h1,hc⟩:=N8 hc;subst e2;subst e;exact⟨m,rfl,qw5 hr hm hn em en xJ⟩;have h2:=qx2 em hi h1;obtain⟨e,e2⟩|⟨_,hc⟩:=N8 hc;subst e;exact absurd em h2;obtain⟨j,h3,h4⟩:=h.fwd i c hc h2;exact⟨j,h3,h4.aW (D:=D)⟩
def M5(l:X aY):Nat:=(l.map fun c=>c.D8.length).sum
def Av:∀{l:X aY}{i:Nat}{x:aY}(c:aY),l[i]? = some x->M5 (l.set i c)+x.D8.length=M5 l+c.D8.length
 |[],i,x,c,h=>by simp at h
 |y::l,0,x,c,h=>by
  have:y=x:=by simpa using h
  subst this;simp only[Jh,M5,zQ,Ga];omega
 |y::l,i+1,x,c,h=>by have:=Av (l:=l) (i:=i) c (by simpa using h);simp only[OA,M5,zQ,Ga]at this ⊢;omega
def Lp:∀{l:X aY}{i:Nat}{x:aY},l[i]? = some x->x.D8.length<=M5 l:=fun{l i x} h=>by
 have:=Av (aY.mk 0 0 []) h;simp only[zS]at this;omega
structure vZ(N:Nat)(FB:Int)(l:X aL):Prop where
 up:gZ l
 ok:∀a∈l,0<=a.D9/\a.D9<FB/\0<=a.To/\a.To<N
def vZ.nil(N:Nat)(c:Int):vZ N c []:=⟨Pairwise.nil,fun a h=>by cases h⟩
def qZ.ok{N:Nat}{c:Int}{a b o:X aL}(h:qZ a b o)(g:vZ N c a)(j:vZ N c b):vZ N c o:=⟨h.up,fun x k=>by
 obtain e |e:=h.mem k;exact g.ok x e;exact j.ok x e⟩
structure lK(N D:Nat)(FB TB:Int)(cells:X aY)(f d:Nat->Nat):Prop where
 b6:Aj N D f d
 l4:ux cells N f d
 len:cells.length=N
 ar:∀(i:Nat)(c:aY),cells[i]? = some c->vZ N FB c.D8
 kd:∀(i:Nat)(c:aY),cells[i]? = some c->0<=c.kind/\c.kind<TB
def uU(cells:X aY)(m n:Nat)(t:Int)(o:X aL):X aY:=(cells.set m ⟨-1,t,o⟩).set n ⟨(m:Int),0,[]⟩
def lK.aW{N D:Nat}{FB TB:Int}{cells:X aY}{f d:Nat->Nat}(h:lK N D FB TB cells f d){m n:Nat}(hm:m<N)(hn:n<N)(em:f m=m)(en:f n=n)(xJ:m≠n){t:Int}{o:X aL}(ho:vZ N FB o)(ht:0<=t/\t<TB):
  lK N (D+1) FB TB (uU cells m n t o) (gM f m n) (EY f d n) where
 b6:=h.b6.aW hm em en xJ
 l4:=h.l4.aW h.b6 hm hn em en xJ t o 0 []
 len:=by simp[uU,h.len]
 ar i c hc:=by obtain⟨_,e⟩|⟨_,hc⟩:=N8 hc;subst e;exact .nil N FB;obtain⟨_,e⟩|⟨_,hc⟩:=N8 hc;subst e;exact ho;exact h.ar i c hc
 kd i c hc:=by obtain⟨_,e⟩|⟨_,hc⟩:=N8 hc;subst e;exact⟨by simp,by show(0:Int)<TB;omega⟩;obtain⟨_,e⟩|⟨_,hc⟩:=N8 hc;subst e;exact ht;exact h.kd i c hc
def zbi{cells:X aY}{m n:Nat}{x y:aY}(e:cells[m]? = some x)(g:cells[n]? = some y)(j:m≠n)(t:Int){o:X aL}(c:qZ x.D8 y.D8 o):
  M5 (uU cells m n t o)+(W0 x.D8 y.D8).length=M5 cells:=by
 have k:=Av ⟨-1,t,o⟩ e;have h:(cells.set m ⟨-1,t,o⟩)[n]? = some y:=by rw[Ty j];exact g
 have l:=Av ⟨(m:Int),0,[]⟩ h;have p:=c.len;simp only[uU,zS]at*;omega
def rI(f:Nat->Nat)(v:Int):Int:=(f v.toNat:Int)
def pG(cells:X aY)(v:Int):aY:=(cells[v.toNat]?).getD ⟨-1,0,[]⟩
def Kh(out:X aU)(k:Nat)(l:X aL):X aU:=out.set k ⟨((out[k]?).map (·.R)).getD 0,l⟩
def uR(g:X Int×X aU->Int->Int×X Int×X aU):X aL->X Int×X aU->X aL->X aL×X Int×X aU
 |[],s,c=>(c,s)|a::l,s,c=>uR g l (g s a.To).2 (c++[⟨a.D9,(g s a.To).1⟩])
def eg(cells:X aY)(f:Nat->Nat):Nat->X Int×X aU->Int->Int×X Int×X aU
 |0,s,_=>(0,s)|k+1,s,v=>if rI f v∈s.1 then((s.1.idxOf (rI f v):Int),s)
  else
   let c:=pG cells (rI f v)
   let r:=uR (eg cells f k) c.D8 (s.1++[rI f v],s.2++[⟨c.kind,[]⟩]) []
   ((s.1.length:Int),r.2.1,Kh r.2.2 s.1.length r.1)
structure Sn(N:Nat)(B:Nat)(s:X Int×X aU):Prop where
 nd:s.1.Nodup
 W4:∀v∈s.1,0<=v/\v<(N:Int)
 len:s.2.length=s.1.length
 sm:∀x∈s.2,x.E2.length<=B
variable{N:Nat}
def Sn.le{B:Nat}{s:X Int×X aU}(h:Sn N B s):s.1.length<=N:=Uy N h.nd h.W4
def Sn.nil(N B:Nat):Sn N B ([],[]):=⟨Ab,fun v c=>(ml c).elim,rfl,fun v c=>(ml c).elim⟩
def Sn.snoc{B:Nat}{s:X Int×X aU}(h:Sn N B s){v:Int}(q:0<=v/\v<(N:Int))(p:v ∉ s.1)(k:Int):Sn N B (s.1++[v],s.2++[⟨k,[]⟩]):=⟨by
 rw[f_];refine⟨h.nd,by simp,?_⟩;intro a l b j;simp at j;subst j;intro e;subst e;exact p l,fun u c=>by
 obtain c |c:=yD.1 c;exact h.W4 u c;simp at c;subst c;exact q,by simp[h.len],fun x g=>by
 obtain g |g:=yD.1 g;exact h.sm x g;simp at g;subst g;simp⟩
def lK.nM{D:Nat}{c e:Int}{cells:X aY}{f d:Nat->Nat}(h:lK N D c e cells f d){v:Int}(k:0<=v/\v<(N:Int)):cells[v.toNat]? = some (pG cells v):=by
 have j:=h.len;have g:v.toNat<cells.length:=by omega
 rw[pG,hF g];rfl
def lK.rI{N D:Nat}{c e:Int}{cells:X aY}{f d:Nat->Nat}(h:lK N D c e cells f d){v:Int}(g:0<=v/\v<(N:Int)):0<=rI f v/\rI f v<(N:Int):=by have:=h.b6.lt v.toNat ag;unfold Go.Proofs.rI;omega
def qxi(g:X Int×X aU->Int->Int×X Int×X aU):∀(l:X aL)(s:X Int×X aU)(c:X aL),(uR g l s c).1.length=c.length+l.length
 |[],s,c=>rfl|a::l,s,c=>by rw[uR,qxi g l];simp;omega
def R_{N D B:Nat}{A C:Int}{cells:X aY}{f d:Nat->Nat}(h:lK N D A C cells f d)(E:M5 cells<=B):∀(k:Nat)(s:X Int×X aU)(v:Int),Sn N B s->(0<=v/\v<(N:Int))->N-s.1.length<k->
  Sn N B (eg cells f k s v).2/\s.1.length<=(eg cells f k s v).2.1.length/\(0<(eg cells f k s v).2.1.length)
 |0,s,v,q,y,G=>by omega
 |k+1,s,v,q,y,G=>by
  unfold eg;by_cases hm:rI f v∈s.1;rw[kh hm];exact⟨q,zF _,RV hm⟩;rw[iy hm];have w:=h.rI y;have z:=q.snoc w hm (pG cells<|rI f v).kind;have t:=h.nM w;have J:=h.ar _ _ t;have I:=z.le;simp only[zU,zO,zS]at I;have key:∀(l:X aL),(∀a∈l,0<=a.To/\a.To<(N:Int))->∀(c:X Int×X aU)(g:X aL),Sn N B c->s.1.length+1<=c.1.length->Sn N B (uR (eg cells f k) l c g).2/\s.1.length+1<=(uR (eg cells f k) l c g).2.1.length:=by
   intro l;induction l with
   |nil=>intro _ c g j r;exact⟨j,r⟩|cons a l H=>intro u c g j r;have p:=u a ca;obtain⟨g1,g2,K⟩:=R_ h E k c a.To j p ag;exact H (fun b F=>u b<|kj _ F) _ _ g1 ag
  obtain⟨g1,g2⟩:=key _ (fun a p=>(J.ok a p).2.2) _ [] z ca;refine⟨⟨g1.nd,g1.W4,?_,?_⟩,?_,?_⟩;show(Kh _ _ _).length=_;rw[Kh,lu];exact g1.len;intro x e;obtain e |e:=Gv e;exact g1.sm x e;subst e;show(uR _ _ _ _).1.length<=B;rw[qxi];have:=Lp t;simp;omega;show s.1.length<=(uR (eg cells f k) _ _ _).2.1.length;omega;show 0<(uR (eg cells f k) _ _ _).2.1.length;omega
end Go.Proofs
namespace Go.Proofs
open Go Go.Rx Go.Vx
def pk(p:Int×Int):rZ:=⟨p.1,p.2⟩
end Go.Proofs
namespace Go.Proofs
open Go Go.Rx Go.Vx Go.Shelf Go.Sort
abbrev cB:=X RX
def jA{b S R:Type}{l:X b}(f:l.length<=9223372036854775807){F:Nat->Int->S->A R}(a:Nat->S->Prop){Q:R->Prop}
  (h:∀(m i:Nat)(x:b)(s:S),l[i]? = some x->i<l.length->decide ((i:Int)<(l.length:Int))=true->i64.wrap ((i:Int)+1)=((i+1:Nat):Int)->a i s->(∀d,a (i+1) d->∃r,F m ((i+1:Nat):Int) d=some r/\Q r)->∃r,F (m+1) (i:Int) s=some r/\Q r) (e:∀(m:Nat)(s:S),decide ((l.length:Int)<(l.length:Int))=false->a l.length s->∃r,F (m+1) (l.length:Int) s=some r/\Q r):
  ∀(m i:Nat)(s:S),l.length-i<m->i<=l.length->a i s->∃r,F m (i:Int) s=some r/\Q r
 |0,i,s,hm,_,_=>by omega
 |m+1,i,s,hm,n,g=>by
  by_cases c:i<l.length;obtain⟨x,k,_⟩:=gO c;exact h m i x s k c (nL c) (pS c f) g fun d j=>jA f a h e m (i+1) d ag ag j;have:i=l.length:=by omega
  subst this;exact e m s (oD ag) g
def lZ{a:Type}{p:Prop}[Decidable p]{k:A a}(h:p):aE p k=k:=kh h
def beqF{a b:cB}(h:a≠b):lX a b=false:=by rcases e:lX a b with _|_;rfl;exact absurd ((qgv _ _).1 e) h
def M4(a b:cB):lX a b=decide (a=b):=by by_cases h:a=b;rw[(qgv _ _).2 h];simp[h];rw[beqF h];simp[h]
variable{f:Type}{l:X f}
def z7z{a b:Nat}(c:a<=b)(d:b<=l.length):xX l (a:Int) (b:Int)=some ((l.drop a).take (b-a)):=by
 unfold xX;have:0<=(a:Int)/\(a:Int)<=(b:Int)/\(b:Int)<=(l.length:Int):=by omega
 simp[this,drop_take]
def ld{b:Nat}(a:b<=l.length):xX l 0 (b:Int)=some (l.take b):=by
 have:=z7z (l:=l) (qq b) a
 rwa [zV,Xl,sc]at this
def jz{a:Nat}(b:a<=l.length):xX l (a:Int) (l.length:Int)=some (l.drop a):=by
 have:=z7z (l:=l) b (zF _)
 rwa [zW ca]at this
def zat(n:Nat)(z:Int)(b:Rl):∃r,Ug n z b=some r:=by simp only[Ug,Bw,cr,Ux];cases decide (z>=48)<;>cases decide (z<=57)<;>cases (z==45)<;>cases b<;>cases decide (z>=65)<;>cases decide (z<=90)<;>cases decide (z>=97)<;>cases decide (z<=122)<;>exact⟨_,rfl⟩
variable{s:cB}
def qxc{i:Nat}{x:RX}(h:s[i]? = some x):Ad s (i:Int)=some (x.toNat:Int):=by
 have:=(zG.1 h).1;have a:0<=(i:Int)/\(i:Int)<(s.length:Int):=by omega
 simp[Ad,a,h]
variable{n:Nat}
def qwf(s:cB)(b:Rl)(w:40<=n):∃r,My n s b=some r/\(r=true->0<s.length/\s.length<=32):=by
 unfold My;by_cases e:(s.length:Int)<1;simp only[e,yC,zC,aN];exact⟨false,rfl,fun h=>by cases h⟩;by_cases j:(s.length:Int)>32;simp only[e,j,yC,yB,zC,zD,aN];exact⟨false,rfl,fun h=>by cases h⟩;obtain⟨x,g,_⟩:=gO (show 0<s.length by omega);have k:=qxc g;rw[zV]at k;have a:∃r,Bw n (x.toNat:Int)=some r:=by unfold Bw;cases decide ((x.toNat:Int)>=48)<;>exact⟨_,rfl⟩
 obtain⟨c,o⟩:=a;have key:=jA (l:=s) ag (F:=fun m z (_:Unit)=>Cn s b n m z) (fun _ _=>True) (Q:=fun r=>True)
  (fun m i x _ g v a t _ u=>by obtain⟨r,p⟩:=zat n (x.toNat:Int) b;obtain⟨q,d,_⟩:=u () trivial;simp only[Cn,a,zC,qxc g,aN,p,t];obtain _|_:=r;exact⟨_,rfl,trivial⟩;exact⟨q,d,trivial⟩)
  (fun m _ a _=>by simp only[Cn,a,zD,dj];exact⟨_,rfl,trivial⟩) n 0 () ag ag trivial
 obtain⟨q,d,_⟩:=key;rw[zV]at d;simp only[e,j,yB,zD,k,aN,o];cases c with
 |true=>simp only[zC,aN];exact⟨false,rfl,fun h=>by cases h⟩|false=>simp only[zD,aN];rcases((x.toNat:Int)==45)with _|_;exact⟨q,d,fun _=>ag⟩;exact⟨false,rfl,fun h=>by cases h⟩
def z84{d:X bE}(u:d.length<=1000000){s:cB}:∀(m i:Nat),d.length-i<m->i<=d.length->
  (∃j x,i<=j/\d[j]? = some x/\x.Name=s/\(∀k y,i<=k->k<j->d[k]? = some y->y.Name≠s)/\Ca d s m i=some (j:Int))\/((∀x∈d.drop i,x.Name≠s)/\Ca d s m i=some (-1))
 |0,i,hm,_=>by omega
 |m+1,i,hm,A=>by unfold Ca;by_cases b:i<d.length;obtain⟨x,a,_⟩:=gO b;simp only[nL b,zC,cZ,a,aN,pS b (show d.length<=9223372036854775807 by omega),M4];by_cases c:x.Name=s;simp only[c,yC,zC];exact .inl ⟨i,x,zF _,a,c,fun k y o g=>ag,rfl⟩;simp only[c,yB,zD];obtain⟨j,y,o,g,q,r,t⟩|⟨o,g⟩:=z84 u (s:=s) m (i+1) ag ag;refine .inl ⟨j,y,by omega,g,q,fun k z w v p=>?_,t⟩;by_cases e:k=i;subst e;rw[a]at p;cases p;exact c;exact r k z ag v p;refine .inr ⟨fun y h=>?_,g⟩;rw[b7 a]at h;obtain rfl |h:=zI.1 h;exact c;exact o y h;simp only[oD b,zD,B',bZ b];exact .inr ⟨fun x a=>(ml a).elim,by simp⟩
variable{d:X bE}
def pu(h:d.length<=1000000)(s:cB)(o:d.length<n):
  (∃(j:Nat)(x:bE),d[j]? = some x/\x.Name=s/\(∀k y,k<j->d[k]? = some y->y.Name≠s)/\JE n d s=some (j:Int))\/((∀x∈d,x.Name≠s)/\JE n d s=some (-1)):=by obtain⟨j,y,_,a,c,e,g⟩|⟨b,a⟩:=z84 h (s:=s) n 0 ag ag;exact .inl ⟨j,y,a,c,fun k z i m=>e k z ag i m,g⟩;exact .inr ⟨by rw[Xl]at b;exact b,a⟩
def qz3{l:X cB}(g:l.length<=1000000){s:cB}:∀(m i:Nat),l.length-i<m->i<=l.length->Nt l s m i=some (decide (s∈l.drop i))
 |0,i,hm,_=>by omega
 |m+1,i,hm,j=>by unfold Nt;by_cases a:i<l.length;obtain⟨x,b,_⟩:=gO a;simp only[nL a,zC,cZ,b,aN,b7 b,zI,pS a (show l.length<=9223372036854775807 by omega),M4];by_cases e:x=s;simp[e];have c:¬ s=x:=fun h=>e h.symm;simp only[e,c,yB,zD,Ew];exact qz3 g m (i+1) ag ag;simp only[oD a,zD,da,bZ a,ml,yB]
variable{l:X cB}
def PM(a:l.length<=1000000)(s:cB)(b:l.length<n):HB n l s=some (decide (s∈l)):=by have:=qz3 a (s:=s) n 0 ag ag;rw[zV,Xl]at this;exact this
def eV(l:X cB):Prop:=l.Pairwise fun a b=>lE a b=true
def eV.nodup(h:eV l):l.Nodup:=h.imp fun{a b} h e=>by subst e;rw[qgm]at h;cases h
def z8y(B:l.length<=1000000)(i:eV l){j:Nat}(t:j<=l.length)(w:∀x∈l.take j,lE x s=true)(A:∀x,l[j]? = some x->lE x s=false):∃out,Vg l s j=some out/\(∀x,x∈out↔x=s\/x∈l)/\out.length<=l.length+1/\eV out:=by
 unfold Vg;have tl:(l.take j).length=j:=by simp;omega
 have dl:(l.drop j).length=l.length-j:=by simp
 have o:(∀x∈l.drop j,lE s x=true)->∃out,(a8 (xX l 0 (j:Int)) fun m=>
  aE (m.length*16<=140737488355328/\m.length<=140737488355328) (
  aE ((m.length+1)*16<=140737488355328/\m.length+1<=140737488355328) (
  a8 (xX l (j:Int) (l.length:Int)) fun r=>
  aE (((m++[s]).length+r.length)*16<=140737488355328/\(m++[s]).length+r.length<=140737488355328) (
  some ((m++[s])++r)))))=some out/\(∀x,x∈out↔x=s\/x∈l)/\out.length<=l.length+1/\eV out:=by
  intro z;refine⟨(l.take j++[s])++l.drop j,?_,fun x=>?_,by simp;omega,?_⟩;rw[ld t,aN,lZ (by rw[tl];omega),lZ (by rw[tl];omega),jz t,aN,lZ (by rw[zU,tl,dl];simp;omega)];have:=Ww j l;constructor;intro h;simp only[yD,mq]at h;rcases h with(h |h)|h;exact .inr<|zn h;exact .inl h;exact .inr<|TJ h;rintro(h |h);simp[h];rw[<-this]at h;simp only[yD]at h ⊢;obtain h |h:=h;exact .inl<|.inl h;exact .inr h;unfold eV at*;rw[<-Ww j l,qp]at i;rw[qp,qp];refine⟨⟨i.1,by simp,fun a c b g=>by simp at g;subst g;exact w a c⟩,i.2.1,fun a c b g=>?_⟩;obtain c |c:=yD.1 c;exact i.2.2 a c b g;simp at c;subst c;exact z b g
 by_cases p:j<l.length;obtain⟨x,q,u⟩:=gO p;have c:=A x q;simp only[nL p,zC,cZ,q,aN,M4];by_cases e:x=s;subst e;simp only[yC,zC];exact⟨l,rfl,fun y=>⟨fun h=>.inr h,fun h=>h.elim (fun h=>h ▸ u) id⟩,by omega,i⟩;simp only[e,yB,zD];have g:lE s x=true:=by rcases v:lE s x with _|_;exact absurd (qhp x s c v) e;rfl
 refine o fun y k=>?_;rw[b7 q]at k;obtain rfl |k:=zI.1 k
 exact g;have:l=l.take (j+1)++l.drop (j+1):=(Ww _ _).symm;unfold eV at i;rw[this,qp]at i;exact qhq _ _ _ g (i.2.2 x (by rw[lG q];simp) y k);simp only[oD p,zD,aN];exact o fun y k=>by rw[bZ p]at k;cases k
def V5{l:X cB}(g:l.length<=1000000)(c:eV l){s:cB}:∀(m i:Nat),l.length-i<m->i<=l.length->(∀x∈l.take i,lE x s=true)->∃out,Nf l s m i=some out/\(∀x,x∈out↔x=s\/x∈l)/\out.length<=l.length+1/\eV out
 |0,i,hm,_,_=>by omega
 |m+1,i,hm,k,e=>by
  unfold Nf;by_cases b:i<l.length;obtain⟨x,h,_⟩:=gO b;simp only[nL b,zC,cZ,h,aN,pS b<|show l.length<=9223372036854775807 by omega];cases j:lE x s with
  |true=>
   simp only[zC];refine V5 g c m (i+1) ag ag fun y a=>?_;rw[lG h]at a;obtain a |a:=yD.1 a
   exact e y a;simp at a;subst a;exact j
  |false=>simp only[zD];exact z8y g c k e fun y a=>by rw[h]at a;cases a;exact j
  simp only[oD b,zD,aN];exact z8y g c k e fun y a=>by have:=(zG.1 a).1;omega
def Lv(b:l.length<=1000000)(a:eV l)(s:cB)(c:l.length<n):∃out,PU n l s=some out/\(∀x,x∈out↔x=s\/x∈l)/\out.length<=l.length+1/\eV out:=by have:=V5 b a (s:=s) n 0 ag ag ca;rw[zV]at this;exact this
structure xY(l0 l:X cB)(out:X cB):Prop where
 mem:∀x,x∈out↔x∈l0\/x∈l
 len:out.length<=l0.length+l.length
 p6:eV out
def xY.next{b out a:X cB}(h:xY b l out)(c:∀x,x∈a↔x=s\/x∈out)(g:a.length<=out.length+1)(e:eV a):xY b (l++[s]) a:=by refine⟨fun x=>?_,by have:=h.len;simp;omega,e⟩;rw[c,h.mem];simp only[yD,mq];constructor;rintro(h |h |h);exact .inr<|.inr h;exact .inl h;exact .inr<|.inl h;rintro(h |h |h);exact .inr<|.inl h;exact .inr<|.inr h;exact .inl h
def xY.nil(h:eV l):xY l [] l:=⟨fun x=>ca,by simp,h⟩
def Y7(t:d.length<=1000)(u:5000<=n):∃out,Us n d=some out/\xY [] (d.map bE.Name) out:=by
 have:=jA (l:=d) ag (F:=fun m z s=>Cm d n m s z) (fun i s=>xY [] ((d.take i).map bE.Name) s) (Q:=fun out=>xY [] (d.map bE.Name) out)
  (fun m i x s c r b p a q=>by have k:=a.len;simp at k;obtain⟨o,e,g,h,j⟩:=Lv (l:=s) ag a.p6 x.Name (show s.length<n by omega);simp only[Cm,b,zC,cZ,c,aN,e,p];exact q o (by rw[lG c,LY];exact a.next g h j))
  (fun m s b a=>by simp only[Cm,b,zD,ap];rw[zW<|zF _]at a;exact⟨s,rfl,a⟩) n 0 [] ag ag (xY.nil Pairwise.nil)
 rw[zV]at this;exact this
def z73(r:d.length<=12)(t:5000<=n):∃e,Ur n d=some e/\(e=0->∀x∈d,x.E6.length<=256/\x.E3.length<=256):=by
 have:=jA (l:=d) ag (F:=fun m z (_:Unit)=>Ci d m z) (fun i _=>∀x∈d.take i,x.E6.length<=256/\x.E3.length<=256) (Q:=fun e=>e=0->∀x∈d,x.E6.length<=256/\x.E3.length<=256)
  (fun m i x _ k q c o b p=>by
   simp only[Ci,c,zC,cZ,k,aN,o];by_cases g:(x.E6.length:Int)>256;simp only[g,yC,zC,aN];exact⟨7,rfl,fun h=>by cases h⟩;by_cases j:(x.E3.length:Int)>256;simp only[g,j,yC,yB,zC,zD,aN];exact⟨7,rfl,fun h=>by cases h⟩;simp only[g,j,yB,zD,aN];refine p () fun y a=>?_;rw[lG k]at a;obtain a |a:=yD.1 a
   exact b y a;simp at a;subst a;omega)
  (fun m _ c b=>by simp only[Ci,c,zD,ai];rw[zW<|zF _]at b;exact⟨0,rfl,fun _=>b⟩) n 0 () ag ag ca
 rw[zV]at this;have h:¬ (d.length:Int)>256:=by omega
 simp only[Ur,h,yB,zD];exact this
def zaj(s:cB)(c:40<=n):∃r,Uh n s=some r/\(r=true->0<s.length/\s.length<=32):=by obtain⟨r,a,b⟩:=qwf s false c;exact⟨r,by simp[Uh,a,aN],b⟩
structure Sk(d:X bE):Prop where
 iX:(d.map bE.Name).Nodup
 len:∀x∈d,0<x.Name.length/\x.Name.length<=32
def qzo(J:d.length<=12)(K:5000<=n):∃e,cj n d=some e/\(e=0->Sk d):=by
 have:=jA (l:=d) ag (F:=fun m z (_:Unit)=>Cl d n m z) (fun i _=>Sk<|d.take i) (Q:=fun e=>e=0->Sk d)
  (fun m i x _ p I o G g H=>by obtain⟨r,B,C⟩:=zaj x.Name (show 40<=n by omega);simp only[Cl,o,zC,cZ,p,aN,G,B];obtain _|_:=r;exact⟨1,rfl,fun h=>by cases h⟩;simp only[fX,zD];rcases pu (d:=d) ag x.Name (show d.length<n by omega)with⟨j,y,g1,g2,w,A⟩|⟨g1,g2⟩;simp only[A,aN];by_cases u:(j:Int)<(i:Int);simp only[u,yC,zC];exact⟨4,rfl,fun h=>by cases h⟩;simp only[u,yB,zD];refine H () ?_;rw[lG p];refine⟨?_,fun z c=>?_⟩;rw[LY,f_];refine⟨g.iX,by simp,fun a D b t e=>?_⟩;simp at t;subst t;obtain⟨z,c,v⟩:=mem_map.1 D;obtain⟨k,E,q⟩:=mem_iff_getElem.1 c;rw[Wz]at E;rw[getElem_take]at q;exact w k z ag (by rw[hF ag,q])<|v.trans e;obtain c |c:=yD.1 c;exact g.len z c;simp at c;subst c;exact C rfl;exact absurd rfl (g1 x<|zX p))
  (fun m _ o g=>by simp only[Cl,o,zD,ak];rw[zW<|zF _]at g;exact⟨0,rfl,fun _=>g⟩) n 0 () ag ag ⟨by simp,by simp⟩
 rw[zV]at this;exact this
def lS(d:X bE)(s:cB):Prop:=∃x∈d,x.Name=s
def Pf(g:d.length<=1000000)(h:lS d s)(i:d.length<n):∃(j:Nat)(x:bE),d[j]? = some x/\x.Name=s/\JE n d s=some (j:Int):=by obtain⟨j,x,a,b,_,c⟩|⟨a,_⟩:=pu g s i;exact⟨j,x,a,b,c⟩;obtain⟨x,k,e⟩:=h;exact absurd e (a x k)
def M8(d:X bE)(x:bE):Prop:=(∀s∈x.E6,lS d s)/\x.E6.Nodup
def z3t(P:d.length<=12)(G:∀x∈d,x.E6.length<=256)(R:5000<=n):∃e,eh n d=some e/\(e=0->∀x∈d,M8 d x):=by
 have:=jA (l:=d) ag (F:=fun m z (_:Unit)=>NS d n m z) (fun i _=>∀x∈d.take i,M8 d x) (Q:=fun e=>e=0->∀x∈d,M8 d x)
  (fun m i x _ v N r H q J=>by
   have B:=zX v;have I:=G x B;simp only[NS,r,zC,cZ,v,aN];have:=jA (l:=x.E6) ag (F:=fun w z (_:Unit)=>Cr d n i (NS d n m) x w z) (fun k _=>(∀s∈x.E6.take k,lS d s)/\(x.E6.take k).Nodup) (Q:=fun e=>e=0->∀x∈d,M8 d x)
    (fun w k s _ o S u L p K=>by
     simp only[Cr,u,zC,cZ,o,aN,L];rcases pu (d:=d) ag s (show d.length<n by omega)with⟨j,y,g1,g2,O,C⟩|⟨g1,g2⟩;have E:¬ (j:Int)<0:=by omega
     have M:=PM (l:=x.E6.take k) (by simp;omega) s (n:=n) (by simp;omega);simp only[C,aN,E,yB,zD,ld (show k<=x.E6.length by omega),M];by_cases hm:s∈x.E6.take k;simp only[hm,yC,zC];exact⟨4,rfl,fun h=>by cases h⟩;simp only[hm,yB,zD];refine K () ?_;rw[lG o];refine⟨fun t g=>?_,?_⟩;obtain g |g:=yD.1 g;exact p.1 t g;simp at g;subst g;exact⟨y,zX g1,g2⟩;rw[f_];exact⟨p.2,by simp,fun a D b A e=>by simp at A;subst A;subst e;exact hm D⟩;simp only[g2,aN];exact⟨5,rfl,fun h=>by cases h⟩)
    (fun w _ u p=>by
     simp only[Cr,u,zD,dy,H];rw[zW<|zF _]at p;refine J () fun y c=>?_;rw[lG v]at c;obtain c |c:=yD.1 c
     exact q y c;simp at c;subst c;exact p) n 0 () ag ag ⟨by simp,by simp⟩
   rw[zV]at this;exact this)
  (fun m _ r q=>by simp only[NS,r,zD,dz];rw[zW<|zF _]at q;exact⟨0,rfl,fun _=>q⟩) n 0 () ag ag ca
 rw[zV]at this;exact this
def z6x{x:bE}(w:x.E6.length<=256)(u:l.length<=1000)(v:5000<=n):ce n x l=some (decide (∀s∈x.E6,s∈l)):=by
 have:=jA (l:=x.E6) ag (F:=fun m z (_:Unit)=>Cj x l n m z) (fun i _=>∀s∈x.E6.take i,s∈l) (Q:=fun b=>b=decide (∀s∈x.E6,s∈l))
  (fun m i s _ g q e o c p=>by
   simp only[Cj,e,zC,cZ,g,aN,o,PM (l:=l) ag s (n:=n) ag];by_cases hm:s∈l;simp only[hm,yC,fX,zD];refine p () fun t a=>?_;rw[lG g]at a;obtain a |a:=yD.1 a
   exact c t a;simp at a;subst a;exact hm;simp only[hm,yB,lf,zC];exact⟨false,rfl,(eJ fun h=>hm<|h s<|zX g).symm⟩)
  (fun m _ e c=>by simp only[Cj,e,zD,aj];rw[zW<|zF _]at c;exact⟨true,rfl,(jl c).symm⟩) n 0 () ag ag ca
 rw[zV]at this;obtain⟨r,j,k⟩:=this;rw[<-k];exact j
inductive Ord(d:List bE):List cB->Prop
 |nil:Ord d []
 |snoc {l:List cB} {x:bE}:Ord d l->x∈d->x.Name ∉ l->(∀s∈x.E6,s∈l)->Ord d (l++[x.Name])
def Ord.nodup(h:Ord d l):l.Nodup/\∀s∈l,lS d s:=by induction h with|nil=>simp| @snoc l x o j k p i=>refine⟨?_,fun s c=>?_⟩;rw[f_];exact⟨i.1,by simp,fun a m b g e=>by simp at g;subst g;subst e;exact k m⟩;obtain c |c:=yD.1 c;exact i.2 s c;simp at c;subst c;exact⟨x,j,rfl⟩
def Ts:∀{a b:X cB},a.Nodup->(∀x∈a,x∈b)->a.length<=b.length
 |[],b,_,_=>by simp
 |x::a,b,j,c=>by
  obtain⟨h,i⟩:=nodup_cons.1 j;have k:=Ts (b:=b.erase x) i fun y g=>by have:y≠x:=fun e=>h<|e ▸ g;exact(mem_erase_of_ne this).2 (c y<|kj x g)
  have m:=qcQ<|c x ca;have o:=RV<|c x ca;simp only[zO];omega
def Ord.len(h:Ord d l):l.length<=d.length:=by
 have:=Ts (b:=d.map bE.Name) h.nodup.1 fun s a=>by obtain⟨x,c,rfl⟩:=h.nodup.2 s a;exact W2 c
 rwa [yA]at this
def z2k(I:d.length<=12)(G:∀x∈d,x.E6.length<=256)(E:5000<=n):∃l,eo n d=some l/\Ord d l:=by
 have key:∀(m:Nat)(b:Rl)(l:X cB),d.length-l.length+2<=m+(cond b 0 1)->Ord d l->∃r,JG d n m b l=some r/\Ord d r:=by
  intro m;induction m with
  |zero=>intro b l hm;cases b<;>simp at hm<;>omega|succ m D=>
   intro b l hm k;have J:=k.len;unfold JG;obtain _|_:=b;simp only[zD,fb];exact⟨l,rfl,k⟩;simp only[zC]at hm ⊢;have:=jA (l:=d) ag (F:=fun v z (s:Rl×cB)=>NT d n l (JG d n m) v s.1 s.2 z) (fun i s=>s.1=true->∃x∈d,x.Name=s.2/\x.Name ∉ l/\∀t∈x.E6,t∈l) (Q:=fun r=>Ord d r)
    (fun v i x s o H p B g j=>by
     have A:=zX o;simp only[NT,p,zC,cZ,o,aN,B,PM (l:=l) ag x.Name (n:=n) ag,z6x (G x A) (show l.length<=1000 by omega) E];by_cases a:x.Name∈l;simp only[a,yC,zC,aN];exact j (s.1,s.2) g;by_cases c:∀t∈x.E6,t∈l;have q:decide (∀t∈x.E6,t∈l)=true:=jl c;simp only[a,q,yB,zD,fX,aN,Wg,B];have C:∃y∈d,y.Name=x.Name/\y.Name ∉ l/\∀t∈y.E6,t∈l:=⟨x,A,rfl,a,c⟩;cases u:s.1 with
     |false=>simp only[lf,zC,aN];exact j (true,x.Name) fun _=>C
     |true=>
      simp only[fX,zD,aN];cases lE x.Name s.2 with
      |true=>simp only[zC];exact j (true,x.Name) fun _=>C
      |false=>simp only[zD];exact j (true,s.2) fun _=>g u
     have q:decide (∀t∈x.E6,t∈l)=false:=eJ c;simp only[a,q,yB,zD,lf,aN,zC];exact j (s.1,s.2) g)
    (fun v s p g=>by
     simp only[NT,p,zD,fa,Wh];rcases u:s.1 with _|_;simp only[zD];exact D false l (by simp;omega) k;obtain⟨x,o,e,a,c⟩:=g u;have w:Ord d (l++[s.2]):=by rw[<-e];exact .snoc k o a c
     have:=w.len;simp only[zU,zO,zS]at this;simp only[zC];rw[lZ ag];exact D true (l++[s.2]) (by simp;omega) w) n 0 (false,[]) ag ag (fun h=>by cases h)
   rw[zV]at this;exact this
 exact key n true [] (by simp;omega) .nil
structure AF(d:X bE):Prop where
 len:d.length<=12
 sT:∀x∈d,x.E6.length<=256/\x.E3.length<=256
 p8:Sk d
 sup:∀x∈d,M8 d x
 ord:∃l,Ord d l/\l.length=d.length
 one:(d.filter fun x=>decide (x.E6=[])).length=1
def qzk(g:d.length<=12)(k:5000<=n):∃e,Ut n d=some e/\(e=0->AF d):=by
 obtain⟨c,C,D⟩:=z73 g k;simp only[Ut,C,aN];by_cases u:c=0;subst u;have a3:=D rfl;obtain⟨r,E,G⟩:=qzo g k;simp only[nh,zD,E,aN];by_cases v:r=0;subst v;obtain⟨t,H,I⟩:=z3t g (fun x b=>(a3 x b).1) k;simp only[nh,zD,H,aN];by_cases w:t=0;subst w;simp only[nh,zD];have:=jA (l:=d) ag (F:=fun m z (s:Int)=>Q6 d n m s z) (fun i s=>s=(((d.take i).filter fun x=>decide (x.E6=[])).length:Int)) (Q:=fun e=>e=0->AF d)
  (fun m i x s b L p J j B=>by
   have K:=Gw (fun x:bE=>decide (x.E6=[]))<|d.take i;rw[Wz]at K;simp only[Q6,p,zC,cZ,b,aN,Vu,J];by_cases o:x.E6=[];have q:((x.E6.length:Int)==0)=true:=by simp[o]
   have c:i64.wrap (s+1)=s+1:=wr ag ag;simp only[q,zC,c];refine B (s+1) ?_;rw[lG b,od,zU,j];simp[o];have q:((x.E6.length:Int)==0)=false:=by simp[length_eq_zero_iff,o]
   simp only[q,zD];refine B s ?_;rw[lG b,od,zU,j];simp[o])
  (fun m s p j=>by
   rw[zW<|zF _]at j;simp only[Q6,p,zD,aq];by_cases y:s=1;obtain⟨l,g1,g2⟩:=z2k g (fun x b=>(a3 x b).1) k;have M:=g2.len;simp only[y,nh,zD,g1,aN];by_cases A:(l.length:Int)<(d.length:Int);simp only[A,yC,zC];exact⟨6,rfl,fun h=>by cases h⟩;simp only[A,yB,zD];exact⟨0,rfl,fun _=>⟨g,a3,G rfl,I rfl,⟨l,g2,by omega⟩,by omega⟩⟩;have a:(s != 1)=true:=by simpa using y
   simp only[a,zC];exact⟨1,rfl,fun h=>by cases h⟩) n 0 0 ag ag ca
 rw[zV]at this;exact this;have a:(t != 0)=true:=by simpa using w
 simp only[a,zC];exact⟨t,rfl,fun h=>absurd h w⟩;have a:(r != 0)=true:=by simpa using v
 simp only[a,zC];exact⟨r,rfl,fun h=>absurd h v⟩;have a:(c != 0)=true:=by simpa using u
 simp only[a,zC];exact⟨c,rfl,fun h=>absurd h u⟩
variable{a:Nat}
def wu(h:a<18446744073709551616):u64.wrap (a:Int)=(a:Int):=by simp only[wrap,IntKind.bits,signed];simp;omega
variable{b:Nat}
def Jk(c:a<18446744073709551616)(e:b<18446744073709551616):OM .u64 (a:Int) (b:Int)=((a&&&b:Nat):Int):=by
 have h:(BitVec.ofInt 64 (a:Int)&&&BitVec.ofInt 64 (b:Int)).toNat=a&&&b:=by simp only[KZ,BitVec.toNat_and,He];rw[vg c,vg e]
 show u64.wrap (((BitVec.ofInt 64 (a:Int)&&&BitVec.ofInt 64 (b:Int)).toNat:Nat):Int)=_;rw[h];exact wu (Gr SV c)
def orN(c:a<18446744073709551616)(e:b<18446744073709551616):Xc .u64 (a:Int) (b:Int)=((a|||b:Nat):Int):=by
 have h:(BitVec.ofInt 64 (a:Int)|||BitVec.ofInt 64 (b:Int)).toNat=a|||b:=by simp only[KZ,BitVec.toNat_or,He];rw[vg c,vg e]
 show u64.wrap (((BitVec.ofInt 64 (a:Int)|||BitVec.ofInt 64 (b:Int)).toNat:Nat):Int)=_;rw[h];exact wu (or_lt_two_pow (n:=64) c e)
def Xn(m:a<18446744073709551616)(p:b<18446744073709551616):∃c:Nat,Be .u64 (a:Int) (b:Int)=(c:Int)/\(c=0↔a&&&b=a):=by
 refine⟨(BitVec.ofInt 64 (a:Int) &&& ~~~ BitVec.ofInt 64 (b:Int)).toNat,?_,?_⟩;exact wu<|BitVec.isLt _;have o:(BitVec.ofInt 64 (a:Int)&&&BitVec.ofInt 64 (b:Int)).toNat=a&&&b:=by simp only[KZ,BitVec.toNat_and,He];rw[vg m,vg p]
 have k:(BitVec.ofInt 64 (a:Int)).toNat=a:=by simp only[KZ,He];exact vg m
 generalize BitVec.ofInt 64 (a:Int)=x at*;generalize BitVec.ofInt 64 (b:Int)=y at*;rw[<-o];constructor;intro h;have e:x &&& ~~~ y=0#64:=qc1 (by simpa using h);have:x&&&y=x:=by ext i g;have:=congrArg (fun z=>z.getLsbD i) e;simp[g]at this ⊢;intro j;exact this j
 rw[this,k];intro h;have e:x&&&y=x:=qc1 (by rw[h,k]);have:x &&& ~~~ y=0#64:=by ext i g;have:=congrArg (fun z=>z.getLsbD i) e;simp[g]at this ⊢;intro j;exact this j
 rw[this];rfl
def bt(w:Nat):X Int:=if w=0 then[]else[(w:Int)]
def Y5:bt 0=[]:=rfl
variable{w:Nat}
def tG(h:w≠0):bt w=[(w:Int)]:=iy h
def z9m:((bt w).length:Int)=0↔w=0:=by by_cases h:w=0;simp[h,bt];simp[h,bt]
def h?{w:Nat}{k:Nat}(r:k<=1000):∀(j m:Nat),j<=k->j+2<=m->UZ ((w:Int)::replicate k 0) m ((j+1:Nat):Int)=some (bt w)
 |0,0,_,h=>by omega
 |0,1,_,h=>by omega
 |0,m+2,_,_=>by
  have e:i64.wrap (((0+1:Nat):Int)-1)=0:=wr (z:=0) ag ag;have g:aC ((w:Int)::replicate k 0) 0=some (w:Int):=by simp[aC]
  have i:decide (((0+1:Nat):Int)>0)=true:=by simp
  have o:=ld (l:=(w:Int)::replicate k 0) (b:=0) ca;have p:=ld (l:=(w:Int)::replicate k 0) (b:=1) ca;rw[zV,vp]at o;rw[UZ,i,e,zC,g,aN,aN];by_cases c:w=0;have:((w:Int)==0)=true:=by simp[c]
  rw[this,zC,UZ];simp only[Int.lt_irrefl,yB,zD,aN,Wi,o,show((0:Int)>0)=False by simp];rw[lZ ca,c,Y5];have:((w:Int)==0)=false:=by simp[c]
  rw[this,zD,Wi,show((0+1:Nat):Int)=((1:Nat):Int) by simp,p,aN,lZ ca,tG c];rfl
 |j+1,m,t,hm=>by
  obtain⟨m,rfl⟩:∃q,m=q+1:=⟨m-1,by omega⟩;have e:i64.wrap (((j+1+1:Nat):Int)-1)=((j+1:Nat):Int):=MR ag ag;have g:aC ((w:Int)::replicate k 0) ((j+1:Nat):Int)=some 0:=by rw[cZ,zH,getElem?_replicate,kh ag]
  have i:decide (((j+1+1:Nat):Int)>0)=true:=by simp;omega
  rw[UZ,i,e,zC,g,aN,aN];exact h? r j m ag ag
variable{n:Nat}
def f?(c:5<=n):NJ n [(w:Int)]=some (bt w):=h? (k:=0) ag 0 n ag ag
def g?(c:5<=n):NJ n []=some []:=by obtain⟨k,rfl⟩:=qj c;rfl
def zal(c:5<=n):NJ n (bt w)=some (bt w):=by by_cases h:w=0;subst h;exact g? c;rw[tG h,f? c,tG h]
def z48(b n:Nat):Bs n (bt b) 0=some (b:Int):=by by_cases h:b=0;subst h;rfl;rw[tG h];rfl
def z7p(m:a<4096)(o:b<4096)(c:5<=n):Bl n (bt a) (bt b)=some (bt<|a&&&b):=by obtain⟨k,rfl⟩:=qj c;by_cases h:a=0;subst h;rw[zero_and];have:=g? (n:=k+5) c;simp only[Bl,Y5,Vh,zS,Ng,this,aN];rfl;have g:=Jk (a:=a) (b:=b) ag ag;have i:=f? (w:=a&&&b) (n:=k+5) c;have e:Bl (k+5) [(a:Int)] (bt b)=a8 (Bs (k+5) (bt b) 0) fun j=>aE ((0+1)*8<=140737488355328/\0+1<=140737488355328) (Ng (k+5) [OM .u64 (a:Int) j]):=rfl;rw[tG h,e,z48,aN,lZ ag,Ng,g,i];rfl
def z64(p:a<4096)(q:b<4096)(g:5<=n):∃c:Nat,Mw n (bt a) (bt b)=some (bt c)/\(c=0↔a&&&b=a):=by obtain⟨k,rfl⟩:=qj g;by_cases h:a=0;subst h;have:=g? (n:=k+5) g;refine⟨0,?_,by simp⟩;simp only[Mw,Y5,Vy,zS,Nv,this,aN];rfl;obtain⟨c,i,m⟩:=Xn (a:=a) (b:=b) ag ag;have j:=f? (w:=c) (n:=k+5) g;have e:Mw (k+5) [(a:Int)] (bt b)=a8 (Bs (k+5) (bt b) 0) fun o=>aE ((0+1)*8<=140737488355328/\0+1<=140737488355328) (Nv (k+5) [Be .u64 (a:Int) o]):=rfl;refine⟨c,?_,m⟩;rw[tG h,e,z48,aN,lZ ag,Nv,i,j];rfl
def TK(h:a<4096)(i:b<4096)(j:5<=n):Bx n (bt a) (bt b)=some (decide (a&&&b=a)):=by obtain⟨c,e,g⟩:=z64 h i j;rw[Bx,e,aN];congr 1;rw[ve,beq_iff_eq,z9m,g,Gb]
def OY(g:a<4096)(i:b<4096)(j:5<=n):Uw n (bt a) (bt b)=some (decide (a=b)):=by
 simp only[Uw,TK g i j,TK i g j,aN];by_cases h:a&&&b=a;by_cases c:b&&&a=b;have:a=b:=by rw[<-h,KE,c]
 simp[h,c,this,aN];have:a≠b:=fun e=>c (by rw[<-e,Eu]);simp[h,c,this,aN];have:a≠b:=fun e=>h (by rw[<-e,Eu]);simp[h,this,aN]
def z89{i:Nat}(v:w<4096)(u:i<64):Mr n (bt w) (i:Int)=some (w.testBit i):=by
 have g:decide ((i:Int)<0)=false:=by simp
 have j:(i:Int).tdiv 64=0:=by rw[qcI ag];omega
 have k:i64.wrap 0=0:=wr ag ag;simp only[Mr,g,zD,aN,j,k];by_cases h:w=0;subst h;simp[Y5];have m:decide ((0:Int)>=((bt w).length:Int))=false:=by rw[tG h];simp
 have o:aC (bt w) 0=some (w:Int):=by rw[tG h];rfl
 have p:(i:Int).tmod 64=(i:Int):=by rw[qcH ag];omega
 have q:u64.wrap (i:Int)=(i:Int):=wu ag;have r:min ((i:Int).toNat) u64.bits=i:=by rw[zZ];exact wv (by show i<=64;omega)
 have t:(w:Int).fdiv (2^i)=((w/2^i:Nat):Int):=by rw[show(2:Int)^i=((2^i:Nat):Int) by simp,qcJ _<|KR _];rfl
 have e:w/2^i<18446744073709551616:=Gr (div_le_self _ _) ag;have c:=Jk (a:=w/2^i) (b:=1) e ag;rw[show((1:Nat):Int)=1 from rfl]at c;simp only[m,zD,o,aN,p,q];rw[lZ ag,r,t,c];congr 1;rw[ve,beq_iff_eq,testBit_eq_decide_div_mod_eq,Gb,and_one_is_mod];omega
def bl(w:Nat):X Int:=((List.range 64).filter fun i=>w.testBit i).map fun(i:Nat)=>(i:Int)
def zaa(B:w<4096)(A:100<=n):bj n (bt w)=some (bl w):=by
 by_cases h:w=0;subst h;obtain⟨k,rfl⟩:=qj A;have e:bl 0=[]:=by simp[bl]
 rw[e];rfl;have v:i64.wrap (64*((bt w).length:Int))=((List.range 64).length:Int):=by rw[tG h,B!];exact wr ca ca
 have:=jA (l:=List.range 64) ca (F:=fun m z s=>Q3 (bt w) n m z s) (fun i s=>s=(((List.range 64).take i).filter fun i=>w.testBit i).map fun(i:Nat)=>(i:Int)) (Q:=fun r=>r=bl w)
  (fun m i x s g j o C c u=>by
   have p:x=i:=by rw[getElem?_range<|by simpa using j]at g;exact(Option.some.inj g).symm
   subst p;have D:s.length<=64:=by rw[c,yA];refine eb (Gw _ _) ?_;rw[Wz,B!];omega
   rw[B!]at j;simp only[Q3,v,o,zC,z89 B j,aN,Vq,C];cases t:w.testBit x with
   |true=>simp only[zC];rw[lZ ag];refine u _ ?_;rw[lG g,od,LY,c];simp[t]|false=>simp only[zD];refine u _ ?_;rw[lG g,od,LY,c];simp[t])
  (fun m s o c=>by simp only[Q3,v,o,zD,G'];rw[zW<|zF _]at c;exact⟨s,rfl,c⟩) n 0 [] (by simp;omega) ag ca
 obtain⟨r,q,y⟩:=this;rw[<-y];rw[zV]at q;exact q
def qvg(e:w<4096)(c:100<=n):Mx n (bt w)=some ((bl w).length:Int):=by rw[Mx,zaa e c];rfl
def qx5(i:5<=n):UL n (bt a) (bt b)=some (decide (a=b)):=by
 obtain⟨k,rfl⟩:=qj i;by_cases g:a=0;subst g;by_cases c:b=0;subst c;rfl;rw[tG c];simp[Y5,UL,Wv c];by_cases c:b=0;subst c;rw[tG g];simp[Y5,UL,g];have e:UL (k+5) [(a:Int)] [(b:Int)]=cond ((a:Int) != (b:Int)) (some false) (some true):=rfl;rw[tG g,tG c,e];by_cases h:a=b;subst h;simp;have:((a:Int) != (b:Int))=true:=by simp;omega
 simp[this,h]
def Yj{ws:X Nat}(u:ws.length<=1000)(v:5000<=n):pc n (ws.map bt) (bt b)=some (decide (b∈ws)):=by
 have:=jA (l:=ws) ag (F:=fun m z (_:Unit)=>Bu (ws.map bt) (bt b) n m z) (fun i _=>b ∉ ws.take i) (Q:=fun r=>r=decide (b∈ws))
  (fun m i x _ h t g o c p=>by
   have q:(ws.map bt)[i]? = some (bt x):=by rw[vz,h];rfl
   simp only[Bu,yA,g,zC,cZ,q,aN,qx5 (a:=x) (b:=b) (n:=n) ag,o];by_cases e:x=b;simp only[e,yC,zC];exact⟨true,rfl,(jl<|e ▸ zX h).symm⟩;simp only[e,yB,zD];refine p () ?_;rw[lG h];simp[c,Wv e])
  (fun m _ g c=>by simp only[Bu,yA,g,zD,bz];rw[zW<|zF _]at c;exact⟨false,rfl,(eJ c).symm⟩) n 0 () ag ag ca
 obtain⟨r,j,k⟩:=this;rw[<-k];rw[zV]at j;exact j
def JL(l:X Nat):Nat:=l.foldl (fun w i=>w|||2^i) 0
def K_:∀(l:X Nat)(w:Nat),(∀i∈l,i<12)->w<4096->l.foldl (fun w i=>w|||2^i) w<4096
 |[],w,_,h=>h|i::l,w,c,h=>K_ l _ (fun j e=>c j<|by simp[e]) (or_lt_two_pow (n:=12) h<|Nat.pow_lt_pow_right ag<|c i ca)
def z8k(j:Nat):∀(l:X Nat)(w:Nat),(l.foldl (fun w i=>w|||2^i) w).testBit j=(w.testBit j||decide (j∈l))
 |[],w=>by simp
 |i::l,w=>by rw[oe,z8k j l,testBit_or,testBit_two_pow];by_cases e:i=j;subst e;simp;have:¬ j=i:=fun h=>e h.symm;simp[e,this,Bool.or_assoc]
def Xh{l:X Nat}(M:l.length<=12)(q:∀i∈l,i<12)(N:5000<=n):Td n (l.map fun(i:Nat)=>(i:Int))=some (bt<|JL l,0):=by
 have e:replicate (64:Int).toNat (0:Int)=((0:Nat):Int)::replicate 63 0:=rfl;have:=jA (l:=l) ag (F:=fun m z s=>Bv (l.map fun(i:Nat)=>(i:Int)) n m z s) (fun i s=>s=(((l.take i).foldl (fun w i=>w|||2^i) 0:Nat):Int)::replicate 63 0) (Q:=fun r=>r=(bt<|JL l,0))
  (fun m i x s p L o I c J=>by
   have g:=q x<|zX p;have K:(l.map fun(i:Nat)=>(i:Int))[i]? = some (x:Int):=by rw[vz,p];rfl
   have t:decide ((x:Int)<0)=false:=by simp
   have u:decide ((x:Int)>4095)=false:=by simp;omega
   have v:i64.wrap ((x:Int).tdiv 64)=0:=by rw[qcI ag,show(x:Int)/64=0 by omega];exact wr ag ag
   have y:(x:Int).tmod 64=(x:Int):=by rw[qcH ag];omega
   have A:u64.wrap (x:Int)=(x:Int):=wu ag;have B:min ((x:Int).toNat) u64.bits=x:=by rw[zZ];exact wv (by show x<=64;omega)
   have P:(l.take i).foldl (fun w i=>w|||2^i) 0<4096:=K_ _ 0 (fun j H=>q j<|zn H) ag;have O:2^x<4096:=Nat.pow_lt_pow_right (n:=12) ag g;have C:u64.wrap (1*(2^x:Int))=((2^x:Nat):Int):=by rw[Int.one_mul,show(2:Int)^x=((2^x:Nat):Int) by simp];exact wu ag
   have D:pD s 0 ((64:Int).toNat) 0=some (((l.take i).foldl (fun w i=>w|||2^i) 0:Nat):Int):=by rw[c];rfl
   have E:=orN (a:=(l.take i).foldl (fun w i=>w|||2^i) 0) (b:=2^x) ag ag;simp only[Bv,yA,o,zC,cZ,K,aN,t,u,zD,v,y,A,B,C,D,E,I];rw[lZ ag];refine J _ ?_;rw[lG p,foldl_append,c];rfl)
  (fun m s o c=>by
   simp only[Bv,yA,o,zD,cq];rw[zW<|zF _]at c;have h:NJ n s=some (bt<|JL l):=by rw[c];exact h? (k:=63) ag 63 n ag ag
   rw[lZ (by rw[c];rfl),h];exact⟨_,rfl,rfl⟩) n 0 _ ag ag rfl
 obtain⟨r,h,G⟩:=this;rw[zV]at h;rw[Td,lZ cg,e,<-G];exact h
inductive oN(d:List bE)(s:cB):cB->Prop
 |refl:oN d s s
 |step {t u:cB} {x:bE}:oN d s t->x∈d->x.Name=t->u∈x.E6->oN d s u
variable{d:X bE}{s:cB}
def oN.trans{t u:cB}(h:oN d s t)(h':oN d t u):oN d s u:=by induction h' with|refl=>exact h|step _ c e g i=>exact .step i c e g
structure WL(d:X bE)(P:cB->Prop)(l:X cB):Prop where
 iX:l.Nodup
 mem:∀s∈l,lS d s/\P s
variable{l:X cB}
def WL.len{P:cB->Prop}(h:WL d P l):l.length<=d.length:=by
 have:=Ts (b:=d.map bE.Name) h.iX fun s c=>by obtain⟨x,e,rfl⟩:=(h.mem s c).1;exact W2 e
 rwa [yA]at this
def WL.snoc{d:X bE}{P:cB->Prop}{l:X cB}(h:WL d P l){s:cB}(j:s ∉ l)(k:lS d s/\P s):WL d P (l++[s]):=by refine⟨?_,fun t c=>?_⟩;rw[f_];exact⟨h.iX,by simp,fun a i b g e=>by simp at g;subst g;subst e;exact j i⟩;obtain c |c:=yD.1 c;exact h.mem t c;simp at c;subst c;exact k
variable{n:Nat}
def z2w(h:l.length<=1000)(v:5000<=n):(∃out,UU n l n [] 0=some out/\xY [] l out)/\∃out,UV n l n [] 0=some out/\xY [] l out:=by
 constructor;have:=jA (l:=l) ag (F:=fun m z s=>UU n l m s z) (fun i s=>xY [] (l.take i) s) (Q:=fun out=>xY [] l out)
  (fun m i x s g u e r c t=>by have h:=c.len;simp at h;obtain⟨o,j,k,p,q⟩:=Lv (l:=s) ag c.p6 x (show s.length<n by omega);simp only[UU,e,zC,cZ,g,aN,j,r];exact t o (by rw[lG g];exact c.next k p q))
  (fun m s e c=>by simp only[UU,e,zD,aw];rw[zW<|zF _]at c;exact⟨s,rfl,c⟩) n 0 [] ag ag (xY.nil Pairwise.nil)
 rw[zV]at this;exact this;have:=jA (l:=l) ag (F:=fun m z s=>UV n l m s z) (fun i s=>xY [] (l.take i) s) (Q:=fun out=>xY [] l out)
  (fun m i x s g u e r c t=>by have h:=c.len;simp at h;obtain⟨o,j,k,p,q⟩:=Lv (l:=s) ag c.p6 x (show s.length<n by omega);simp only[UV,e,zC,cZ,g,aN,j,r];exact t o (by rw[lG g];exact c.next k p q))
  (fun m s e c=>by simp only[UV,e,zD,de];rw[zW<|zF _]at c;exact⟨s,rfl,c⟩) n 0 [] ag ag (xY.nil Pairwise.nil)
 rw[zV]at this;exact this
def z4w(h:AF d)(R:lS d s)(hn:5000<=n):∃l,Uu n d s=some l/\eV l/\l.length<=12/\∀x,x∈l↔lS d x/\oN d x s:=by
 have hd:=h.len;have key:∀(m i:Nat)(l:X cB),d.length+1-i<=m->i<=l.length->WL d (fun x=>oN d x s) l->s∈l->(∀y∈l.take i,∀x∈d,y∈x.E6->x.Name∈l)->
   ∃r,NO d n m i l=some r/\eV r/\r.length<=12/\∀x,x∈r↔lS d x/\oN d x s:=by
  intro m;induction m with
  |zero=>intro i l hm Z A;have:=A.len;omega|succ m L=>
   intro i l hm Z A O H;have sN:=A.len;unfold NO;by_cases B:i<l.length;obtain⟨y,S,T⟩:=gO B;simp only[nL B,zC];have:=jA (l:=d) ag (F:=fun N z (e:X cB)=>Q7 d n i (NO d n m) N z e) (fun k e=>WL d (fun x=>oN d x s) e/\(∃t,e=l++t)/\∀x∈d.take k,y∈x.E6->x.Name∈e) (Q:=fun r=>eV r/\r.length<=12/\∀x,x∈r↔lS d x/\oN d x s)
    (fun N k x e g sM G nG J M=>by
     obtain⟨q,⟨t,o⟩,p⟩:=J;have I:=zX g;have P:=q.len;have qA:e[i]? = some y:=by rw[o,kl B];exact S
     have Oz:=(h.sT x I).1;simp only[Q7,G,zC,cZ,g,aN,qA,PM (l:=x.E6) ag y (n:=n) ag,PM (l:=e) ag x.Name (n:=n) ag,Vv,nG];by_cases C:y∈x.E6;by_cases v:x.Name∈e;simp only[C,v,yC,zC,aN,fX,zD];refine M e ⟨q,⟨t,o⟩,fun z c u=>?_⟩;rw[lG g]at c;obtain c |c:=yD.1 c;exact p z c u;simp at c;subst c;exact v;simp only[C,v,yC,yB,zC,aN,lf];rw[lZ ag];have nk:=(A.mem y T).2;refine M (e++[x.Name]) ⟨q.snoc v ⟨⟨x,I,rfl⟩,(oN.step .refl I rfl C).trans nk⟩,⟨t++[x.Name],by rw[o,zT]⟩,fun z c u=>?_⟩;rw[lG g]at c;obtain c |c:=yD.1 c;exact vt _<|p z c u;simp at c;subst c;simp;simp only[C,yB,zD,aN];refine M e ⟨q,⟨t,o⟩,fun z c u=>?_⟩;rw[lG g]at c;obtain c |c:=yD.1 c;exact p z c u;simp at c;subst c;exact absurd u C)
    (fun N e G J=>by
     obtain⟨q,⟨t,o⟩,p⟩:=J;rw[zW<|zF _]at p;simp only[Q7,G,zD,av,pS B<|show l.length<=9223372036854775807 by omega];refine L (i+1) e ag (by rw[o];simp;omega) q (by rw[o];exact vt _ O) fun z c x g D=>?_;rw[o,ya ag,lG S]at c;obtain c |c:=yD.1 c
     rw[o];exact vt _<|H z c x g D;simp at c;subst c;exact p x g D) n 0 l ag ag ⟨A,⟨[],by simp⟩,by simp⟩
   rw[zV]at this;exact this;have jZ:i=l.length:=by omega
   subst jZ;rw[zW<|zF _]at H;simp only[oD B,zD,az];obtain⟨out,g1,g2⟩:=(z2w (l:=l) ag hn).1;have U:=g2.len;simp at U;refine⟨out,g1,g2.p6,by omega,fun x=>?_⟩;rw[g2.mem];simp only[ml,Ew];constructor;exact fun g=>A.mem x g;rintro⟨_,K⟩;have:∀{t:cB},oN d x t->t∈l->x∈l:=by
    intro t E;induction E with
    |refl=>exact id|step _ v W Y L=>exact fun K=>L (W ▸ H _ K _ v Y)
   exact this K O
 obtain⟨j,x,g1,g2,V⟩:=Pf (d:=d) ag R (n:=n) ag;have hj:¬ (j:Int)<0:=by omega
 simp only[Uu,V,aN,hj,yB,zD];have:=key n 0 [s] ag ag ⟨by simp,fun t E=>by simp at E;subst E;exact⟨R,.refl⟩⟩ ca ca;rw[zV]at this;exact this
def qrf(h:Sk d){x y:bE}(i:x∈d)(j:y∈d)(e:x.Name=y.Name):x=y:=by
 have:=h.iX;clear h;induction d with
 |nil=>cases i|cons z d k=>rw[zQ,nodup_cons]at this;obtain g |g:=zI.1 i;obtain c |c:=zI.1 j;rw[g,c];exact absurd (mem_map.2 ⟨y,c,by rw[<-e,g]⟩) this.1;obtain c |c:=zI.1 j;exact absurd (mem_map.2 ⟨x,g,by rw[e,c]⟩) this.1;exact k g c this.2
def z4n(h:AF d)(P:lS d s)(hn:5000<=n):∃l,Uv n d s=some l/\eV l/\l.length<=12/\∀x,x∈l↔lS d x/\oN d s x:=by
 have hd:=h.len;have key:∀(m i:Nat)(l:X cB),d.length+1-i<=m->i<=l.length->WL d (fun x=>oN d s x) l->s∈l->(∀y∈l.take i,∀x∈d,x.Name=y->∀u∈x.E6,u∈l)->
   ∃r,NQ d n m i l=some r/\eV r/\r.length<=12/\∀x,x∈r↔lS d x/\oN d s x:=by
  intro m;induction m with
  |zero=>intro i l hm Z p;have:=p.len;omega|succ m J=>
   intro i l hm Z p M G;have sN:=p.len;unfold NQ;by_cases B:i<l.length;obtain⟨y,S,L⟩:=gO B;obtain⟨j,x,g1,g2,H⟩:=Pf (d:=d) ag (p.mem y L).1 (n:=n) ag;have C:=zX g1;have Oz:=(h.sT x C).1;simp only[nL B,zC,cZ,S,aN,H,g1];have:=jA (l:=x.E6) ag (F:=fun K z (e:X cB)=>Q8 n i (NQ d n m) x K z e) (fun k e=>WL d (fun x=>oN d s x) e/\(∃t,e=l++t)/\∀u∈x.E6.take k,u∈e) (Q:=fun r=>eV r/\r.length<=12/\∀x,x∈r↔lS d x/\oN d s x)
    (fun K k u e g sM E D I T=>by obtain⟨A,⟨t,q⟩,v⟩:=I;have V:=zX g;have O:=A.len;simp only[Q8,E,zC,cZ,g,aN,PM (l:=e) ag u (n:=n) ag,Vw,D];by_cases o:u∈e;simp only[o,yC,fX,zD];refine T e ⟨A,⟨t,q⟩,fun z c=>?_⟩;rw[lG g]at c;obtain c |c:=yD.1 c;exact v z c;simp at c;subst c;exact o;simp only[o,yB,lf,zC];rw[lZ ag];refine T (e++[u]) ⟨A.snoc o ⟨(h.sup x C).1 u V,.step (p.mem y L).2 C g2 V⟩,⟨t++[u],by rw[q,zT]⟩,fun z c=>?_⟩;rw[lG g]at c;obtain c |c:=yD.1 c;exact vt _<|v z c;simp at c;subst c;simp)
    (fun K e E I=>by
     obtain⟨A,⟨t,q⟩,v⟩:=I;rw[zW<|zF _]at v;simp only[Q8,E,zD,db,pS B<|show l.length<=9223372036854775807 by omega];refine J (i+1) e ag (by rw[q];simp;omega) A (by rw[q];exact vt _ M) fun z c w D U u g=>?_;rw[q,ya ag,lG S]at c;obtain c |c:=yD.1 c
     rw[q];exact vt _<|G z c w D U u g;simp at c;subst c;have:=qrf h.p8 D C<|U.trans g2.symm;subst this;exact v u g) n 0 l ag ag ⟨p,⟨[],by simp⟩,by simp⟩
   rw[zV]at this;exact this;have jZ:i=l.length:=by omega
   subst jZ;rw[zW<|zF _]at G;simp only[oD B,zD,dg];obtain⟨out,g1,g2⟩:=(z2w (l:=l) ag hn).2;have W:=g2.len;simp at W;refine⟨out,g1,g2.p6,by omega,fun x=>?_⟩;rw[g2.mem];simp only[ml,Ew];constructor;exact fun hx=>p.mem x hx;rintro⟨_,g⟩;clear g1 g2;induction g with
   |refl=>exact M|step h1 o N Y J=>exact G _ (J ⟨_,o,N⟩) _ o N _ Y
 obtain⟨j,x,g1,g2,H⟩:=Pf (d:=d) ag P (n:=n) ag;have hj:¬ (j:Int)<0:=by omega
 simp only[Uv,H,aN,hj,yB,zD];have:=key n 0 [s] ag ag ⟨by simp,fun t R=>by simp at R;subst R;exact⟨P,.refl⟩⟩ ca ca;rw[zV]at this;exact this
def zbk(h:AF d){a b:cB}(P:lS d a)(Q:lS d b)(O:oN d a b)(C:oN d b a):a=b:=by
 obtain⟨l,m,U⟩:=h.ord;have H:∀s,lS d s->s∈l:=fun s ⟨x,R,e⟩=>by
  apply zg;intro g;have D:=Ts (a:=s::l) (b:=d.map bE.Name) (nodup_cons.2 ⟨g,m.nodup.1⟩) fun t o=>by obtain rfl |o:=zI.1 o;rw[<-e];exact W2 R;obtain⟨y,S,rfl⟩:=m.nodup.2 t o;exact W2 S
  simp at D;omega
 have L:∀{l:X cB},Ord d l->∀s∈l,∀t,oN d s t->∃v B,l=v++s::B/\(t=s\/t∈v):=by
  intro l m;induction m with
  |nil=>intro s i;cases i| @snoc l x g1 g2 V N K=>
   have M:∀s∈l,∀t,oN d s t->t∈l:=fun s i t o=>by obtain⟨v,B,k,c⟩:=K s i t o;obtain rfl |c:=c;exact i;rw[k];exact vt _ c
   intro s i t o;obtain i |i:=yD.1 i;obtain⟨v,B,k,c⟩:=K s i t o;exact⟨v,B++[x.Name],by rw[k];simp,c⟩;simp at i;subst i;refine⟨l,[],rfl,?_⟩;induction o with
   |refl=>exact .inl rfl|step _ C D J T=>obtain e |e:=T;have:=qrf h.p8 C g2<|D.trans e;subst this;exact .inr<|N _ J;exact .inr (M _ e _<|.step .refl C D J)
 obtain⟨v,B,k,c⟩:=L m a (H a P) b O;obtain⟨r,W,j,u⟩:=L m b (H b Q) a C;obtain c |c:=c;exact c.symm;obtain u |u:=u;exact u
 ·-- b ahead of a,and a ahead of b
  have g:=m.nodup.1;obtain⟨p,q,I⟩:=append_of_mem c;rw[I]at k;have:r=p:=by
   have A:b ∉ p:=fun F=>by rw[k]at g;simp only[zT,fV]at g;rw[f_]at g;exact g.2.2 b F b ca rfl
   have rfl:b ∉ r:=fun F=>by rw[j,f_]at g;exact g.2.2 b F b ca rfl
   rw[k]at j;simp only[zT,fV]at j;clear k g I u m;induction p generalizing r with
   |nil=>obtain _|⟨z,r⟩:=r;rfl;simp at j;exact absurd (by rw[j.1];simp) rfl
   |cons y p G=>obtain _|⟨z,r⟩:=r;simp at j;exact absurd (by rw[<-j.1];simp) A;simp at j;rw[<-j.1,G r (fun E=>A<|kj _ E) (fun E=>rfl (kj _ E)) j.2]
  rw[this]at u;rw[k]at g;exact absurd rfl ((nodup_append.1 g).2.2 a (vt _ u) a ca)
def qtl(h:AF d)(I:l.length<=1000)(J:5000<=n):∃out,ao n d l=some out/\eV out/\out.length<=l.length/\∀x∈out,x∈l/\lS d x:=by
 have H:=h.len;have:=jA (l:=l) ag (F:=fun m z s=>QC d l n m s z) (fun i s=>eV s/\s.length<=i/\∀x∈s,x∈l/\lS d x) (Q:=fun out=>eV out/\out.length<=l.length/\∀x∈out,x∈l/\lS d x)
  (fun m i x s k D c C e r=>by
   obtain⟨p,K,q⟩:=e;simp only[QC,c,zC,cZ,k,aN,Wn,C];rcases pu (d:=d) ag x (show d.length<n by omega)with⟨j,y,g1,g2,E,t⟩|⟨g1,g2⟩;obtain⟨o,u,v,G,A⟩:=Lv (l:=s) ag p x (show s.length<n by omega);have B:(j:Int)>=0:=by omega
   simp only[t,aN,B,yC,zC,u];refine r o ⟨A,by omega,fun z g=>?_⟩;rcases(v z).1 g with rfl |g;exact⟨zX k,y,zX g1,g2⟩;exact q z g;simp only[g2,aN];exact r s ⟨p,by omega,q⟩)
  (fun m s c e=>by simp only[QC,c,zD,fu];exact⟨s,rfl,e⟩) n 0 [] ag ag ⟨Pairwise.nil,by simp,by simp⟩
 rw[zV]at this;exact this
def qo9(h:AF d)(B:l.length<=1000)(t:5000<=n):∃out,Nl n d l=some out/\out.length<=l.length/\∀x∈out,x∈l/\lS d x:=by
 obtain⟨all,A,H,a3,a4⟩:=qtl h B t;have:=jA (l:=all) ag (F:=fun m z s=>JH d n all m z s) (fun i s=>s.length<=i/\∀x∈s,x∈l/\lS d x) (Q:=fun out=>out.length<=l.length/\∀x∈out,x∈l/\lS d x)
  (fun m i x s o I e C j v=>by
   obtain⟨J,u⟩:=j;have r:=a4 x<|zX o;obtain⟨up,G,L,M,N⟩:=z4n h r.2 t;simp only[JH,e,zC,cZ,o,aN,G];have:=jA (l:=all) ag (F:=fun q z b=>Ct n all i s (JH d n all m) up q b z) (fun _ _=>True) (Q:=fun out=>out.length<=l.length/\∀x∈out,x∈l/\lS d x)
    (fun q k y b D K g E _ p=>by
     simp only[Ct,g,zC,E,cZ,D,aN,PM (l:=up) ag y (n:=n) ag];cases b with
     |true=>rcases((k:Int)==(i:Int))with _|_;exact p _ trivial;exact p true trivial
     |false=>exact p false trivial)
    (fun q b g _=>by
     simp only[Ct,g,zD,fj,Wm,C,cZ,o,aN];cases b with
     |true=>simp only[zC];rw[lZ ag];refine v (s++[x]) ⟨by simp;omega,fun z c=>?_⟩;obtain c |c:=yD.1 c;exact u z c;simp at c;subst c;exact r
     |false=>exact v s ⟨by omega,u⟩) n 0 true ag ag trivial
   rw[zV]at this;exact this)
  (fun m s e j=>by simp only[JH,e,zD,fk];exact⟨s,rfl,by omega,j.2⟩) n 0 [] ag ag ⟨by simp,by simp⟩
 rw[zV]at this;rw[Nl,A];exact this
end Go.Proofs
