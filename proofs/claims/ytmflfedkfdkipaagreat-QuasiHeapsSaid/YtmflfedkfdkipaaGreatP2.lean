import Derived.Calls
import Derived.Orders
import Derived.Below
import Derived.Laws.CopyRow
import Derived.KernelRfl
import Derived.Test.YtmflfedkfdkipaaGreatP1
set_option linter.all false
open List Go.IntKind
open Nat hiding beq_eq
namespace Go.Rx
open Go
structure Nm where
 I4:Nat->Nat
 sh:Nat->Nat
 cp:Nat->Nat
def cP:Nat:=18446744073709551616
def cJ(c:Nat):Nat:=c-cP
def cM(m:Nm)(i c:Nat):Nat:=if c<cP then c else m.cp i-cJ c
mutual
def G0(m:Nm):I->I
 |.pointer (some a)=>.pointer (some ⟨m.I4 a.block,m.sh a.block+a.off,none⟩)|.slice (some a) n c=>.slice (some ⟨m.I4 a.block,m.sh a.block+a.off,none⟩) n (cM m a.block c)
 |.map (some r)=>.map (some<|m.I4 r)|.func fn first cap=>.func fn (uS m first) (uS m cap)
 |.iface t v=>.iface t (G0 m v)|.agg d=>.agg (uS m d)
 |.tuple d=>.tuple (uS m d)|.bool b=>.bool b
 |.int k n=>.int k n|.float k n=>.float k n
 |.complex k a b=>.complex k a b|.string s=>.string s
 |.pointer none=>.pointer none|.slice none n c=>.slice none n c
 |.map none=>.map none|.chan (some r)=>.slice (some ⟨m.I4 r,m.sh r,some<|m.cp r⟩) 0 0
 |.chan none=>.chan none|.nilFunc=>.nilFunc
 |.nilIface=>.nilIface
def uS(m:Nm):Ie I->Ie I
 |⟨l⟩=>⟨aF m l⟩
def aF(m:Nm):X I->X I
 |[]=>[]|v::l=>G0 m v::aF m l
end
def lM(m:Nm)(l:X I):aF m l=l.map (G0 m):=by induction l with|nil=>simp[aF]|cons v l a=>simp[aF,a]
def zb2(m:Nm)(a:Ie I):uS m a=a.map (G0 m):=by cases a;simp[uS,lM]
@[simp] def hJ(m:Nm)(l:X I):uS m ⟨l⟩=⟨aF m l⟩:=by simp[uS]
@[simp] def y9(m:Nm)(l:X I):(aF m l).length=l.length:=by simp[lM]
@[simp] def EV(m:Nm)(a:Ie I):(uS m a).size=a.size:=by simp[zb2]
@[simp] def mB(m:Nm)(a:Ie I):(uS m a).toList=aF m a.toList:=by cases a;simp
def y8(m:Nm)(a b:X I):aF m (a++b)=aF m a++aF m b:=by simp[lM]
def qu6(m:Nm)(v:I):(G0 m v).oneCell'=v.oneCell':=by
 cases v with
 |pointer a=>cases a<;>rfl|slice a n c=>cases a<;>rfl
 |map r=>cases r<;>rfl|chan r=>cases r<;>rfl
 |_=>rfl
def bc(m:Nm)(v:I):(G0 m v).cells=uS m v.cells:=by
 cases v with
 |pointer a=>cases a<;>simp[G0,Value.cells,aF]|slice a n c=>cases a<;>simp[G0,Value.cells,aF]
 |map r=>cases r<;>simp[G0,Value.cells,aF]|chan r=>cases r<;>simp[G0,Value.cells,aF]
 |_=>simp[G0,Value.cells,aF]
abbrev Row:=X I×TypeId×Nat
abbrev m9:=Row ⊕ (X MapEntry×Nat)
abbrev Hp:=X (Nat×m9)
def lk:Hp->Nat->A m9
 |[],_=>none|(j,b)::h,i=>cond (Nat.beq j i) (some b) (lk h i)
def up:Hp->Nat->m9->Hp
 |[],_,_=>[]|(j,b)::h,i,c=>cond (Nat.beq j i) ((j,c)::h) ((j,b)::up h i c)
def rm:Hp->Nat->Hp
 |[],_=>[]|(j,b)::h,i=>cond (Nat.beq j i) (rm h i) ((j,b)::rm h i)
def beq_eq(j i:Nat):Nat.beq j i=decide (j=i):=by rw[ve];simp[IK]
def mD(j:Nat)(b:m9)(h:Hp)(i:Nat):lk ((j,b)::h) i=if j=i then some b else lk h i:=by simp only[lk,beq_eq];by_cases e:j=i<;>simp[e]
def AY(h:Hp)(i:Nat)(c:m9)(j:Nat):lk (up h i c) j=if i=j then(lk h i).map (fun _=>c)else lk h j:=by induction h with|nil=>simp[up,lk]|cons x h f=>obtain⟨k,b⟩:=x;simp only[up,beq_eq];by_cases e:k=i;subst e;simp only[yC,zC,mD];by_cases a:k=j<;>simp[a];simp only[e,yB,zD,mD,f];by_cases a:i=j;subst a;simp[e];by_cases d:k=j<;>simp[a,d]
def Kt(h:Hp)(i j:Nat):lk (rm h i) j=if i=j then none else lk h j:=by induction h with|nil=>simp[rm,lk]|cons x h c=>obtain⟨k,b⟩:=x;simp only[rm,beq_eq];by_cases e:k=i;subst e;simp only[yC,zC,mD,c];by_cases a:k=j<;>simp[a];simp only[e,yB,zD,mD,c];by_cases a:i=j;subst a;simp[e];by_cases d:k=j<;>simp[a,d]
structure S where
 h:Hp
 nx:Nat
def jP(m:Nm)(e:MapEntry):MapEntry:={ key:=G0 m e.key,val:=G0 m e.val,born:=e.born }
def wW(m:Nm)(i:Nat)(l:X I)(e:TypeId)(w:Jb):Nat->Prop
 |0=>m.sh i=0/\w.heap[m.I4 i]? = some (.cells (aF m l).toArray e (0,0))|1=>∃c b fr,w.heap[m.I4 i]? = some (.cells c b fr)/\(∀k v,l[k]? = some v->c[m.sh i+k]? = some (G0 m v))/\∀n,e=n+1->l.length<=m.cp i*n
 |n+2=>∃pre a,w.heap[m.I4 i]? = some (.cells (pre++aF m l++a).toArray e (0,0))/\pre.length=m.sh i/\l.length+a.length=m.cp i*n
def wX(m:Nm)(i:Nat)(w:Jb):m9->Prop
 |.inl (l,e,b)=>wW m i l e w b|.inr (a,clock)=>w.heap[m.I4 i]? = some (.map (a.map<|jP m).toArray clock)
def iK:m9->Rl
 |.inl (_,_,1)=>false|_=>true
structure Fits(m:Nm)(s:S)(w:Jb):Prop where
 ok:∀i b,lk s.h i=some b->wX m i w b
 inj:∀i j b c,lk s.h i=some b->lk s.h j=some c->i≠j->iK b=true->m.I4 i≠m.I4 j
 bd:∀i b,lk s.h i=some b->i<s.nx
def aJ(n:Nat)(m a:Nm):Prop:=∀i,i<n->a.I4 i=m.I4 i/\a.sh i=m.sh i/\a.cp i=m.cp i
def aJ.refl(n:Nat)(m:Nm):aJ n m m:=fun _ _=>⟨rfl,rfl,rfl⟩
def aJ.trans{n k:Nat}{a b c:Nm}(h:aJ n a b)(h':aJ k b c)(m:n<=k):aJ n a c:=fun i l=>by
 obtain⟨d,e,a3⟩:=h i l;obtain⟨f,g,j⟩:=h' i ag;exact⟨f.trans d,g.trans e,j.trans a3⟩
variable{n:Nat}
def aJ.mono{k:Nat}{a b:Nm}(h:aJ n a b)(d:k<=n):aJ k a b:=fun i c=>h i ag
def fW(m:Nm)(s:S)(w:Jb):Prop:=∀a,aJ s.nx m a->Fits a s w
def iC(m:Nm)(n:Nat)(v b:I):Prop:=∀a,aJ n m a->G0 a v=b
def nB(m:Nm)(n:Nat)(v b:X I):Prop:=∀a,aJ n m a->aF a v=b
variable{m:Nm}{s:S}{w:Jb}
def fW.fits(h:fW m s w):Fits m s w:=h m (aJ.refl _ _)
def iC.at{v a:I}(h:iC m n v a):G0 m v=a:=h m (aJ.refl _ _)
def nB.at{v a:X I}(h:nB m n v a):aF m v=a:=h m (aJ.refl _ _)
def iC.ext{b:Nm}{c:Nat}{v a:I}(h:iC m n v a)(d:aJ n m b)(f:n<=c):iC b c v a :=
 fun k e=>h k (d.trans e f)
def nB.ext{b:Nm}{c:Nat}{v a:X I}(h:nB m n v a)(d:aJ n m b)(f:n<=c):nB b c v a :=
 fun k e=>h k (d.trans e f)
def SU(m:Nm)(s:S)(b:Nat):Prop:=∃i c,lk s.h i=some c/\iK c=true/\m.I4 i=b
structure bJ(m:Nm)(s:S)(w:Jb)(aI:Nm)(bN:S)(w₁:Jb):Prop where
 agree:aJ s.nx m aI
 nx:s.nx<=bN.nx
 fits:fW aI bN w₁
 own:∀b,SU aI bN b->SU m s b\/w.heap.size<=b
 same:∀b,b<w.heap.size->¬ SU m s b->w₁.heap[b]? = w.heap[b]?
 size:w.heap.size<=w₁.heap.size
 os:w₁.os=w.os
 tape:w₁.tape=w.tape
 output:w₁.output=w.output
def bJ.refl{m:Nm}{s:S}{w:Jb}(h:fW m s w):bJ m s w m s w :=
 ⟨aJ.refl _ _,zF _,h,fun _ h=>.inl h,fun _ _ _=>rfl,zF _,rfl,rfl,rfl⟩
def bJ.trans{m e g:Nm}{s f i:S}{w a o:Jb}(h:bJ m s w e f a)(k:bJ e f a g i o):bJ m s w g i o:=by
 refine⟨h.agree.trans k.agree h.nx,eb h.nx k.nx,k.fits,fun b d=>?_,fun b d l=>?_,eb h.size k.size,k.os.trans h.os,k.tape.trans h.tape,k.output.trans h.output⟩;obtain c |c:=k.own b d;exact h.own b c;exact .inr<|eb h.size c;have c:¬ SU e f b:=fun p=>by obtain j |j:=h.own b p;exact l j;omega
 rw[k.same b (Xj d h.size) c,h.same b d l]
def bJ.below{c:Nm}{d:S}{a:Jb}(h:bJ m s w c d a)(f:∀b,¬ SU m s b):RowKit.Below w.heap.size w a :=
 ⟨h.os,h.tape,h.output,h.size,fun k e=>h.same k e<|f k⟩
def Fits.size{m:Nm}{s:S}{w:Jb}(h:Fits m s w){i:Nat}{b:m9}(a:lk s.h i=some b):m.I4 i<w.heap.size:=by have:=h.ok i b a;obtain c |hg:=XL (m.I4 i) w.heap.size;exact c;exfalso;obtain⟨l,e,d⟩|⟨f,clock⟩:=b;obtain _ |_ |n:=d;simp[wX,wW,Ac hg]at this;simp[wX,wW,Ac hg]at this;simp[wX,wW,Ac hg]at this;simp[wX,Ac hg]at this
def qjb(n:Nat)(h:fW m s w):fW m s { w with drawn:=n }:=fun j f=>by
 obtain⟨a,c,d⟩:=h j f;refine⟨fun i b g=>?_,c,d⟩;have:=a i b g;obtain⟨l,e,k⟩|⟨o,clock⟩:=b;obtain _ |_ |n:=k<;>exact this;exact this
def bJ.draw(n:Nat)(h:fW m s w):bJ m s w m s { w with drawn:=n }:=
 ⟨aJ.refl _ _,zF _,qjb n h,fun _ h=>.inl h,fun _ _ _=>rfl,zF _,rfl,rfl,rfl⟩
def Nm.set(m:Nm)(i b sh cp:Nat):Nm :=
 { I4:=fun j=>if j=i then b else m.I4 j,sh:=fun j=>if j=i then sh else m.sh j,cp:=fun j=>if j=i then cp else m.cp j }
def Nm.K2(m:Nm)(i b c a:Nat):aJ i m (m.set i b c a):=fun j d=>by
 simp[Nm.set,show j≠i by omega]
def wX.world{i:Nat}{c:Jb}{b:m9}(h:wX m i w b)(a:c.heap[m.I4 i]? = w.heap[m.I4 i]?):wX m i c b:=by obtain⟨l,e,d⟩|⟨f,clock⟩:=b;obtain _ |_ |n:=d<;>(simp only[wX,wW]at*;rw[a];exact h);simp only[wX]at*;rw[a];exact h
def bJ.alloc{m:Nm}{s:S}{w:Jb}(h:fW m s w)(o:Obj)(b:m9)(p:Nat)
  (r:∀f,aJ (s.nx+1) (m.set s.nx w.heap.size 0 p) f->wX f s.nx (w.alloc o) b):
  bJ m s w (m.set s.nx w.heap.size 0 p) ⟨(s.nx,b)::s.h,s.nx+1⟩ (w.alloc o):=by
 have v:∀k,k<w.heap.size->(w.alloc o).heap[k]? = w.heap[k]?:=fun k z=>RowKit.Below.heap_alloc w o k z;refine⟨Nm.K2 m _ _ _ _,Wt _,?_,?_,fun b r _=>v b r,by simp,rfl,rfl,rfl⟩;intro f q;have A:aJ s.nx m f:=(Nm.K2 m s.nx w.heap.size 0 p).trans q (Wt _);have g:=h f A;have B:f.I4 s.nx=w.heap.size:=by have:=(q s.nx<|zN _).1;simpa[Nm.set]using this
 refine⟨fun i c a=>?_,fun i j c d a l x t=>?_,fun i c a=>?_⟩;simp only[mD]at a;by_cases e:s.nx=i;subst e;simp only[It,zA]at a;subst a;exact r f q;simp only[e,LX]at a;exact(g.ok i c a).world (v _<|g.size a);simp only[mD]at a l;by_cases e:s.nx=i;subst e;have y:s.nx≠j:=x;simp only[y,LX]at l;have:=g.size l;omega;simp only[e,LX]at a;by_cases u:s.nx=j;subst u;have:=g.size a;omega;simp only[u,LX]at l;exact g.inj i j c d a l x t;simp only[mD]at a;by_cases e:s.nx=i;subst e;exact zN _;simp only[e,LX]at a;exact Xm<|g.bd i c a;rintro b ⟨i,c,a,t,rfl⟩;simp only[mD]at a;by_cases e:s.nx=i;subst e;right;simp[Nm.set];simp only[e,LX]at a;left;refine⟨i,c,a,t,?_⟩;have:=h.fits.bd i c a;simp[Nm.set,show i≠s.nx by omega]
def bJ.write{f:Jb}(h:fW m s w){i:Nat}{b c:m9}(g:lk s.h i=some b)(p:iK b=true)
  (u:∀k,k≠m.I4 i->f.heap[k]? = w.heap[k]?) (J:f.heap.size=w.heap.size) (B:f.os=w.os) (C:f.tape=w.tape) (D:f.output=w.output) (_h4:w.drawn<=f.drawn) (E:∀o,aJ s.nx m o->wX o i f c):
  bJ m s w m ⟨up s.h i c,s.nx⟩ f:=by
 refine⟨aJ.refl _ _,zF _,?_,?_,?_,by omega,B,C,D⟩;intro o r;have l:=h o r;have I:o.I4 i=m.I4 i:=(r i<|l.bd i b g).1;refine⟨fun j d a=>?_,fun j k d e a F y t=>?_,fun j d a=>?_⟩;simp only[AY]at a;by_cases e:i=j;subst e;simp only[It,g,zM,zA]at a;subst a;exact E o r;simp only[e,LX]at a;refine(l.ok j d a).world (u _ ?_);rw[<-I];exact fun x=>l.inj i j b d g a e p x.symm;have key:∀j d,lk (up s.h i c) j=some d->∃q,lk s.h j=some q/\(iK d=true->iK q=true):=fun j d a=>by simp only[AY]at a;by_cases e:i=j;subst e;exact⟨b,g,fun _=>p⟩;simp only[e,LX]at a;exact⟨d,a,id⟩
 obtain⟨q,z,H⟩:=key j d a;obtain⟨A,v,_⟩:=key k e F;exact l.inj j k q A z v y<|H t;simp only[AY]at a;by_cases e:i=j;subst e;exact l.bd i b g;simp only[e,LX]at a;exact l.bd j d a;rintro k ⟨j,d,a,t,rfl⟩;left;simp only[AY]at a;by_cases e:i=j;subst e;exact⟨i,b,g,p,rfl⟩;simp only[e,LX]at a;exact⟨j,d,a,t,rfl⟩;intro k K G;exact u k fun e=>G ⟨i,b,g,p,e.symm⟩
def bJ.forget(h:fW m s w)(i:Nat):bJ m s w m ⟨rm s.h i,s.nx⟩ w:=by
 have key:∀j d,lk (rm s.h i) j=some d->lk s.h j=some d:=fun j d a=>by simp only[Kt]at a;by_cases e:i=j;simp[e]at a;simpa[e]using a
 refine⟨aJ.refl _ _,zF _,fun l c=>?_,?_,fun _ _ _=>rfl,zF _,rfl,rfl,rfl⟩;have b:=h l c;exact⟨fun j d a=>b.ok j d<|key j d a,fun j k d e a f=>b.inj j k d e (key j d a)<|key k e f,fun j d a=>b.bd j d<|key j d a⟩;rintro k ⟨j,d,a,g,rfl⟩;exact .inl ⟨j,d,key j d a,g,rfl⟩
structure Tb where
 G4:TypeId->A TypeDesc
 inf:TypeId->A (Nat×Nat×I)
 fn:FuncId->A Func
 eqs:TypeId->Rl
mutual
def plain:I->Rl
 |.bool _=>true|.int _ _=>true
 |.string _=>true|.pointer none=>true
 |.slice none _ _=>true|.map none=>true
 |.nilFunc=>true|.nilIface=>true
 |.agg ⟨l⟩=>TU l|.tuple ⟨l⟩=>TU l
 |_=>false
def TU:X I->Rl
 |[]=>true|v::l=>cond (plain v) (TU l) false
end
def nth{b:Type}:X b->Nat->A b
 |[],_=>none|a::_,0=>some a
 |_::l,n+1=>nth l n
def IW:X I->Nat->A (X I)
 |_,0=>some []|[],_+1=>none
 |v::l,n+1=>match IW l n with
  |some r=>some (v::r)|none=>none
def wK(l:X I)(off n:Nat):A (X I):=IW (l.drop off) n
def GP:X I->X I->A (X I)
 |l,[]=>some l|[],_::_=>none
 |_::l,v::a=>match GP l a with
  |some r=>some (v::r)|none=>none
def AQ:X I->Nat->X I->A (X I)
 |l,0,a=>GP l a|[],_+1,_=>none
 |x::l,n+1,a=>match AQ l n a with
  |some r=>some (x::r)|none=>none
def F8(a:X I):Qo->A I
 |.tmp t=>nth a t|.const v=>cond (plain v) (some v) none
 |.func f=>some (.func (.func f) #[] #[])|.global _=>none
def oS(a:X I):X Qo->A (X I)
 |[]=>some []|x::l=>match F8 a x with
  |some v=>match oS a l with
   |some r=>some (v::r)|none=>none
  |none=>none
def J3(a:X I):X (Nat×Qo)->A (X<|Nat×I)
 |[]=>some []|(i,x)::l=>match F8 a x with
  |some v=>match J3 a l with
   |some r=>some ((i,v)::r)|none=>none
  |none=>none
def wV(a:X I):A Qo->A (A I)
 |none=>some none|some x=>match F8 a x with
  |some v=>some (some v)|none=>none
def rH:TypeDesc->Rl
 |.struct _=>true|.array _ _=>true
 |_=>false
def cC(T:Tb)(t:TypeId):A Nat:=match T.inf t with
 |some (n,_,_)=>some n|none=>none
def GV(T:Tb)(t:TypeId)(a:X I)(off:Nat):A I :=
 match T.G4 t with
 |none=>none|some d=>cond (rH d) (match cC T t with
   |some n=>some (.agg ((a.drop off).take n).toArray)|none=>none) (nth a off)
def lX:X RX->X RX->Rl
 |[],[]=>true|a::x,b::y=>cond (Nat.beq a.toNat b.toNat) (lX x y) false
 |_,_=>false
def lE:X RX->X RX->Rl
 |_,[]=>false|[],_::_=>true
 |a::x,b::y=>cond (blt a.toNat b.toNat) true (cond (Nat.beq a.toNat b.toNat) (lE x y) false)
def G8(T:Tb)(E:TypeId->I->I->A Rl)(c d:X I):X Field->A Rl
 |[]=>some true|f::e=>
  if f.name ≠ "_" then
   match GV T f.type c f.offset with
   |none=>none|some a=>match GV T f.type d f.offset with
    |none=>none|some b=>match E f.type a b with
     |none=>none|some false=>some false
     |some true=>G8 T E c d e
  else G8 T E c d e
def eqv(T:Tb):Nat->TypeId->I->I->A Rl
 |0,_,_,_=>none|d+1,t,x,y=>
  match T.G4 t with
  |some .bool=>match x,y with
   |.bool a,.bool b=>some (a==b)|_,_=>none
  |some (.int _)=>match x,y with
   |.int k a,.int e b=>if k=e then some (a==b)else none|_,_=>none
  |some .string=>match x,y with
   |.string a,.string b=>some (lX a.data.toList b.data.toList)|_,_=>none
  |some (.pointer _)=>match x,y with
   |.pointer none,.pointer none=>some true|.pointer none,.pointer (some _)=>some false
   |.pointer (some _),.pointer none=>some false|_,_=>none
  |some (.slice _)=>match x,y with
   |.slice none _ _,.slice none _ _=>some true|.slice none _ _,.slice (some _) _ _=>some false
   |.slice (some _) _ _,.slice none _ _=>some false|.chan (some _),.slice none _ _=>some false
   |_,_=>none
  |some (.map _ _)=>match x,y with
   |.map none,.map none=>some true|.map none,.map (some _)=>some false
   |.map (some _),.map none=>some false|_,_=>none
  |some (.struct c)=>match x,y with
   |.agg f,.agg g=>cond (T.eqs t) (G8 T (eqv T d) f.toList g.toList c.toList) none|_,_=>none
  |_=>none
def lD(op:BinOp)(k:IntKind)(a:Int)(c:IntKind)(b:Int):A I :=
 match op with
 |.shl=>if b<0 then none else some (.int k<|k.wrap<|a*2^(min b.toNat k.bits))|.shr=>if b<0 then none else some (.int k<|a.fdiv<|2^(min b.toNat k.bits))
 |_=>
  if k≠c then none else
  match op with
  |.add=>some (.int k<|k.wrap<|a+b)|.sub=>some (.int k<|k.wrap<|a-b)
  |.mul=>some (.int k<|k.wrap<|a*b)|.quo=>if b=0 then none else some (.int k<|k.wrap<|a.tdiv b)
  |.rem=>if b=0 then none else some (.int k<|a.tmod b)|.and=>some (.int k<|k.wrap (BitVec.ofInt k.bits a&&&BitVec.ofInt k.bits b).toNat)
  |.or=>some (.int k<|k.wrap (BitVec.ofInt k.bits a|||BitVec.ofInt k.bits b).toNat)|.xor=>some (.int k<|k.wrap (BitVec.ofInt k.bits a^^^BitVec.ofInt k.bits b).toNat)
  |.andNot=>some (.int k<|k.wrap (BitVec.ofInt k.bits a &&& ~~~ BitVec.ofInt k.bits b).toNat)|.eql=>some (.bool<|a==b)
  |.neq=>some (.bool<|a != b)|.lss=>some (.bool<|decide (a<b))
  |.leq=>some (.bool<|decide (a<=b))|.gtr=>some (.bool<|decide (a>b))
  |.geq=>some (.bool<|decide (a>=b))|_=>none
def IL(op:BinOp)(x y:ByteArray):A I :=
 let a:=x.data.toList
 let b:=y.data.toList
 match op with
 |.add=>if((a.length+b.length:Nat):Int)>9223372036854775807 then none else some (.string ⟨(a++b).toArray⟩)|.eql=>some (.bool<|lX a b)
 |.neq=>some (.bool<|!lX a b)|.lss=>some (.bool<|lE a b)
 |.leq=>some (.bool<|lE a b||lX a b)|.gtr=>some (.bool<|!(lE a b||lX a b))
 |.geq=>some (.bool<|!lE a b)|_=>none
def HC{a b:Type}:A a->A b->A Rl
 |none,none=>some true|some _,some _=>none
 |_,_=>some false
def SD(T:Tb)(t:TypeId)(x y:I):A Rl:=match T.G4 t,x,y with
 |some .bool,.bool a,.bool b=>some (a==b)|some (.pointer _),.pointer a,.pointer b=>HC a b
 |some (.map _ _),.map a,.map b=>HC a b|some (.slice _),.slice a _ _,.slice b _ _=>HC a b
 |some (.slice _),.chan<|some _,.slice none _ _=>some false|_,_,_=>none
def u6(T:Tb)(op:BinOp)(t:TypeId)(x y:I):A I :=
 match x,y with
 |.int k a,.int c b=>lD op k a c b|.string a,.string b=>IL op a b
 |x,y=>match SD T t x y with
  |some b=>(match op with
   |.eql=>some (.bool b)|.neq=>some (.bool<|!b)
   |_=>none)
  |none=>none
def T5:UnOp->I->A I
 |.neg,.int k n=>some (.int k<|k.wrap<|0-n)|.not,.bool b=>some (.bool<|!b)
 |.xor,.int k n=>some (.int k<|k.wrap (BitVec.ofInt k.bits (if k.signed then -1 else k.max)^^^BitVec.ofInt k.bits n).toNat)|_,_=>none
def P6(T:Tb)(src a:TypeId)(x:I):A I :=
 match T.G4 src,T.G4 a,x with
 |some _,some<|.int k,.int _ n=>some (.int k<|k.wrap n)|some _,some .string,.string s=>some (.string s)
 |_,_,_=>none
def F1(place:Nat->A (Nat×Nat))(cells:X I):X (Nat×I)->A (X I)
 |[]=>some cells|(i,v)::a=>match place i with
  |none=>none|some (off,size)=>cond (Nat.beq v.cells.toList.length size) (match AQ cells off v.cells.toList with
   |some c=>F1 place c a|none=>none) none
def ND(T:Tb)(a:X Field)(i:Nat):A (Nat×Nat):=
 match nth a i with
 |none=>none|some f=>match cC T f.type with
  |none=>none|some n=>some (f.offset,n)
def J6(T:Tb):X Field->Rl
 |[]=>true|f::a=>match cC T f.type with
  |some _=>J6 T a|none=>false
def Sh(T:Tb)(t:TypeId)(c:X (Nat×I)):A I :=
 match T.inf t with
 |none=>none|some (_,_,z)=>match T.G4 t with
  |some (.struct b)=>cond (J6 T b.toList) (match F1 (ND T b.toList) z.cells.toList c with
   |some a=>some (.agg a.toArray)|none=>none) none
  |some (.array _ e)=>match cC T e with
   |none=>none|some n=>match F1 (fun i=>some (i*n,n)) z.cells.toList c with
    |some a=>some (.agg a.toArray)|none=>none
  |_=>none
def Tm(T:Tb)(st:TypeId)(x:I)(f:Nat):A I :=
 match T.G4 st with
 |some (.struct c)=>match nth c.toList f with
  |some b=>match x with
   |.pointer (some a)=>match cC T b.type with
    |some (_+1)=>some (.pointer<|some ⟨a.block,a.off+b.offset,none⟩)|_=>none
   |_=>none
  |none=>none
 |_=>none
def Sc(T:Tb)(st:TypeId)(x:I)(f:Nat):A I :=
 match T.G4 st with
 |some (.struct c)=>match nth c.toList f with
  |some a=>match x with
   |.agg b=>GV T a.type b.toList a.offset|_=>none
  |none=>none
 |_=>none
def tO(i:Int)(n:Nat):Rl:=match i with
 |.ofNat k=>blt k n|.negSucc _=>false
def Ti(T:Tb)(t:TypeId)(x ix:I):A I :=
 match ix with
 |.int _ i=>match T.G4 t,x with
  |some (.array n e),.pointer (some a)=>cond (tO i n) (match cC T e with
   |some b=>some (.pointer<|some ⟨a.block,a.off+i.toNat*b,none⟩)|none=>none) none
  |some (.slice e),.slice (some a) n _=>cond (tO i n) (match cC T e with
   |some b=>some (.pointer<|some ⟨a.block,a.off+i.toNat*b,none⟩)|none=>none) none
  |_,_=>none
 |_=>none
def Aq(T:Tb)(t:TypeId)(x ix:I):A I :=
 match ix with
 |.int _ i=>match T.G4 t,x with
  |some (.array n e),.agg a=>cond (tO i n) (match cC T e with
   |some c=>GV T e a.toList (i.toNat*c)|none=>none) none
  |some .string,.string s=>cond (tO i s.data.toList.length) (match nth s.data.toList i.toNat with
   |some b=>some (.int .u8 b.toNat)|none=>none) none
  |_,_=>none
 |_=>none
def Mk(x:I)(i:Nat):A I:=match x with
 |.tuple a=>nth a.toList i|_=>none
def JM(T:Tb)(t:TypeId)(x:I):A I :=
 match T.G4 t,x with
 |some .string,.string s=>some (.int .i64 s.data.toList.length)|some (.slice _),.slice _ n _=>some (.int .i64 n)
 |some (.slice _),.chan (some _)=>some (.int .i64 0)|some (.array n _),_=>some (.int .i64 n)
 |_,_=>none
def capX(T:Tb)(t:TypeId)(x:I):A I :=
 match T.G4 t,x with
 |some (.slice _),.slice none _ c=>some (.int .i64 c)|some (.slice _),.slice (some _) _ c=>cond (blt c cP) (some<|.int .i64 c) none
 |some (.slice _),.chan (some _)=>some (.int .i64 0)|_,_=>none
def Ah:I->I->A I
 |.int k x,.int _ y=>some (.int k<|if y>x then y else x)|_,_=>none
def TP:I->I->A I
 |.int k x,.int _ y=>some (.int k<|if y<x then y else x)|_,_=>none
def B0(f:I->I->A I):I->X I->A I
 |x,[]=>some x|x,y::l=>match f x y with
  |some z=>B0 f z l|none=>none
def y4(v:I)(y:Nat):A Nat:=match v with
 |.int _ i=>cond (tO i<|y+1) (some i.toNat) none|_=>none
def nQ(len cap:Nat)(b a:A I):A (Nat×Nat×Nat):=
 match (match a with |some v=>y4 v cap |none=>some len)with
 |none=>none|some h=>match (match b with |some v=>y4 v h |none=>some 0)with
  |none=>none|some l=>some (l,h,cap)
def ei(T:Tb)(e:TypeId)(a:A Addr)(n c:Nat)(d b:A I):A I:=match a with
 |none=>none|some a=>match n with
  |_+1=>none|0=>match nQ 0 0 d b with
   |some (0,0,0)=>(match cC T e with
    |some _=>some (.slice (some a) 0 c)|none=>none)
   |_=>none
def uZ(T:Tb)(t:TypeId)(x:I)(d b:A I):A I :=
 match T.G4 t,x with
 |some (.slice e),.slice a n c=>cond (blt c cP) (match nQ n c d b with
   |some (l,h,m)=>match cC T e with
    |some f=>some (.slice (cond (Nat.beq m l) a (match a with
      |some a=>some ⟨a.block,a.off+l*f,none⟩|none=>none)) (h-l)<|m-l)
    |none=>none
   |none=>none) (ei T e a n c d b)
 |some (.slice e),.chan (some r)=>match nQ 0 0 d b with
   |some _=>(match cC T e with
    |some _=>some (.chan<|some r)|none=>none)
   |none=>none
 |_,_=>none
def jR(T:Tb)(e:X I)(op:Op):A I :=
 match op with
 |.move x=>F8 e x|.assign x=>F8 e x
 |.pick c a b=>match F8 e c with
  |some (.bool true)=>F8 e a|some (.bool false)=>F8 e b
  |_=>none
 |.build t k=>match J3 e k.toList with
  |some o=>Sh T t o|none=>none
 |.nilCheck x=>match F8 e x with
  |some (.pointer<|some a)=>some (.pointer<|some a)|some (.func (.func f) a b)=>some (.func (.func f) a b)
  |_=>none
 |.binOp op t x y _=>match F8 e x,F8 e y with
  |some a,some b=>u6 T op t a b|_,_=>none
 |.unOp op _ x=>match F8 e x with
  |some a=>T5 op a|none=>none
 |.convert s d x=>match F8 e x with
  |some a=>P6 T s d a|none=>none
 |.makeFunc fn first cap=>match oS e first.toList,oS e cap.toList with
  |some a,some b=>some (.func fn a.toArray b.toArray)|_,_=>none
 |.slice t x j g none=>match F8 e x,wV e j,wV e g with
  |some a,some l,some h=>uZ T t a l h|_,_,_=>none
 |.fieldAddr t x f=>match F8 e x with
  |some a=>Tm T t a f|none=>none
 |.field t x f=>match F8 e x with
  |some a=>Sc T t a f|none=>none
 |.indexAddr t x i=>match F8 e x,F8 e i with
  |some a,some b=>Ti T t a b|_,_=>none
 |.index t x i=>match F8 e x,F8 e i with
  |some a,some b=>Aq T t a b|_,_=>none
 |.extract x i=>match F8 e x with
  |some a=>Mk a i|none=>none
 |.call c=>match c.callee with
  |.builtin .len=>match oS e c.args.toList,c.argTypes.toList with
   |some [x],t::_=>JM T t x|_,_=>none
  |.builtin .max=>match oS e c.args.toList with
   |some (x::l)=>B0 Ah x l|_=>none
  |.builtin .min=>match oS e c.args.toList with
   |some (x::l)=>B0 TP x l|_=>none
  |_=>none
 |_=>none
def wU(T:Tb)(a:TypeId)(k:I):X MapEntry->Nat->A (A<|Nat×I)
 |[],_=>some none|e::b,i=>match eqv T 50 a k e.key with
  |some true=>some (some (i,e.val))|some false=>wU T a k b (i+1)
  |none=>none
def Pq(T:Tb)(K:TypeId->I->Rl)(a:X I):X Field->Rl
 |[]=>true|f::b=>
  if f.name ≠ "_" then
   match GV T f.type a f.offset with
   |none=>false|some v=>cond (K f.type v) (Pq T K a b) false
  else Pq T K a b
def xW(T:Tb):Nat->TypeId->I->Rl
 |0,_,_=>false|d+1,t,v=>match T.G4 t with
  |some (.int _)=>true|some .string=>true
  |some .bool=>true|some (.struct b)=>match v with
   |.agg a=>Pq T (xW T d) a.toList b.toList|_=>false
  |_=>false
def ER(E:I->I->Rl):X I->X I->Rl
 |[],[]=>true|a::x,b::y=>cond (E a b) (ER E x y) false
 |_,_=>false
def GL:Nat->I->I->Rl
 |0,_,_=>false|d+1,x,y=>match x,y with
  |.int k a,.int c b=>cond (decide (k=c)) (decide (a=b)) false|.bool a,.bool b=>a==b
  |.string a,.string b=>lX a.data.toList b.data.toList|.agg a,.agg b=>ER (GL d) a.toList b.toList
  |_,_=>false
def eQ(s:S)(i:Nat):A Row:=match lk s.h i with
 |some (.inl (_,_,1))=>none|some (.inl (l,e,0))=>some (l,e,0)
 |some (.inl (l,e,n+2))=>some (l,e,n+2)|_=>none
def N7(s:S)(i a:Nat):A (X I):=match lk s.h i with
 |some (.inl (l,e,1))=>cond (Nat.beq e<|a+1) (some l) none|some (.inl (l,_,n+2))=>cond (Nat.beq n a) (some l) none
 |_=>none
def An(T:Tb)(s:S)(t:TypeId)(x:I)(g d:A I):A (Nat×Nat×Addr×Nat×Nat):=
 match T.G4 t,x with
 |some (.slice e),.slice (some a) n c=>cond (blt c cP) none (match cC T e with
  |none=>none|some b=>match N7 s a.block b with
   |some l=>cond (Nat.beq a.off<|cJ c*b) (cond (blt 0 b)
    (match nQ n ((l.length-a.off)/b) g d with
     |none=>none|some (f,h,_)=>cond (ble (a.off+h*b) l.length) (some (f,h,a,c,b)) none) none) none
   |none=>none)
 |_,_=>none
def N4(T:Tb)(s:S)(t:TypeId)(x:I)(e d:A I):A I:=match An T s t x e d with
 |some (0,h,a,c,_)=>some (.slice (some ⟨a.block,a.off,none⟩) h c)|some (b+1,h,a,c,f)=>cond (blt (b+1) h) (some<|.slice (some ⟨a.block,a.off+(b+1)*f,none⟩) (h-(b+1))<|c+(b+1)) none
 |none=>none
def qQ(T:Tb)(b:X I)(s:S)(op:Op):A I :=
 match op with
 |.load t x=>match F8 b x with
  |some (.pointer<|some a)=>match lk s.h a.block with
   |some (.inl (l,_,_))=>match T.G4 t with
    |none=>none|some d=>cond (rH d) (match cC T t with
      |some n=>match wK l a.off n with
       |some g=>some (.agg g.toArray)|none=>none
      |none=>none) (nth l a.off)
   |_=>none
  |_=>none
 |.slice t x o j none=>match F8 b x,wV b o,wV b j with
  |some a,some l,some h=>N4 T s t a l h|_,_,_=>none
 |.lookup t x k ok=>match T.G4 t,F8 b x,F8 b k with
  |some (.map e i),some<|.map r,some f=>cond (xW T 50 e f)
   (match (match r with
     |none=>some []|some r=>match lk s.h r with
      |some (.inr (c,_))=>some c|_=>none)with
    |none=>none|some c=>match wU T e f c 0 with
     |none=>none|some (some (_,v))=>some (cond ok (.tuple #[v,.bool true]) v)
     |some none=>match T.inf i with
      |some (_,_,z)=>some (cond ok (.tuple #[z,.bool false]) z)|none=>none) none
  |_,_,_=>none
 |_=>none
def newRow(s:S)(l:X I)(e:TypeId)(a:Nat):S:=⟨(s.nx,.inl (l,e,a))::s.h,s.nx+1⟩
def cY(z:X I):Nat->X I
 |0=>[]|n+1=>z++cY z n
def xD:X I->Rl
 |[]=>true|v::l=>cond v.oneCell' (xD l) false
def xA(s:S)(b:A Addr)(n:Nat):A (X I):=match n with
 |0=>some []|n+1=>match b with
  |none=>none|some a=>match lk s.h a.block with
   |some (.inl (l,_,_))=>wK l a.off (n+1)|_=>none
def DI(a b:Nat):Rl:=cond (ble (a*b) 140737488355328) (ble a 140737488355328) false
def Ku(s:S)(e:TypeId)(b d:Nat)(z:I)(base:A Addr)(n c k:Nat)(new:X I):A (I×S):=
 cond (blt c cP)
  (match n,c with
   |0,0=>cond (DI (0+k) d) (cond (Nat.beq z.cells.toList.length b)
     (some (.slice (some ⟨s.nx,0,none⟩) (0+k) cP,newRow s new e<|b+2)) none) none
   |_,_=>none)
  (match base with
   |none=>none|some a=>match eQ s a.block with
    |some (l,f,g)=>cond (Nat.beq g<|b+2) (cond (Nat.beq f e) (cond (Nat.beq a.off<|cJ c*b) (cond (DI (n+k) d) (cond (Nat.beq z.cells.toList.length b)
      (match wK l a.off (n*b)with
       |some p=>some (.slice (some ⟨s.nx,0,none⟩) (n+k) cP,⟨(s.nx,.inl (p++new,e,b+2))::rm s.h a.block,s.nx+1⟩)|none=>none) none) none) none) none) none
    |none=>none)
def B8(T:Tb)(s:S)(t i:TypeId)(g x:I):A (I×S):=
 match T.G4 t,T.G4 i,g,x with
 |some (.slice e),some<|.slice _,.slice base n c,.slice h k _=>match T.inf e with
  |some (b+1,d,z)=>match xA s h (k*(b+1))with
   |none=>none|some new=>cond (xD new)
    (match k with
     |0=>cond (blt c cP) (cond (ble n c) (some (.slice base n c,s)) none)
      (match base with
       |some a=>match eQ s a.block with
        |some (l,_,f)=>cond (Nat.beq f<|b+3) (cond (Nat.beq a.off<|cJ c*(b+1)) (match wK l a.off (n*(b+1))with
         |some _=>some (.slice base n c,s)|none=>none) none) none
        |none=>none
       |none=>none)
     |k+1=>Ku s e (b+1) d z base n c (k+1) new) none
  |_=>none
 |_,_,_,_=>none
def DW:I->Rl
 |.chan (some _)=>true|_=>false
def C9(x:I):I:=cond (DW x) (.slice none 0 0) x
def y6(T:Tb)(s:S)(t d:TypeId)(b x:I):A (I×S):=
 cond (DW b) (match B8 T s t d (.slice none 0 0) (C9 x)with
  |some (.slice none _ _,_)=>some (b,s)|some (.slice (some a) n c,e)=>some (.slice (some a) n c,e)
  |_=>none) (B8 T s t d b<|C9 x)
def m_(T:Tb)(s:S)(t d:TypeId)(c x:I):A (I×S):=
 match T.G4 t,T.G4 d,c,x with
 |some (.slice e),some<|.int _,.slice none 0 0,.int _ i=>match T.inf e with
  |some (b+1,a,z)=>match i64.wrap i with
   |.ofNat (k+1)=>cond (DI (k+1) a) (cond (Nat.beq z.cells.toList.length<|b+1) (cond (xD<|cY z.cells.toList<|k+1)
     (some (.slice (some ⟨s.nx,0,none⟩) (k+1) cP,newRow s (cY z.cells.toList<|k+1) e<|b+1+2)) none) none) none
   |_=>none
  |_=>none
 |_,_,_,_=>none
def Sz(T:Tb)(s:S)(t b:TypeId)(a x:I):A (I×S):=match y6 T s t b a x with
 |some r=>some r|none=>none
def Kx(T:Tb)(s:S)(t:TypeId)(p v:I):A (I×S):=
 match p with
 |.pointer (some a)=>match cC T t with
  |none=>none|some n=>cond (Nat.beq v.cells.toList.length n) (cond (xD v.cells.toList) (match eQ s a.block with
   |some (l,e,c)=>match AQ l a.off v.cells.toList with
    |some b=>some (undef,⟨up s.h a.block<|.inl (b,e,c),s.nx⟩)|none=>none
   |none=>none) none) none
 |_=>none
def Po(T:Tb)(s:S)(t:TypeId)(l c:I):A (I×S):=
 match T.G4 t,l,c with
 |some (.slice e),.int _ a,.int _ b=>match T.inf e with
  |some (f,d,z)=>match i64.wrap a,i64.wrap b with
   |.ofNat n,.ofNat k=>cond (ble n k) (cond (ble (d*k) 281474976710656) (cond (Nat.beq z.cells.toList.length f)
     (cond (blt k cP) (some (.slice (some ⟨s.nx,0,none⟩) n k,newRow s (cY z.cells.toList k) e 0)) none) none) none) none
   |_,_=>none
  |none=>none
 |_,_,_=>none
def Tt(T:Tb)(s:S)(t:TypeId)(n:Nat)(c:X (Nat×I)):A (I×S):=
 match T.G4 t with
 |some (.slice e)=>match T.inf e with
  |some (a,_,z)=>cond (ble (n*a) 16777216) (cond (Nat.beq z.cells.toList.length a) (match F1 (fun i=>some (i*a,a)) (cY z.cells.toList n) c with
   |some b=>cond (blt n cP) (some (.slice (some ⟨s.nx,0,none⟩) n n,newRow s b e 0)) none|none=>none) none) none
  |none=>none
 |_=>none
def Ky(T:Tb)(s:S)(t:TypeId)(x:I)(c a:A I):A (I×S):=match An T s t x c a with
 |some (b+1,h,_)=>cond (blt (b+1) h) none (some (.slice (some ⟨s.nx,0,none⟩) 0 cP,⟨s.h,s.nx+1⟩))|_=>none
def TW(s:S)(r:Nat):A (X MapEntry×Nat):=match lk s.h r with
 |some (.inr x)=>some x|_=>none
def Sa(s:S)(r:Nat)(b:X MapEntry)(a:Nat):S:=⟨up s.h r<|.inr (b,a),s.nx⟩
def Y3(a:X MapEntry)(i:Nat)(f:MapEntry->MapEntry):X MapEntry:=match a,i with
 |[],_=>[]|e::a,0=>f e::a
 |e::a,i+1=>e::Y3 a i f
def Ld(T:Tb)(s:S)(t:TypeId)(m k v:I):A (I×S):=
 match T.G4 t,m with
 |some (.map c _),.map (some r)=>cond (xW T 50 c k) (cond (plain k) (match TW s r with
  |none=>none|some (a,b)=>match wU T c k a 0 with
   |none=>none|some none=>some (undef,Sa s r (a++[{ key:=k,val:=v,born:=b }])<|b+1)
   |some (some (i,_))=>match nth a i with
    |none=>none|some e=>cond (GL 50 e.key k) (some (undef,Sa s r (Y3 a i fun e=>{ e with val:=v }) b)) none) none) none
 |_,_=>none
def AS(T:Tb)(d:X I)(s:S)(op:Op):A (I×S):=
 match op with
 |.alloc e=>match T.inf e with
  |some (_,_,z)=>some (.pointer<|some ⟨s.nx,0,none⟩,newRow s z.cells.toList e 0)|none=>none
 |.box e x=>match F8 d x with
  |some v=>some (.pointer<|some ⟨s.nx,0,none⟩,newRow s v.cells.toList e 0)|none=>none
 |.store t a x=>match F8 d a,F8 d x with
  |some p,some v=>Kx T s t p v|_,_=>none
 |.buildSlice t n i=>match J3 d i.toList with
  |some j=>Tt T s t n j|none=>none
 |.makeSlice t l c=>match F8 d l,F8 d c with
  |some a,some b=>Po T s t a b|_,_=>none
 |.makeMap _ none=>some (.map<|some s.nx,⟨(s.nx,.inr ([],0))::s.h,s.nx+1⟩)|.slice t x g f none=>match F8 d x,wV d g,wV d f with
  |some a,some l,some h=>Ky T s t a l h|_,_,_=>none
 |.mapUpdate t m k x=>match F8 d m,F8 d k,F8 d x with
  |some a,some b,some v=>Ld T s t a b v|_,_,_=>none
 |.call c=>match c.callee with
  |.builtin .append=>match oS d c.args.toList,c.argTypes.toList with
   |some [a,b],[t,o]=>Sz T s t o a b|_,_=>none
  |_=>none
 |_=>none
def dd(T:Tb)(a:X I)(op:Op):A (FuncId×X I):=
 match op with
 |.call c=>match c.callee with
  |.value f=>match F8 a f with
   |some (.func (.func g) first cap)=>match T.fn g with
    |some fn=>cond fn.body.isSome (match oS a c.args.toList with
     |some args=>some (g,first.toList++args++cap.toList)|none=>none) none
    |none=>none
   |_=>none
  |_=>none
 |_=>none
abbrev GY:=FuncId->X I->S->A (I×S)
def BD(T:Tb)(call:GY)(a:X I)(s:S)(op:Op):A (I×S):=
 match jR T a op with
 |some v=>some (v,s)|none=>match qQ T a s op with
  |some v=>some (v,s)|none=>match AS T a s op with
   |some r=>some r|none=>match dd T a op with
    |some (f,args)=>call f args s|none=>none
def CC(a:X Oper)(j:Nat):A Tmp:=match nth a j with
 |some o=>o.dst|none=>none
def So(c:X Oper)(e:X I)(o:Oper):Rl :=
 match o.guard with
 |none=>true|some (j,a)=>match CC c j with
  |none=>false|some d=>match nth e d with
   |some (.bool b)=>b==a|_=>false
def DD(a:X I)(d:A Tmp)(v:I):X I:=match d with
 |none=>a|some d=>a.set d v
def vr(a b:Addr):Rl:=match a.spot,b.spot with
 |none,none=>cond (Nat.beq a.block b.block) (Nat.beq a.off b.off) false|_,_=>false
def VB:A Addr->A Addr->Rl
 |none,none=>true|some a,some b=>vr a b
 |_,_=>false
def v14:A Nat->A Nat->Rl
 |none,none=>true|some a,some b=>Nat.beq a b
 |_,_=>false
def xh:Fn->Fn->Rl
 |.func f,.func g=>Nat.beq f g|_,_=>false
mutual
def T1:I->I->Rl
 |.bool a,y=>match y with
  |.bool b=>a==b|_=>false
 |.int k a,y=>match y with
  |.int h b=>cond (decide (k=h)) (decide (a=b)) false|_=>false
 |.string a,y=>match y with
  |.string b=>lX a.data.toList b.data.toList|_=>false
 |.pointer p,y=>match y with
  |.pointer q=>VB p q|_=>false
 |.slice p n c,y=>match y with
  |.slice q i e=>cond (VB p q) (cond (Nat.beq n i) (Nat.beq c e) false) false|_=>false
 |.map p,y=>match y with
  |.map q=>v14 p q|_=>false
 |.nilFunc,y=>match y with
  |.nilFunc=>true|_=>false
 |.nilIface,y=>match y with
  |.nilIface=>true|_=>false
 |.func f ⟨a⟩ ⟨b⟩,y=>match y with
  |.func g ⟨c⟩ ⟨d⟩=>cond (xh f g) (cond (Rv a c) (Rv b d) false) false|_=>false
 |.agg ⟨a⟩,y=>match y with
  |.agg ⟨b⟩=>Rv a b|_=>false
 |.tuple ⟨a⟩,y=>match y with
  |.tuple ⟨b⟩=>Rv a b|_=>false
 |_,_=>false
def Rv:X I->X I->Rl
 |[],y=>match y with
  |[]=>true|_=>false
 |a::x,y=>match y with
  |b::y=>cond (T1 a b) (Rv x y) false|_=>false
end
abbrev Rec:=X I×Oper×I×Nat×S×S
def L?(T:Tb)(call:GY)(b:X Oper)(a:X I)(s:S)(o:Oper):A (I×Nat×S):=
 cond (So b a o)
  (match jR T a o.op with
   |some v=>some (v,0,s)|none=>match qQ T a s o.op with
    |some v=>some (v,1,s)|none=>match BD T call a s o.op with
     |some (v,c)=>some (v,2,c)|none=>none)
  (some (undef,0,s))
def z98(T:Tb)(call:GY)(d:X Oper):X Oper->X I->S->A (X Rec×X I×S)
 |[],a,s=>some ([],a,s)|o::r,a,s=>match L? T call d a s o with
  |none=>none|some (v,k,e)=>match z98 T call d r (DD a o.dst v) e with
   |none=>none|some (l,c,b)=>some ((a,o,v,k,s,e)::l,c,b)
def P5(a:X Nat):X Edge->Nat
 |[]=>0|e::r=>cond (Region.binds .any e) ((2^e.on|||(match nth a e.on with
  |some x=>x|none=>0))|||P5 a r) (P5 a r)
def dU:X Oper->X Nat->X Nat
 |[],a=>a|o::r,a=>dU r (a++[P5 a o.after.toList])
def FJ(i:Nat):X Edge->Rl
 |[]=>true|e::r=>cond (Region.binds .any e) (cond (blt e.on i) (FJ i r) false) (FJ i r)
def tmpsOf:X Qo->X Tmp
 |[]=>[]|.tmp t::r=>t::tmpsOf r
 |_::r=>tmpsOf r
def P9(a:X Oper)(o:Oper):X Tmp:=match o.guard with
 |none=>tmpsOf o.op.operands.toList|some (j,_)=>match CC a j with
  |none=>tmpsOf o.op.operands.toList|some d=>d::tmpsOf o.op.operands.toList
def V_(lk:X Tmp)(b:A Tmp)(i e k mk:Nat)(c:A Tmp):Rl:=match c with
 |none=>true|some d=>cond (Nat.beq i k) true (cond (match b with |none=>false |some a=>Nat.beq d a) false
   (cond (lk.any<|Nat.beq d) (cond (testBit e k) true<|testBit mk i) true))
def fo(lk:X Tmp)(a:A Tmp)(i b:Nat):X Oper->X Nat->Nat->Rl
 |o::r,mk::c,k=>cond (V_ lk a i b k mk o.dst) (fo lk a i b r c<|k+1) false|[],_,_=>true
 |_::_,[],_=>false
def Rt(a:X Oper)(b:X Nat):X Oper->X Nat->Nat->Rl
 |o::r,c::d,i=>cond (FJ i o.after.toList) (cond (fo (P9 a o) o.dst i c a b 0) (Rt a b r d<|i+1) false) false|[],_,_=>true
 |_::_,[],_=>false
def qww(T:Tb)(a:X I)(op:Op)(v:I)(s:S):Rl:=match qQ T a s op with
 |some u=>T1 u v|none=>false
def z94(T:Tb)(a:X I)(op:Op)(v:I)(i b:Nat):X Rec->X Nat->Nat->Rl
 |(_,_,_,kd,s,d)::r,mk::c,k=>cond (Nat.beq kd 2)
   (cond (blt k i) (cond (testBit b k) true<|qww T a op v s)<|cond (testBit mk i) true<|qww T a op v d)
   true&&z94 T a op v i b r c (k+1)
 |[],_,_=>true|_::_,[],_=>false
def z7n(i a:Nat):X Rec->Nat->Rl
 |(_,_,_,kd,_,_)::r,k=>cond (blt k i) (cond (Nat.beq kd 2) (testBit a k) true) true&&z7n i a r (k+1)|[],_=>true
def z92(T:Tb)(a:X Rec)(c:X Nat):X Rec->X Nat->Nat->Rl
 |(e,o,v,kd,_,_)::r,b::d,i=>cond (Nat.beq kd 0) true (cond (Nat.beq kd 1) (z94 T e o.op v i b a c 0)<|z7n i b a 0)&&z92 T a c r d (i+1)|[],_,_=>true
 |_::_,[],_=>false
def Bq(a:X Oper):Rl:=Rt a (dU a []) a (dU a []) 0
def GO(T:Tb)(b:X I)(s:S):X ResultVar->A (X I)
 |[]=>some []|.tmp t::r=>match nth b t with
  |some v=>match GO T b s r with
   |some l=>some (v::l)|none=>none
  |none=>none
 |.cell a t::r=>match qQ T b s (.load t<|.tmp a)with
  |some v=>match GO T b s r with
   |some l=>some (v::l)|none=>none
  |none=>none
def wO:X I->I
 |[v]=>v|l=>.tuple l.toArray
def pad:Nat->X I->X I
 |0,l=>l|n+1,[]=>undef::pad n []
 |n+1,v::l=>v::pad n l
def EU(P:Ib)(eqs:X TypeId):Tb where
 G4 t:=match nth P.types.toList t with
  |none=>none|some i=>match i.desc with
   |.named _ u=>match nth P.types.toList u with
    |some j=>some j.desc|none=>none
   |d=>some d
 inf t:=match nth P.types.toList t with
  |none=>none|some i=>match i.zero with
   |some z=>cond (plain z) (some (i.size,i.bytes,z)) none|none=>none
 fn f:=nth P.funcs.toList f
 eqs t:=eqs.any (Nat.beq t)
end Go.Rx
