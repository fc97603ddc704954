import Derived.Calls
import Derived.Orders
import Derived.Below
import Derived.Laws.CopyRow
import Derived.KernelRfl
import Derived.Test.YtmflfedkfdkipaaGreatP1
set_option linter.all false
open List Go.IntKind
open Nat hiding beq_eq
namespace Go.Rx
open Go
structure Nm where
 I5:Nat->Nat
 sh:Nat->Nat
 cp:Nat->Nat
def dC:Nat:=18446744073709551616
def dA(c:Nat):Nat:=c-dC
def dV(m:Nm)(i c:Nat):Nat:=if c<dC then c else m.cp i-dA c
mutual
def H3(m:Nm):Value->Value
 |.pointer (some a)=>.pointer (some ⟨m.I5 a.block,m.sh a.block+a.off,none⟩)|.slice (some a) n c=>.slice (some ⟨m.I5 a.block,m.sh a.block+a.off,none⟩) n (dV m a.block c)
 |.map (some r)=>.map (some<|m.I5 r)|.func fn first cap=>.func fn (wG m first) (wG m cap)
 |.iface t v=>.iface t (H3 m v)|.agg d=>.agg (wG m d)
 |.tuple d=>.tuple (wG m d)|.bool b=>.bool b
 |.int k n=>.int k n|.float k n=>.float k n
 |.complex k a b=>.complex k a b|.string s=>.string s
 |.pointer none=>.pointer none|.slice none n c=>.slice none n c
 |.map none=>.map none|.chan (some r)=>.slice (some ⟨m.I5 r,m.sh r,some<|m.cp r⟩) 0 0
 |.chan none=>.chan none|.nilFunc=>.nilFunc
 |.nilIface=>.nilIface
def wG(m:Nm):Jg Value->Jg Value
 |⟨l⟩=>⟨aL m l⟩
def aL(m:Nm):X Value->X Value
 |[]=>[]|v::l=>H3 m v::aL m l
end
def nE(m:Nm)(l:X Value):aL m l=l.map (H3 m):=by induction l with|nil=>simp[aL]|cons v l a=>simp[aL,a]
def zd5(m:Nm)(a:Jg Value):wG m a=a.map (H3 m):=by cases a;simp[wG,nE]
@[simp] def nB(m:Nm)(l:X Value):wG m ⟨l⟩=⟨aL m l⟩:=by simp[wG]
@[simp] def A6(m:Nm)(l:X Value):(aL m l).length=l.length:=by simp[nE]
@[simp] def v14(m:Nm)(a:Jg Value):(wG m a).size=a.size:=by simp[zd5]
@[simp] def mP(m:Nm)(a:Jg Value):(wG m a).toList=aL m a.toList:=by cases a;simp
def JS(m:Nm)(a b:X Value):aL m (a++b)=aL m a++aL m b:=by simp[nE]
def qvi(m:Nm)(v:Value):(H3 m v).oneCell'=v.oneCell':=by
 cases v with
 |pointer a=>cases a<;>rfl|slice a n c=>cases a<;>rfl
 |map r=>cases r<;>rfl|chan r=>cases r<;>rfl
 |_=>rfl
def ae(m:Nm)(v:Value):(H3 m v).cells=wG m v.cells:=by
 cases v with
 |pointer a=>cases a<;>simp[H3,Value.cells,aL]|slice a n c=>cases a<;>simp[H3,Value.cells,aL]
 |map r=>cases r<;>simp[H3,Value.cells,aL]|chan r=>cases r<;>simp[H3,Value.cells,aL]
 |_=>simp[H3,Value.cells,aL]
abbrev Row:=X Value×TypeId×Nat
abbrev nT:=Row ⊕ (X MapEntry×Nat)
abbrev Hp:=X (Nat×nT)
def lk:Hp->Nat->V nT
 |[],_=>none|(j,b)::h,i=>cond (Nat.beq j i) (some b) (lk h i)
def up:Hp->Nat->nT->Hp
 |[],_,_=>[]|(j,b)::h,i,c=>cond (Nat.beq j i) ((j,c)::h) ((j,b)::up h i c)
def rm:Hp->Nat->Hp
 |[],_=>[]|(j,b)::h,i=>cond (Nat.beq j i) (rm h i) ((j,b)::rm h i)
def beq_eq(j i:Nat):Nat.beq j i=decide (j=i):=by rw[vg];simp[Jd]
def nU(j:Nat)(b:nT)(h:Hp)(i:Nat):lk ((j,b)::h) i=if j=i then some b else lk h i:=by simp only[lk,beq_eq];by_cases e:j=i<;>simp[e]
def FO(h:Hp)(i:Nat)(c:nT)(j:Nat):lk (up h i c) j=if i=j then(lk h i).map (fun _=>c)else lk h j:=by induction h with|nil=>simp[up,lk]|cons x h f=>obtain⟨k,b⟩:=x;simp only[up,beq_eq];by_cases e:k=i;subst e;simp only[yC,zC,nU];by_cases a:k=j<;>simp[a];simp only[e,yB,zD,nU,f];by_cases a:i=j;subst a;simp[e];by_cases d:k=j<;>simp[a,d]
def Lo(h:Hp)(i j:Nat):lk (rm h i) j=if i=j then none else lk h j:=by induction h with|nil=>simp[rm,lk]|cons x h c=>obtain⟨k,b⟩:=x;simp only[rm,beq_eq];by_cases e:k=i;subst e;simp only[yC,zC,nU,c];by_cases a:k=j<;>simp[a];simp only[e,yB,zD,nU,c];by_cases a:i=j;subst a;simp[e];by_cases d:k=j<;>simp[a,d]
structure S where
 h:Hp
 nx:Nat
def BM(m:Nm)(e:MapEntry):MapEntry:={ key:=H3 m e.key,val:=H3 m e.val,born:=e.born }
def BR(m:Nm)(i:Nat)(l:X Value)(e:TypeId)(w:Ep):Nat->Prop
 |0=>m.sh i=0/\w.heap[m.I5 i]? = some (.cells (aL m l).toArray e (0,0))|1=>∃c b fr,w.heap[m.I5 i]? = some (.cells c b fr)/\(∀k v,l[k]? = some v->c[m.sh i+k]? = some (H3 m v))/\∀n,e=n+1->l.length<=m.cp i*n
 |n+2=>∃pre a,w.heap[m.I5 i]? = some (.cells (pre++aL m l++a).toArray e (0,0))/\pre.length=m.sh i/\l.length+a.length=m.cp i*n
def xU(m:Nm)(i:Nat)(w:Ep):nT->Prop
 |.inl (l,e,b)=>BR m i l e w b|.inr (a,clock)=>w.heap[m.I5 i]? = some (.map (a.map<|BM m).toArray clock)
def gQ:nT->FK
 |.inl (_,_,1)=>false|_=>true
structure Fits(m:Nm)(s:S)(w:Ep):Prop where
 ok:∀i b,lk s.h i=some b->xU m i w b
 inj:∀i j b c,lk s.h i=some b->lk s.h j=some c->i≠j->gQ b=true->m.I5 i≠m.I5 j
 bd:∀i b,lk s.h i=some b->i<s.nx
def aP(n:Nat)(m a:Nm):Prop:=∀i,i<n->a.I5 i=m.I5 i/\a.sh i=m.sh i/\a.cp i=m.cp i
def aP.refl(n:Nat)(m:Nm):aP n m m:=fun _ _=>⟨rfl,rfl,rfl⟩
def aP.trans{n k:Nat}{a b c:Nm}(h:aP n a b)(h':aP k b c)(m:n<=k):aP n a c:=fun i l=>by
 obtain⟨d,e,a3⟩:=h i l;obtain⟨f,g,j⟩:=h' i af;exact⟨f.trans d,g.trans e,j.trans a3⟩
variable{n:Nat}
def aP.mono{k:Nat}{a b:Nm}(h:aP n a b)(d:k<=n):aP k a b:=fun i c=>h i af
def gZ(m:Nm)(s:S)(w:Ep):Prop:=∀a,aP s.nx m a->Fits a s w
def jU(m:Nm)(n:Nat)(v b:Value):Prop:=∀a,aP n m a->H3 a v=b
def oU(m:Nm)(n:Nat)(v b:X Value):Prop:=∀a,aP n m a->aL a v=b
variable{m:Nm}{s:S}{w:Ep}
def gZ.fits(h:gZ m s w):Fits m s w:=h m (aP.refl _ _)
def jU.at{v a:Value}(h:jU m n v a):H3 m v=a:=h m (aP.refl _ _)
def oU.at{v a:X Value}(h:oU m n v a):aL m v=a:=h m (aP.refl _ _)
def jU.ext{b:Nm}{c:Nat}{v a:Value}(h:jU m n v a)(d:aP n m b)(f:n<=c):jU b c v a :=
 fun k e=>h k (d.trans e f)
def oU.ext{b:Nm}{c:Nat}{v a:X Value}(h:oU m n v a)(d:aP n m b)(f:n<=c):oU b c v a :=
 fun k e=>h k (d.trans e f)
def TN(m:Nm)(s:S)(b:Nat):Prop:=∃i c,lk s.h i=some c/\gQ c=true/\m.I5 i=b
structure bS(m:Nm)(s:S)(w:Ep)(aO:Nm)(bX:S)(w₁:Ep):Prop where
 agree:aP s.nx m aO
 nx:s.nx<=bX.nx
 fits:gZ aO bX w₁
 own:∀b,TN aO bX b->TN m s b\/w.heap.size<=b
 same:∀b,b<w.heap.size->¬ TN m s b->w₁.heap[b]? = w.heap[b]?
 size:w.heap.size<=w₁.heap.size
 os:w₁.os=w.os
 tape:w₁.tape=w.tape
 output:w₁.output=w.output
def bS.refl{m:Nm}{s:S}{w:Ep}(h:gZ m s w):bS m s w m s w :=
 ⟨aP.refl _ _,zF _,h,fun _ h=>.inl h,fun _ _ _=>rfl,zF _,rfl,rfl,rfl⟩
def bS.trans{m e g:Nm}{s f i:S}{w a o:Ep}(h:bS m s w e f a)(k:bS e f a g i o):bS m s w g i o:=by
 refine⟨h.agree.trans k.agree h.nx,Zt h.nx k.nx,k.fits,fun b d=>?_,fun b d l=>?_,Zt h.size k.size,k.os.trans h.os,k.tape.trans h.tape,k.output.trans h.output⟩;obtain c |c:=k.own b d;exact h.own b c;exact .inr<|Zt h.size c;have c:¬ TN e f b:=fun p=>by obtain j |j:=h.own b p;exact l j;omega
 rw[k.same b (YR d h.size) c,h.same b d l]
def bS.below{c:Nm}{d:S}{a:Ep}(h:bS m s w c d a)(f:∀b,¬ TN m s b):RowKit.Below w.heap.size w a :=
 ⟨h.os,h.tape,h.output,h.size,fun k e=>h.same k e<|f k⟩
def Fits.size{m:Nm}{s:S}{w:Ep}(h:Fits m s w){i:Nat}{b:nT}(a:lk s.h i=some b):m.I5 i<w.heap.size:=by have:=h.ok i b a;obtain c |hg:=Zd (m.I5 i) w.heap.size;exact c;exfalso;obtain⟨l,e,d⟩|⟨f,clock⟩:=b;obtain _ |_ |n:=d;simp[xU,BR,Ew hg]at this;simp[xU,BR,Ew hg]at this;simp[xU,BR,Ew hg]at this;simp[xU,Ew hg]at this
def qkk(n:Nat)(h:gZ m s w):gZ m s { w with drawn:=n }:=fun j f=>by
 obtain⟨a,c,d⟩:=h j f;refine⟨fun i b g=>?_,c,d⟩;have:=a i b g;obtain⟨l,e,k⟩|⟨o,clock⟩:=b;obtain _ |_ |n:=k<;>exact this;exact this
def bS.draw(n:Nat)(h:gZ m s w):bS m s w m s { w with drawn:=n }:=
 ⟨aP.refl _ _,zF _,qkk n h,fun _ h=>.inl h,fun _ _ _=>rfl,zF _,rfl,rfl,rfl⟩
def Nm.set(m:Nm)(i b sh cp:Nat):Nm :=
 { I5:=fun j=>if j=i then b else m.I5 j,sh:=fun j=>if j=i then sh else m.sh j,cp:=fun j=>if j=i then cp else m.cp j }
def Nm.K1(m:Nm)(i b c a:Nat):aP i m (m.set i b c a):=fun j d=>by
 simp[Nm.set,show j≠i by omega]
def xU.world{i:Nat}{c:Ep}{b:nT}(h:xU m i w b)(a:c.heap[m.I5 i]? = w.heap[m.I5 i]?):xU m i c b:=by obtain⟨l,e,d⟩|⟨f,clock⟩:=b;obtain _ |_ |n:=d<;>(simp only[xU,BR]at*;rw[a];exact h);simp only[xU]at*;rw[a];exact h
def bS.alloc{m:Nm}{s:S}{w:Ep}(h:gZ m s w)(o:Obj)(b:nT)(p:Nat)
  (r:∀f,aP (s.nx+1) (m.set s.nx w.heap.size 0 p) f->xU f s.nx (w.alloc o) b):
  bS m s w (m.set s.nx w.heap.size 0 p) ⟨(s.nx,b)::s.h,s.nx+1⟩ (w.alloc o):=by
 have x:∀k,k<w.heap.size->(w.alloc o).heap[k]? = w.heap[k]?:=fun k z=>RowKit.Below.heap_alloc w o k z;refine⟨Nm.K1 m _ _ _ _,MD _,?_,?_,fun b r _=>x b r,by simp,rfl,rfl,rfl⟩;intro f q;have A:aP s.nx m f:=(Nm.K1 m s.nx w.heap.size 0 p).trans q (MD _);have g:=h f A;have B:f.I5 s.nx=w.heap.size:=by have:=(q s.nx<|zN _).1;simpa[Nm.set]using this
 refine⟨fun i c a=>?_,fun i j c d a l v t=>?_,fun i c a=>?_⟩;simp only[nU]at a;by_cases e:s.nx=i;subst e;simp only[It,zA]at a;subst a;exact r f q;simp only[e,MF]at a;exact(g.ok i c a).world (x _<|g.size a);simp only[nU]at a l;by_cases e:s.nx=i;subst e;have y:s.nx≠j:=v;simp only[y,MF]at l;have:=g.size l;omega;simp only[e,MF]at a;by_cases u:s.nx=j;subst u;have:=g.size a;omega;simp only[u,MF]at l;exact g.inj i j c d a l v t;simp only[nU]at a;by_cases e:s.nx=i;subst e;exact zN _;simp only[e,MF]at a;exact Ze<|g.bd i c a;rintro b ⟨i,c,a,t,rfl⟩;simp only[nU]at a;by_cases e:s.nx=i;subst e;right;simp[Nm.set];simp only[e,MF]at a;left;refine⟨i,c,a,t,?_⟩;have:=h.fits.bd i c a;simp[Nm.set,show i≠s.nx by omega]
def bS.write{f:Ep}(h:gZ m s w){i:Nat}{b c:nT}(g:lk s.h i=some b)(p:gQ b=true)
  (u:∀k,k≠m.I5 i->f.heap[k]? = w.heap[k]?) (J:f.heap.size=w.heap.size) (C:f.os=w.os) (D:f.tape=w.tape) (E:f.output=w.output) (_h4:w.drawn<=f.drawn) (F:∀o,aP s.nx m o->xU o i f c):
  bS m s w m ⟨up s.h i c,s.nx⟩ f:=by
 refine⟨aP.refl _ _,zF _,?_,?_,?_,by omega,C,D,E⟩;intro o r;have l:=h o r;have v:o.I5 i=m.I5 i:=(r i<|l.bd i b g).1;refine⟨fun j d a=>?_,fun j k d e a G z t=>?_,fun j d a=>?_⟩;simp only[FO]at a;by_cases e:i=j;subst e;simp only[It,g,zM,zA]at a;subst a;exact F o r;simp only[e,MF]at a;refine(l.ok j d a).world (u _ ?_);rw[<-v];exact fun x=>l.inj i j b d g a e p x.symm;have key:∀j d,lk (up s.h i c) j=some d->∃q,lk s.h j=some q/\(gQ d=true->gQ q=true):=fun j d a=>by simp only[FO]at a;by_cases e:i=j;subst e;exact⟨b,g,fun _=>p⟩;simp only[e,MF]at a;exact⟨d,a,id⟩
 obtain⟨q,A,I⟩:=key j d a;obtain⟨B,y,_⟩:=key k e G;exact l.inj j k q B A y z<|I t;simp only[FO]at a;by_cases e:i=j;subst e;exact l.bd i b g;simp only[e,MF]at a;exact l.bd j d a;rintro k ⟨j,d,a,t,rfl⟩;left;simp only[FO]at a;by_cases e:i=j;subst e;exact⟨i,b,g,p,rfl⟩;simp only[e,MF]at a;exact⟨j,d,a,t,rfl⟩;intro k K H;exact u k fun e=>H ⟨i,b,g,p,e.symm⟩
def bS.forget(h:gZ m s w)(i:Nat):bS m s w m ⟨rm s.h i,s.nx⟩ w:=by
 have key:∀j d,lk (rm s.h i) j=some d->lk s.h j=some d:=fun j d a=>by simp only[Lo]at a;by_cases e:i=j;simp[e]at a;simpa[e]using a
 refine⟨aP.refl _ _,zF _,fun l c=>?_,?_,fun _ _ _=>rfl,zF _,rfl,rfl,rfl⟩;have b:=h l c;exact⟨fun j d a=>b.ok j d<|key j d a,fun j k d e a f=>b.inj j k d e (key j d a)<|key k e f,fun j d a=>b.bd j d<|key j d a⟩;rintro k ⟨j,d,a,g,rfl⟩;exact .inl ⟨j,d,key j d a,g,rfl⟩
structure Tb where
 I1:TypeId->V TypeDesc
 inf:TypeId->V (Nat×Nat×Value)
 fn:FuncId->V Func
 eqs:TypeId->FK
mutual
def plain:Value->FK
 |.bool _=>true|.int _ _=>true
 |.string _=>true|.pointer none=>true
 |.slice none _ _=>true|.map none=>true
 |.nilFunc=>true|.nilIface=>true
 |.agg ⟨l⟩=>UQ l|.tuple ⟨l⟩=>UQ l
 |_=>false
def UQ:X Value->FK
 |[]=>true|v::l=>cond (plain v) (UQ l) false
end
def nth{b:Type}:X b->Nat->V b
 |[],_=>none|a::_,0=>some a
 |_::l,n+1=>nth l n
def JB:X Value->Nat->V (X Value)
 |_,0=>some []|[],_+1=>none
 |v::l,n+1=>match JB l n with
  |some r=>some (v::r)|none=>none
def xM(l:X Value)(off n:Nat):V (X Value):=JB (l.drop off) n
def H5:X Value->X Value->V (X Value)
 |l,[]=>some l|[],_::_=>none
 |_::l,v::a=>match H5 l a with
  |some r=>some (v::r)|none=>none
def BN:X Value->Nat->X Value->V (X Value)
 |l,0,a=>H5 l a|[],_+1,_=>none
 |x::l,n+1,a=>match BN l n a with
  |some r=>some (x::r)|none=>none
def F8(a:X Value):He->V Value
 |.tmp t=>nth a t|.const v=>cond (plain v) (some v) none
 |.func f=>some (.func (.func f) #[] #[])|.global _=>none
def qI(a:X Value):X He->V (X Value)
 |[]=>some []|x::l=>match F8 a x with
  |some v=>match qI a l with
   |some r=>some (v::r)|none=>none
  |none=>none
def JF(a:X Value):X (Nat×He)->V (X<|Nat×Value)
 |[]=>some []|(i,x)::l=>match F8 a x with
  |some v=>match JF a l with
   |some r=>some ((i,v)::r)|none=>none
  |none=>none
def xT(a:X Value):V He->V (V Value)
 |none=>some none|some x=>match F8 a x with
  |some v=>some (some v)|none=>none
def sG:TypeDesc->FK
 |.struct _=>true|.array _ _=>true
 |_=>false
def cP(T:Tb)(t:TypeId):V Nat:=match T.inf t with
 |some (n,_,_)=>some n|none=>none
def PZ(T:Tb)(t:TypeId)(a:X Value)(off:Nat):V Value :=
 match T.I1 t with
 |none=>none|some d=>cond (sG d) (match cP T t with
   |some n=>some (.agg ((a.drop off).take n).toArray)|none=>none) (nth a off)
def mR:X Yv->X Yv->FK
 |[],[]=>true|a::x,b::y=>cond (Nat.beq a.toNat b.toNat) (mR x y) false
 |_,_=>false
def lP:X Yv->X Yv->FK
 |_,[]=>false|[],_::_=>true
 |a::x,b::y=>cond (blt a.toNat b.toNat) true (cond (Nat.beq a.toNat b.toNat) (lP x y) false)
def Jf(T:Tb)(E:TypeId->Value->Value->V FK)(c d:X Value):X Field->V FK
 |[]=>some true|f::e=>
  if f.name ≠ "_" then
   match PZ T f.type c f.offset with
   |none=>none|some a=>match PZ T f.type d f.offset with
    |none=>none|some b=>match E f.type a b with
     |none=>none|some false=>some false
     |some true=>Jf T E c d e
  else Jf T E c d e
def eqv(T:Tb):Nat->TypeId->Value->Value->V FK
 |0,_,_,_=>none|d+1,t,x,y=>
  match T.I1 t with
  |some .bool=>match x,y with
   |.bool a,.bool b=>some (a==b)|_,_=>none
  |some (.int _)=>match x,y with
   |.int k a,.int e b=>if k=e then some (a==b)else none|_,_=>none
  |some .string=>match x,y with
   |.string a,.string b=>some (mR a.data.toList b.data.toList)|_,_=>none
  |some (.pointer _)=>match x,y with
   |.pointer none,.pointer none=>some true|.pointer none,.pointer (some _)=>some false
   |.pointer (some _),.pointer none=>some false|_,_=>none
  |some (.slice _)=>match x,y with
   |.slice none _ _,.slice none _ _=>some true|.slice none _ _,.slice (some _) _ _=>some false
   |.slice (some _) _ _,.slice none _ _=>some false|.chan (some _),.slice none _ _=>some false
   |_,_=>none
  |some (.map _ _)=>match x,y with
   |.map none,.map none=>some true|.map none,.map (some _)=>some false
   |.map (some _),.map none=>some false|_,_=>none
  |some (.struct c)=>match x,y with
   |.agg f,.agg g=>cond (T.eqs t) (Jf T (eqv T d) f.toList g.toList c.toList) none|_,_=>none
  |_=>none
def lI(op:BinOp)(k:IntKind)(a:Int)(c:IntKind)(b:Int):V Value :=
 match op with
 |.shl=>if b<0 then none else some (.int k<|k.wrap<|a*2^(min b.toNat k.bits))|.shr=>if b<0 then none else some (.int k<|a.fdiv<|2^(min b.toNat k.bits))
 |_=>
  if k≠c then none else
  match op with
  |.add=>some (.int k<|k.wrap<|a+b)|.sub=>some (.int k<|k.wrap<|a-b)
  |.mul=>some (.int k<|k.wrap<|a*b)|.quo=>if b=0 then none else some (.int k<|k.wrap<|a.tdiv b)
  |.rem=>if b=0 then none else some (.int k<|a.tmod b)|.and=>some (.int k<|k.wrap (BitVec.ofInt k.bits a&&&BitVec.ofInt k.bits b).toNat)
  |.or=>some (.int k<|k.wrap (BitVec.ofInt k.bits a|||BitVec.ofInt k.bits b).toNat)|.xor=>some (.int k<|k.wrap (BitVec.ofInt k.bits a^^^BitVec.ofInt k.bits b).toNat)
  |.andNot=>some (.int k<|k.wrap (BitVec.ofInt k.bits a &&& ~~~ BitVec.ofInt k.bits b).toNat)|.eql=>some (.bool<|a==b)
  |.neq=>some (.bool<|a != b)|.lss=>some (.bool<|decide (a<b))
  |.leq=>some (.bool<|decide (a<=b))|.gtr=>some (.bool<|decide (a>b))
  |.geq=>some (.bool<|decide (a>=b))|_=>none
def J4(op:BinOp)(x y:ByteArray):V Value :=
 let a:=x.data.toList
 let b:=y.data.toList
 match op with
 |.add=>if((a.length+b.length:Nat):Int)>9223372036854775807 then none else some (.string ⟨(a++b).toArray⟩)|.eql=>some (.bool<|mR a b)
 |.neq=>some (.bool<|!mR a b)|.lss=>some (.bool<|lP a b)
 |.leq=>some (.bool<|lP a b||mR a b)|.gtr=>some (.bool<|!(lP a b||mR a b))
 |.geq=>some (.bool<|!lP a b)|_=>none
def HX{a b:Type}:V a->V b->V FK
 |none,none=>some true|some _,some _=>none
 |_,_=>some false
def OV(T:Tb)(t:TypeId)(x y:Value):V FK:=match T.I1 t,x,y with
 |some .bool,.bool a,.bool b=>some (a==b)|some (.pointer _),.pointer a,.pointer b=>HX a b
 |some (.map _ _),.map a,.map b=>HX a b|some (.slice _),.slice a _ _,.slice b _ _=>HX a b
 |some (.slice _),.chan<|some _,.slice none _ _=>some false|_,_,_=>none
def tA(T:Tb)(op:BinOp)(t:TypeId)(x y:Value):V Value :=
 match x,y with
 |.int k a,.int c b=>lI op k a c b|.string a,.string b=>J4 op a b
 |x,y=>match OV T t x y with
  |some b=>(match op with
   |.eql=>some (.bool b)|.neq=>some (.bool<|!b)
   |_=>none)
  |none=>none
def TX:UnOp->Value->V Value
 |.neg,.int k n=>some (.int k<|k.wrap<|0-n)|.not,.bool b=>some (.bool<|!b)
 |.xor,.int k n=>some (.int k<|k.wrap (BitVec.ofInt k.bits (if k.signed then -1 else k.max)^^^BitVec.ofInt k.bits n).toNat)|_,_=>none
def Q1(T:Tb)(src a:TypeId)(x:Value):V Value :=
 match T.I1 src,T.I1 a,x with
 |some _,some<|.int k,.int _ n=>some (.int k<|k.wrap n)|some _,some .string,.string s=>some (.string s)
 |_,_,_=>none
def FQ(place:Nat->V (Nat×Nat))(cells:X Value):X (Nat×Value)->V (X Value)
 |[]=>some cells|(i,v)::a=>match place i with
  |none=>none|some (off,size)=>cond (Nat.beq v.cells.toList.length size) (match BN cells off v.cells.toList with
   |some c=>FQ place c a|none=>none) none
def O1(T:Tb)(a:X Field)(i:Nat):V (Nat×Nat):=
 match nth a i with
 |none=>none|some f=>match cP T f.type with
  |none=>none|some n=>some (f.offset,n)
def JI(T:Tb):X Field->FK
 |[]=>true|f::a=>match cP T f.type with
  |some _=>JI T a|none=>false
def Ul(T:Tb)(t:TypeId)(c:X (Nat×Value)):V Value :=
 match T.inf t with
 |none=>none|some (_,_,z)=>match T.I1 t with
  |some (.struct b)=>cond (JI T b.toList) (match FQ (O1 T b.toList) z.cells.toList c with
   |some a=>some (.agg a.toArray)|none=>none) none
  |some (.array _ e)=>match cP T e with
   |none=>none|some n=>match FQ (fun i=>some (i*n,n)) z.cells.toList c with
    |some a=>some (.agg a.toArray)|none=>none
  |_=>none
def Vh(T:Tb)(st:TypeId)(x:Value)(f:Nat):V Value :=
 match T.I1 st with
 |some (.struct c)=>match nth c.toList f with
  |some b=>match x with
   |.pointer (some a)=>match cP T b.type with
    |some (_+1)=>some (.pointer<|some ⟨a.block,a.off+b.offset,none⟩)|_=>none
   |_=>none
  |none=>none
 |_=>none
def Uh(T:Tb)(st:TypeId)(x:Value)(f:Nat):V Value :=
 match T.I1 st with
 |some (.struct c)=>match nth c.toList f with
  |some a=>match x with
   |.agg b=>PZ T a.type b.toList a.offset|_=>none
  |none=>none
 |_=>none
def uH(i:Int)(n:Nat):FK:=match i with
 |.ofNat k=>blt k n|.negSucc _=>false
def Vd(T:Tb)(t:TypeId)(x ix:Value):V Value :=
 match ix with
 |.int _ i=>match T.I1 t,x with
  |some (.array n e),.pointer (some a)=>cond (uH i n) (match cP T e with
   |some b=>some (.pointer<|some ⟨a.block,a.off+i.toNat*b,none⟩)|none=>none) none
  |some (.slice e),.slice (some a) n _=>cond (uH i n) (match cP T e with
   |some b=>some (.pointer<|some ⟨a.block,a.off+i.toNat*b,none⟩)|none=>none) none
  |_,_=>none
 |_=>none
def Bs(T:Tb)(t:TypeId)(x ix:Value):V Value :=
 match ix with
 |.int _ i=>match T.I1 t,x with
  |some (.array n e),.agg a=>cond (uH i n) (match cP T e with
   |some c=>PZ T e a.toList (i.toNat*c)|none=>none) none
  |some .string,.string s=>cond (uH i s.data.toList.length) (match nth s.data.toList i.toNat with
   |some b=>some (.int .u8 b.toNat)|none=>none) none
  |_,_=>none
 |_=>none
def Nf(x:Value)(i:Nat):V Value:=match x with
 |.tuple a=>nth a.toList i|_=>none
def K0(T:Tb)(t:TypeId)(x:Value):V Value :=
 match T.I1 t,x with
 |some .string,.string s=>some (.int .i64 s.data.toList.length)|some (.slice _),.slice _ n _=>some (.int .i64 n)
 |some (.slice _),.chan (some _)=>some (.int .i64 0)|some (.array n _),_=>some (.int .i64 n)
 |_,_=>none
def capX(T:Tb)(t:TypeId)(x:Value):V Value :=
 match T.I1 t,x with
 |some (.slice _),.slice none _ c=>some (.int .i64 c)|some (.slice _),.slice (some _) _ c=>cond (blt c dC) (some<|.int .i64 c) none
 |some (.slice _),.chan (some _)=>some (.int .i64 0)|_,_=>none
def UL:Value->Value->V Value
 |.int k x,.int _ y=>some (.int k<|if y>x then y else x)|_,_=>none
def UK:Value->Value->V Value
 |.int k x,.int _ y=>some (.int k<|if y<x then y else x)|_,_=>none
def yZ(f:Value->Value->V Value):Value->X Value->V Value
 |x,[]=>some x|x,y::l=>match f x y with
  |some z=>yZ f z l|none=>none
def zR(v:Value)(y:Nat):V Nat:=match v with
 |.int _ i=>cond (uH i<|y+1) (some i.toNat) none|_=>none
def o9(len cap:Nat)(lo a:V Value):V (Nat×Nat×Nat):=
 match (match a with |some v=>zR v cap |none=>some len)with
 |none=>none|some h=>match (match lo with |some v=>zR v h |none=>some 0)with
  |none=>none|some l=>some (l,h,cap)
def ej(T:Tb)(e:TypeId)(a:V Addr)(n c:Nat)(lo b:V Value):V Value:=match a with
 |none=>none|some a=>match n with
  |_+1=>none|0=>match o9 0 0 lo b with
   |some (0,0,0)=>(match cP T e with
    |some _=>some (.slice (some a) 0 c)|none=>none)
   |_=>none
def vO(T:Tb)(t:TypeId)(x:Value)(lo b:V Value):V Value :=
 match T.I1 t,x with
 |some (.slice e),.slice a n c=>cond (blt c dC) (match o9 n c lo b with
   |some (l,h,m)=>match cP T e with
    |some d=>some (.slice (cond (Nat.beq m l) a (match a with
      |some a=>some ⟨a.block,a.off+l*d,none⟩|none=>none)) (h-l)<|m-l)
    |none=>none
   |none=>none) (ej T e a n c lo b)
 |some (.slice e),.chan (some r)=>match o9 0 0 lo b with
   |some _=>(match cP T e with
    |some _=>some (.chan<|some r)|none=>none)
   |none=>none
 |_,_=>none
def kP(T:Tb)(e:X Value)(op:Op):V Value :=
 match op with
 |.move x=>F8 e x|.assign x=>F8 e x
 |.pick c a b=>match F8 e c with
  |some (.bool true)=>F8 e a|some (.bool false)=>F8 e b
  |_=>none
 |.build t j=>match JF e j.toList with
  |some k=>Ul T t k|none=>none
 |.nilCheck x=>match F8 e x with
  |some (.pointer<|some a)=>some (.pointer<|some a)|some (.func (.func f) a b)=>some (.func (.func f) a b)
  |_=>none
 |.binOp op t x y _=>match F8 e x,F8 e y with
  |some a,some b=>tA T op t a b|_,_=>none
 |.unOp op _ x=>match F8 e x with
  |some a=>TX op a|none=>none
 |.convert s d x=>match F8 e x with
  |some a=>Q1 T s d a|none=>none
 |.makeFunc fn first cap=>match qI e first.toList,qI e cap.toList with
  |some a,some b=>some (.func fn a.toArray b.toArray)|_,_=>none
 |.slice t x lo g none=>match F8 e x,xT e lo,xT e g with
  |some a,some l,some h=>vO T t a l h|_,_,_=>none
 |.fieldAddr t x f=>match F8 e x with
  |some a=>Vh T t a f|none=>none
 |.field t x f=>match F8 e x with
  |some a=>Uh T t a f|none=>none
 |.indexAddr t x i=>match F8 e x,F8 e i with
  |some a,some b=>Vd T t a b|_,_=>none
 |.index t x i=>match F8 e x,F8 e i with
  |some a,some b=>Bs T t a b|_,_=>none
 |.extract x i=>match F8 e x with
  |some a=>Nf a i|none=>none
 |.call c=>match c.callee with
  |.builtin .len=>match qI e c.args.toList,c.argTypes.toList with
   |some [x],t::_=>K0 T t x|_,_=>none
  |.builtin .max=>match qI e c.args.toList with
   |some (x::l)=>yZ UL x l|_=>none
  |.builtin .min=>match qI e c.args.toList with
   |some (x::l)=>yZ UK x l|_=>none
  |_=>none
 |_=>none
def G?(T:Tb)(K:TypeId->Value->FK)(a:X Value):X Field->FK
 |[]=>true|f::b=>
  if f.name ≠ "_" then
   match PZ T f.type a f.offset with
   |none=>false|some v=>cond (K f.type v) (G? T K a b) false
  else G? T K a b
def qf(T:Tb):Nat->TypeId->Value->FK
 |0,_,_=>false|d+1,t,v=>match T.I1 t with
  |some (.int _)=>true|some .string=>true
  |some .bool=>true|some (.struct b)=>match v with
   |.agg a=>G? T (qf T d) a.toList b.toList|_=>false
  |_=>false
def Sa(E:Value->Value->FK):X Value->X Value->FK
 |[],[]=>true|a::x,b::y=>cond (E a b) (Sa E x y) false
 |_,_=>false
def veq:Nat->Value->Value->FK
 |0,_,_=>false|d+1,x,y=>match x,y with
  |.int k a,.int c b=>cond (decide (k=c)) (decide (a=b)) false|.bool a,.bool b=>a==b
  |.string a,.string b=>mR a.data.toList b.data.toList|.agg a,.agg b=>Sa (veq d) a.toList b.toList
  |_,_=>false
def fC(s:S)(i:Nat):V Row:=match lk s.h i with
 |some (.inl (_,_,1))=>none|some (.inl (l,e,0))=>some (l,e,0)
 |some (.inl (l,e,n+2))=>some (l,e,n+2)|_=>none
def NS(s:S)(i a:Nat):V (X Value):=match lk s.h i with
 |some (.inl (l,e,1))=>cond (Nat.beq e<|a+1) (some l) none|some (.inl (l,_,n+2))=>cond (Nat.beq n a) (some l) none
 |_=>none
def Bo(T:Tb)(s:S)(t:TypeId)(x:Value)(lo d:V Value):V (Nat×Nat×Addr×Nat×Nat):=
 match T.I1 t,x with
 |some (.slice e),.slice (some a) n c=>cond (blt c dC) none (match cP T e with
  |none=>none|some b=>match NS s a.block b with
   |some l=>cond (Nat.beq a.off<|dA c*b) (cond (blt 0 b)
    (match o9 n ((l.length-a.off)/b) lo d with
     |none=>none|some (f,h,_)=>cond (ble (a.off+h*b) l.length) (some (f,h,a,c,b)) none) none) none
   |none=>none)
 |_,_=>none
def NO(T:Tb)(s:S)(t:TypeId)(x:Value)(lo d:V Value):V Value:=match Bo T s t x lo d with
 |some (0,h,a,c,_)=>some (.slice (some ⟨a.block,a.off,none⟩) h c)|some (b+1,h,a,c,e)=>cond (blt (b+1) h) (some<|.slice (some ⟨a.block,a.off+(b+1)*e,none⟩) (h-(b+1))<|c+(b+1)) none
 |none=>none
def xS(T:Tb)(b:X Value)(s:S)(op:Op):V Value :=
 match op with
 |.load t x=>match F8 b x with
  |some (.pointer<|some a)=>match lk s.h a.block with
   |some (.inl (l,_,_))=>match T.I1 t with
    |none=>none|some d=>cond (sG d) (match cP T t with
      |some n=>match xM l a.off n with
       |some c=>some (.agg c.toArray)|none=>none
      |none=>none) (nth l a.off)
   |_=>none
  |_=>none
 |.slice t x lo e none=>match F8 b x,xT b lo,xT b e with
  |some a,some l,some h=>NO T s t a l h|_,_,_=>none
 |_=>none
def newRow(s:S)(l:X Value)(e:TypeId)(a:Nat):S:=⟨(s.nx,.inl (l,e,a))::s.h,s.nx+1⟩
def dK(z:X Value):Nat->X Value
 |0=>[]|n+1=>z++dK z n
def xY:X Value->FK
 |[]=>true|v::l=>cond v.oneCell' (xY l) false
def xW(s:S)(b:V Addr)(n:Nat):V (X Value):=match n with
 |0=>some []|n+1=>match b with
  |none=>none|some a=>match lk s.h a.block with
   |some (.inl (l,_,_))=>xM l a.off (n+1)|_=>none
def EA(a b:Nat):FK:=cond (ble (a*b) 140737488355328) (ble a 140737488355328) false
def Lp(s:S)(e:TypeId)(b d:Nat)(z:Value)(base:V Addr)(n c k:Nat)(new:X Value):V (Value×S):=
 cond (blt c dC)
  (match n,c with
   |0,0=>cond (EA (0+k) d) (cond (Nat.beq z.cells.toList.length b)
     (some (.slice (some ⟨s.nx,0,none⟩) (0+k) dC,newRow s new e<|b+2)) none) none
   |_,_=>none)
  (match base with
   |none=>none|some a=>match fC s a.block with
    |some (l,f,g)=>cond (Nat.beq g<|b+2) (cond (Nat.beq f e) (cond (Nat.beq a.off<|dA c*b) (cond (EA (n+k) d) (cond (Nat.beq z.cells.toList.length b)
      (match xM l a.off (n*b)with
       |some p=>some (.slice (some ⟨s.nx,0,none⟩) (n+k) dC,⟨(s.nx,.inl (p++new,e,b+2))::rm s.h a.block,s.nx+1⟩)|none=>none) none) none) none) none) none
    |none=>none)
def BY(T:Tb)(s:S)(t i:TypeId)(g x:Value):V (Value×S):=
 match T.I1 t,T.I1 i,g,x with
 |some (.slice e),some<|.slice _,.slice base n c,.slice h k _=>match T.inf e with
  |some (b+1,d,z)=>match xW s h (k*(b+1))with
   |none=>none|some new=>cond (xY new)
    (match k with
     |0=>cond (blt c dC) (cond (ble n c) (some (.slice base n c,s)) none)
      (match base with
       |some a=>match fC s a.block with
        |some (l,_,f)=>cond (Nat.beq f<|b+3) (cond (Nat.beq a.off<|dA c*(b+1)) (match xM l a.off (n*(b+1))with
         |some _=>some (.slice base n c,s)|none=>none) none) none
        |none=>none
       |none=>none)
     |k+1=>Lp s e (b+1) d z base n c (k+1) new) none
  |_=>none
 |_,_,_,_=>none
def EK:Value->FK
 |.chan (some _)=>true|_=>false
def CY(x:Value):Value:=cond (EK x) (.slice none 0 0) x
def A5(T:Tb)(s:S)(t d:TypeId)(b x:Value):V (Value×S):=
 cond (EK b) (match BY T s t d (.slice none 0 0) (CY x)with
  |some (.slice none _ _,_)=>some (b,s)|some (.slice (some a) n c,e)=>some (.slice (some a) n c,e)
  |_=>none) (BY T s t d b<|CY x)
def l?(T:Tb)(s:S)(t d:TypeId)(c x:Value):V (Value×S):=
 match T.I1 t,T.I1 d,c,x with
 |some (.slice e),some<|.int _,.slice none 0 0,.int _ i=>match T.inf e with
  |some (b+1,a,z)=>match i64.wrap i with
   |.ofNat (k+1)=>cond (EA (k+1) a) (cond (Nat.beq z.cells.toList.length<|b+1) (cond (xY<|dK z.cells.toList<|k+1)
     (some (.slice (some ⟨s.nx,0,none⟩) (k+1) dC,newRow s (dK z.cells.toList<|k+1) e<|b+1+2)) none) none) none
   |_=>none
  |_=>none
 |_,_,_,_=>none
def Uv(T:Tb)(s:S)(t b:TypeId)(a x:Value):V (Value×S):=match A5 T s t b a x with
 |some r=>some r|none=>none
def Ls(T:Tb)(s:S)(t:TypeId)(p v:Value):V (Value×S):=
 match p with
 |.pointer (some a)=>match cP T t with
  |none=>none|some n=>cond (Nat.beq v.cells.toList.length n) (cond (xY v.cells.toList) (match fC s a.block with
   |some (l,e,c)=>match BN l a.off v.cells.toList with
    |some b=>some (undef,⟨up s.h a.block<|.inl (b,e,c),s.nx⟩)|none=>none
   |none=>none) none) none
 |_=>none
def Rp(T:Tb)(s:S)(t:TypeId)(l c:Value):V (Value×S):=
 match T.I1 t,l,c with
 |some (.slice e),.int _ a,.int _ b=>match T.inf e with
  |some (f,d,z)=>match i64.wrap a,i64.wrap b with
   |.ofNat n,.ofNat k=>cond (ble n k) (cond (ble (d*k) 281474976710656) (cond (Nat.beq z.cells.toList.length f)
     (cond (blt k dC) (some (.slice (some ⟨s.nx,0,none⟩) n k,newRow s (dK z.cells.toList k) e 0)) none) none) none) none
   |_,_=>none
  |none=>none
 |_,_,_=>none
def Vm(T:Tb)(s:S)(t:TypeId)(n:Nat)(c:X (Nat×Value)):V (Value×S):=
 match T.I1 t with
 |some (.slice e)=>match T.inf e with
  |some (a,_,z)=>cond (ble (n*a) 16777216) (cond (Nat.beq z.cells.toList.length a) (match FQ (fun i=>some (i*a,a)) (dK z.cells.toList n) c with
   |some b=>cond (blt n dC) (some (.slice (some ⟨s.nx,0,none⟩) n n,newRow s b e 0)) none|none=>none) none) none
  |none=>none
 |_=>none
def Lt(T:Tb)(s:S)(t:TypeId)(x:Value)(lo a:V Value):V (Value×S):=match Bo T s t x lo a with
 |some (b+1,h,_)=>cond (blt (b+1) h) none (some (.slice (some ⟨s.nx,0,none⟩) 0 dC,⟨s.h,s.nx+1⟩))|_=>none
def Lv(s:S)(r:Nat):V (X MapEntry×Nat):=match lk s.h r with
 |some (.inr x)=>some x|_=>none
def z37(s:S)(r:Nat)(b:X MapEntry)(a:Nat):S:=⟨up s.h r<|.inr (b,a),s.nx⟩
def CQ(T:Tb)(d:X Value)(s:S)(op:Op):V (Value×S):=
 match op with
 |.alloc e=>match T.inf e with
  |some (_,_,z)=>some (.pointer<|some ⟨s.nx,0,none⟩,newRow s z.cells.toList e 0)|none=>none
 |.box e x=>match F8 d x with
  |some v=>some (.pointer<|some ⟨s.nx,0,none⟩,newRow s v.cells.toList e 0)|none=>none
 |.store t a x=>match F8 d a,F8 d x with
  |some p,some v=>Ls T s t p v|_,_=>none
 |.buildSlice t n g=>match JF d g.toList with
  |some i=>Vm T s t n i|none=>none
 |.makeSlice t l c=>match F8 d l,F8 d c with
  |some a,some b=>Rp T s t a b|_,_=>none
 |.makeMap _ none=>some (.map<|some s.nx,⟨(s.nx,.inr ([],0))::s.h,s.nx+1⟩)|.slice t x lo f none=>match F8 d x,xT d lo,xT d f with
  |some a,some l,some h=>Lt T s t a l h|_,_,_=>none
 |.call c=>match c.callee with
  |.builtin .append=>match qI d c.args.toList,c.argTypes.toList with
   |some [a,b],[t,j]=>Uv T s t j a b|_,_=>none
  |_=>none
 |_=>none
def di(T:Tb)(a:X Value)(op:Op):V (FuncId×X Value):=
 match op with
 |.call c=>match c.callee with
  |.value f=>match F8 a f with
   |some (.func (.func g) first cap)=>match T.fn g with
    |some fn=>cond fn.body.isSome (match qI a c.args.toList with
     |some args=>some (g,first.toList++args++cap.toList)|none=>none) none
    |none=>none
   |_=>none
  |_=>none
 |_=>none
abbrev HN:=FuncId->X Value->S->V (Value×S)
def C1(T:Tb)(call:HN)(a:X Value)(s:S)(op:Op):V (Value×S):=
 match kP T a op with
 |some v=>some (v,s)|none=>match xS T a s op with
  |some v=>some (v,s)|none=>match CQ T a s op with
   |some r=>some r|none=>match di T a op with
    |some (f,args)=>call f args s|none=>none
def CZ(a:X Oper)(j:Nat):V Tmp:=match nth a j with
 |some o=>o.dst|none=>none
def Un(c:X Oper)(e:X Value)(o:Oper):FK :=
 match o.guard with
 |none=>true|some (j,a)=>match CZ c j with
  |none=>false|some d=>match nth e d with
   |some (.bool b)=>b==a|_=>false
def E7(a:X Value)(d:V Tmp)(v:Value):X Value:=match d with
 |none=>a|some d=>a.set d v
def mq(a b:Addr):FK:=match a.spot,b.spot with
 |none,none=>cond (Nat.beq a.block b.block) (Nat.beq a.off b.off) false|_,_=>false
def W3:V Addr->V Addr->FK
 |none,none=>true|some a,some b=>mq a b
 |_,_=>false
def v15:V Nat->V Nat->FK
 |none,none=>true|some a,some b=>Nat.beq a b
 |_,_=>false
def kl:Fn->Fn->FK
 |.func f,.func g=>Nat.beq f g|_,_=>false
mutual
def TV:Value->Value->FK
 |.bool a,y=>match y with
  |.bool b=>a==b|_=>false
 |.int k a,y=>match y with
  |.int h b=>cond (decide (k=h)) (decide (a=b)) false|_=>false
 |.string a,y=>match y with
  |.string b=>mR a.data.toList b.data.toList|_=>false
 |.pointer p,y=>match y with
  |.pointer q=>W3 p q|_=>false
 |.slice p n c,y=>match y with
  |.slice q i e=>cond (W3 p q) (cond (Nat.beq n i) (Nat.beq c e) false) false|_=>false
 |.map p,y=>match y with
  |.map q=>v15 p q|_=>false
 |.nilFunc,y=>match y with
  |.nilFunc=>true|_=>false
 |.nilIface,y=>match y with
  |.nilIface=>true|_=>false
 |.func f ⟨a⟩ ⟨b⟩,y=>match y with
  |.func g ⟨c⟩ ⟨d⟩=>cond (kl f g) (cond (Ud a c) (Ud b d) false) false|_=>false
 |.agg ⟨a⟩,y=>match y with
  |.agg ⟨b⟩=>Ud a b|_=>false
 |.tuple ⟨a⟩,y=>match y with
  |.tuple ⟨b⟩=>Ud a b|_=>false
 |_,_=>false
def Ud:X Value->X Value->FK
 |[],y=>match y with
  |[]=>true|_=>false
 |a::x,y=>match y with
  |b::y=>cond (TV a b) (Ud x y) false|_=>false
end
abbrev Rec:=X Value×Oper×Value×Nat×S×S
def recX(T:Tb)(call:HN)(b:X Oper)(a:X Value)(s:S)(o:Oper):V (Value×Nat×S):=
 cond (Un b a o)
  (match kP T a o.op with
   |some v=>some (v,0,s)|none=>match xS T a s o.op with
    |some v=>some (v,1,s)|none=>match C1 T call a s o.op with
     |some (v,c)=>some (v,2,c)|none=>none)
  (some (undef,0,s))
def zbd(T:Tb)(call:HN)(d:X Oper):X Oper->X Value->S->V (X Rec×X Value×S)
 |[],a,s=>some ([],a,s)|o::r,a,s=>match recX T call d a s o with
  |none=>none|some (v,k,e)=>match zbd T call d r (E7 a o.dst v) e with
   |none=>none|some (l,c,b)=>some ((a,o,v,k,s,e)::l,c,b)
def Q0(a:X Nat):X Edge->Nat
 |[]=>0|e::r=>cond (Region.binds .any e) ((2^e.on|||(match nth a e.on with
  |some x=>x|none=>0))|||Q0 a r) (Q0 a r)
def eH:X Oper->X Nat->X Nat
 |[],a=>a|o::r,a=>eH r (a++[Q0 a o.after.toList])
def G5(i:Nat):X Edge->FK
 |[]=>true|e::r=>cond (Region.binds .any e) (cond (blt e.on i) (G5 i r) false) (G5 i r)
def tmpsOf:X He->X Tmp
 |[]=>[]|.tmp t::r=>t::tmpsOf r
 |_::r=>tmpsOf r
def Q3(a:X Oper)(o:Oper):X Tmp:=match o.guard with
 |none=>tmpsOf o.op.operands.toList|some (j,_)=>match CZ a j with
  |none=>tmpsOf o.op.operands.toList|some d=>d::tmpsOf o.op.operands.toList
def S?(lk:X Tmp)(b:V Tmp)(i e k mk:Nat)(c:V Tmp):FK:=match c with
 |none=>true|some d=>cond (Nat.beq i k) true (cond (match b with |none=>false |some a=>Nat.beq d a) false
   (cond (lk.any<|Nat.beq d) (cond (testBit e k) true<|testBit mk i) true))
def eQ(lk:X Tmp)(a:V Tmp)(i b:Nat):X Oper->X Nat->Nat->FK
 |o::r,mk::c,k=>cond (S? lk a i b k mk o.dst) (eQ lk a i b r c<|k+1) false|[],_,_=>true
 |_::_,[],_=>false
def Rs(a:X Oper)(b:X Nat):X Oper->X Nat->Nat->FK
 |o::r,c::d,i=>cond (G5 i o.after.toList) (cond (eQ (Q3 a o) o.dst i c a b 0) (Rs a b r d<|i+1) false) false|[],_,_=>true
 |_::_,[],_=>false
def qyo(T:Tb)(a:X Value)(op:Op)(v:Value)(s:S):FK:=match xS T a s op with
 |some u=>TV u v|none=>false
def zb8(T:Tb)(a:X Value)(op:Op)(v:Value)(i b:Nat):X Rec->X Nat->Nat->FK
 |(_,_,_,kd,s,d)::r,mk::c,k=>cond (Nat.beq kd 2)
   (cond (blt k i) (cond (testBit b k) true<|qyo T a op v s)<|cond (testBit mk i) true<|qyo T a op v d)
   true&&zb8 T a op v i b r c (k+1)
 |[],_,_=>true|_::_,[],_=>false
def z9l(i a:Nat):X Rec->Nat->FK
 |(_,_,_,kd,_,_)::r,k=>cond (blt k i) (cond (Nat.beq kd 2) (testBit a k) true) true&&z9l i a r (k+1)|[],_=>true
def zb5(T:Tb)(a:X Rec)(c:X Nat):X Rec->X Nat->Nat->FK
 |(e,o,v,kd,_,_)::r,b::d,i=>cond (Nat.beq kd 0) true (cond (Nat.beq kd 1) (zb8 T e o.op v i b a c 0)<|z9l i b a 0)&&zb5 T a c r d (i+1)|[],_,_=>true
 |_::_,[],_=>false
def Co(a:X Oper):FK:=Rs a (eH a []) a (eH a []) 0
def H4(T:Tb)(b:X Value)(s:S):X ResultVar->V (X Value)
 |[]=>some []|.tmp t::r=>match nth b t with
  |some v=>match H4 T b s r with
   |some l=>some (v::l)|none=>none
  |none=>none
 |.cell a t::r=>match xS T b s (.load t<|.tmp a)with
  |some v=>match H4 T b s r with
   |some l=>some (v::l)|none=>none
  |none=>none
def H8:X Value->Value
 |[v]=>v|l=>.tuple l.toArray
def pad:Nat->X Value->X Value
 |0,l=>l|n+1,[]=>undef::pad n []
 |n+1,v::l=>v::pad n l
def FJ(P:Ua)(eqs:X TypeId):Tb where
 I1 t:=match nth P.types.toList t with
  |none=>none|some i=>match i.desc with
   |.named _ u=>match nth P.types.toList u with
    |some j=>some j.desc|none=>none
   |d=>some d
 inf t:=match nth P.types.toList t with
  |none=>none|some i=>match i.zero with
   |some z=>cond (plain z) (some (i.size,i.bytes,z)) none|none=>none
 fn f:=nth P.funcs.toList f
 eqs t:=eqs.any (Nat.beq t)
end Go.Rx
