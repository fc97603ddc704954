import Derived.Calls
import Derived.Orders
import Derived.Below
import Derived.Laws.CopyRow
import Derived.KernelRfl
import Derived.Test.YtmflfedkfdkipaaGreatP1
set_option linter.all false
namespace Go.Rx
open Go
structure Nm where
 blk:Nat->Nat
 sh:Nat->Nat
 cp:Nat->Nat
def bP:Nat:=18446744073709551616
def bI(c:Nat):Nat:=c-bP
def bU(m:Nm)(i c:Nat):Nat:=if c<bP then c else m.cp i-bI c
mutual
def ren(m:Nm):A->A
 |.pointer (some a)=>.pointer (some ⟨m.blk a.block,m.sh a.block+a.off,none⟩)|.slice (some a) n c=>.slice (some ⟨m.blk a.block,m.sh a.block+a.off,none⟩) n (bU m a.block c)
 |.map (some r)=>.map (some (m.blk r))|.func fn first cap=>.func fn (tH m first) (tH m cap)
 |.iface t v=>.iface t (ren m v)|.agg cs=>.agg (tH m cs)
 |.tuple cs=>.tuple (tH m cs)|.bool b=>.bool b
 |.int k n=>.int k n|.float k n=>.float k n
 |.complex k a b=>.complex k a b|.string s=>.string s
 |.pointer none=>.pointer none|.slice none n c=>.slice none n c
 |.map none=>.map none|.chan (some r)=>.slice (some ⟨m.blk r,m.sh r,some (m.cp r)⟩) 0 0
 |.chan none=>.chan none|.nilFunc=>.nilFunc
 |.nilIface=>.nilIface
def tH(m:Nm):Bo A->Bo A
 |⟨l⟩=>⟨aE m l⟩
def aE(m:Nm):Z A->Z A
 |[]=>[]|v::l=>ren m v::aE m l
end
def lD(m:Nm)(l:Z A):aE m l=l.map (ren m):=by induction l with|nil=>simp[aE]|cons v l ih=>simp[aE,ih]
def z8c(m:Nm)(a:Bo A):tH m a=a.map (ren m):=by cases a;simp[tH,lD]
@[simp] def kS(m:Nm)(l:Z A):tH m ⟨l⟩=⟨aE m l⟩:=by simp[tH]
@[simp] def vI(m:Nm)(l:Z A):(aE m l).length=l.length:=by simp[lD]
@[simp] def v13(m:Nm)(a:Bo A):(tH m a).size=a.size:=by simp[z8c]
@[simp] def kF(m:Nm)(a:Bo A):(tH m a).toList=aE m a.toList:=by cases a;simp
def K3(m:Nm)(a b:Z A):aE m (a++b)=aE m a++aE m b:=by simp[lD]
def qs6(m:Nm)(v:A):(ren m v).oneCell'=v.oneCell':=by
 cases v with
 |pointer a=>cases a<;>rfl|slice a n c=>cases a<;>rfl
 |map r=>cases r<;>rfl|chan r=>cases r<;>rfl
 |_=>rfl
def qp(m:Nm)(v:A):(ren m v).cells=tH m v.cells:=by
 cases v with
 |pointer a=>cases a<;>simp[ren,Value.cells,aE]|slice a n c=>cases a<;>simp[ren,Value.cells,aE]
 |map r=>cases r<;>simp[ren,Value.cells,aE]|chan r=>cases r<;>simp[ren,Value.cells,aE]
 |_=>simp[ren,Value.cells,aE]
abbrev Row:=Z A×O×Nat
abbrev lJ:=Row ⊕ (Z MapEntry×Nat)
abbrev Hp:=Z (Nat×lJ)
def lk:Hp->Nat->I lJ
 |[],_=>none|(j,b)::h,i=>cond (Nat.beq j i) (some b) (lk h i)
def up:Hp->Nat->lJ->Hp
 |[],_,_=>[]|(j,b)::h,i,c=>cond (Nat.beq j i) ((j,c)::h) ((j,b)::up h i c)
def rm:Hp->Nat->Hp
 |[],_=>[]|(j,b)::h,i=>cond (Nat.beq j i) (rm h i) ((j,b)::rm h i)
def beq_eq(j i:Nat):Nat.beq j i=decide (j=i):=by rw[Bool.eq_iff_iff];simp[Nat.beq_eq]
def lQ(j:Nat)(b:lJ)(h:Hp)(i:Nat):lk ((j,b)::h) i=if j=i then some b else lk h i:=by simp only[lk,beq_eq];by_cases e:j=i<;>simp[e]
def BV(h:Hp)(i:Nat)(c:lJ)(j:Nat):lk (up h i c) j=if i=j then(lk h i).map (fun _=>c)else lk h j:=by induction h with|nil=>simp[up,lk]|cons x h ih=>obtain⟨k,b⟩:=x;simp only[up,beq_eq];by_cases e:k=i;subst e;simp only[yC,zC,lQ];by_cases e2:k=j<;>simp[e2];simp only[e,yB,zD,lQ,ih];by_cases e2:i=j;subst e2;simp[e];by_cases e3:k=j<;>simp[e2,e3]
def Dr(h:Hp)(i j:Nat):lk (rm h i) j=if i=j then none else lk h j:=by induction h with|nil=>simp[rm,lk]|cons x h ih=>obtain⟨k,b⟩:=x;simp only[rm,beq_eq];by_cases e:k=i;subst e;simp only[yC,zC,lQ,ih];by_cases e2:k=j<;>simp[e2];simp only[e,yB,zD,lQ,ih];by_cases e2:i=j;subst e2;simp[e];by_cases e3:k=j<;>simp[e2,e3]
structure S where
 h:Hp
 nx:Nat
def dM(m:Nm)(e:MapEntry):MapEntry:={ key:=ren m e.key,val:=ren m e.val,born:=e.born }
def wW(m:Nm)(i:Nat)(l:Z A)(e:O)(w:Tz):Nat->Prop
 |0=>m.sh i=0/\w.heap[m.blk i]? = some (.cells (aE m l).toArray e (0,0))|1=>∃c e' fr,w.heap[m.blk i]? = some (.cells c e' fr)/\(∀k v,l[k]? = some v->c[m.sh i+k]? = some (ren m v))/\∀n,e=n+1->l.length<=m.cp i*n
 |n+2=>∃pre rest,w.heap[m.blk i]? = some (.cells (pre++aE m l++rest).toArray e (0,0))/\pre.length=m.sh i/\l.length+rest.length=m.cp i*n
def uD(m:Nm)(i:Nat)(w:Tz):lJ->Prop
 |.inl (l,e,md)=>wW m i l e w md|.inr (es,clock)=>w.heap[m.blk i]? = some (.map (es.map (dM m)).toArray clock)
def Own:lJ->BQ
 |.inl (_,_,1)=>false|_=>true
structure Fits(m:Nm)(s:S)(w:Tz):Prop where
 ok:∀i b,lk s.h i=some b->uD m i w b
 inj:∀i j b c,lk s.h i=some b->lk s.h j=some c->i≠j->Own b=true->m.blk i≠m.blk j
 bd:∀i b,lk s.h i=some b->i<s.nx
def aJ(n:Nat)(m m':Nm):Prop:=∀i,i<n->m'.blk i=m.blk i/\m'.sh i=m.sh i/\m'.cp i=m.cp i
def aJ.refl(n:Nat)(m:Nm):aJ n m m:=fun _ _=>⟨rfl,rfl,rfl⟩
def aJ.trans{n k:Nat}{a b c:Nm}(h:aJ n a b)(h':aJ k b c)(hk:n<=k):aJ n a c:=fun i hi=>by
 obtain⟨a1,a2,a3⟩:=h i hi;obtain⟨b1,b2,b3⟩:=h' i (by omega);exact⟨b1.trans a1,b2.trans a2,b3.trans a3⟩
variable{n:Nat}
def aJ.mono{k:Nat}{a b:Nm}(h:aJ n a b)(hk:k<=n):aJ k a b:=fun i hi=>h i (by omega)
def fN(m:Nm)(s:S)(w:Tz):Prop:=∀m',aJ s.nx m m'->Fits m' s w
def eI(m:Nm)(n:Nat)(v cv:A):Prop:=∀m',aJ n m m'->ren m' v=cv
def mU(m:Nm)(n:Nat)(v cv:Z A):Prop:=∀m',aJ n m m'->aE m' v=cv
variable{m:Nm}
variable{s:S}
variable{w:Tz}
def fN.fits(h:fN m s w):Fits m s w:=h m (aJ.refl _ _)
def eI.at{v cv:A}(h:eI m n v cv):ren m v=cv:=h m (aJ.refl _ _)
def mU.at{v cv:Z A}(h:mU m n v cv):aE m v=cv:=h m (aJ.refl _ _)
def eI.ext{m':Nm}{n':Nat}{v cv:A}(h:eI m n v cv)(ha:aJ n m m')(hn:n<=n'):eI m' n' v cv :=
 fun k hk=>h k (ha.trans hk hn)
def mU.ext{m':Nm}{n':Nat}{v cv:Z A}(h:mU m n v cv)(ha:aJ n m m')(hn:n<=n'):mU m' n' v cv :=
 fun k hk=>h k (ha.trans hk hn)
def UC(m:Nm)(s:S)(b:Nat):Prop:=∃i c,lk s.h i=some c/\Own c=true/\m.blk i=b
structure bQ(m:Nm)(s:S)(w:Tz)(aI:Nm)(bE:S)(w₁:Tz):Prop where
 agree:aJ s.nx m aI
 nx:s.nx<=bE.nx
 fits:fN aI bE w₁
 own:∀b,UC aI bE b->UC m s b\/w.heap.size<=b
 same:∀b,b<w.heap.size->¬ UC m s b->w₁.heap[b]? = w.heap[b]?
 size:w.heap.size<=w₁.heap.size
 os:w₁.os=w.os
 tape:w₁.tape=w.tape
 output:w₁.output=w.output
def bQ.refl{m:Nm}{s:S}{w:Tz}(h:fN m s w):bQ m s w m s w :=
 ⟨aJ.refl _ _,zF _,h,fun _ h=>.inl h,fun _ _ _=>rfl,zF _,rfl,rfl,rfl⟩
def bQ.trans{m aI GB:Nm}{s bE Kd:S}{w w₁ BM:Tz}(h:bQ m s w aI bE w₁)(k:bQ aI bE w₁ GB Kd BM):bQ m s w GB Kd BM:=by
 refine⟨h.agree.trans k.agree h.nx,Nat.le_trans h.nx k.nx,k.fits,fun b hb=>?_,fun b hb hn=>?_,Nat.le_trans h.size k.size,k.os.trans h.os,k.tape.trans h.tape,k.output.trans h.output⟩;rcases k.own b hb with h1 |h1;exact h.own b h1;exact .inr (Nat.le_trans h.size h1);have h1:¬ UC aI bE b:=fun ho=>by rcases h.own b ho with h2 |h2;exact hn h2;omega
 rw[k.same b (Nat.lt_of_lt_of_le hb h.size) h1,h.same b hb hn]
def bQ.below{aI:Nm}{bE:S}{w₁:Tz}(h:bQ m s w aI bE w₁)(hs:∀b,¬ UC m s b):RowKit.Below w.heap.size w w₁ :=
 ⟨h.os,h.tape,h.output,h.size,fun k hk=>h.same k hk (hs k)⟩
def Fits.size{m:Nm}{s:S}{w:Tz}(h:Fits m s w){i:Nat}{b:lJ}(hb:lk s.h i=some b):m.blk i<w.heap.size:=by have:=h.ok i b hb;rcases Nat.lt_or_ge (m.blk i) w.heap.size with hl |hg;exact hl;exfalso;rcases b with⟨l,e,md⟩|⟨es,clock⟩;rcases md with _ |_ |n;simp[uD,wW,Array.getElem?_eq_none hg]at this;simp[uD,wW,Array.getElem?_eq_none hg]at this;simp[uD,wW,Array.getElem?_eq_none hg]at this;simp[uD,Array.getElem?_eq_none hg]at this
def qz(n:Nat)(h:fN m s w):fN m s { w with drawn:=n }:=fun m' ha=>by
 obtain⟨h1,h2,h3⟩:=h m' ha;refine⟨fun i b hb=>?_,h2,h3⟩;have:=h1 i b hb;rcases b with⟨l,e,md⟩|⟨es,clock⟩;rcases md with _ |_ |n<;>exact this;exact this
def bQ.draw(n:Nat)(h:fN m s w):bQ m s w m s { w with drawn:=n }:=
 ⟨aJ.refl _ _,zF _,qz n h,fun _ h=>.inl h,fun _ _ _=>rfl,zF _,rfl,rfl,rfl⟩
def Nm.set(m:Nm)(i b sh cp:Nat):Nm :=
 { blk:=fun j=>if j=i then b else m.blk j,sh:=fun j=>if j=i then sh else m.sh j,cp:=fun j=>if j=i then cp else m.cp j }
def Nm.agree_set(m:Nm)(i b sh cp:Nat):aJ i m (m.set i b sh cp):=fun j hj=>by
 simp[Nm.set,show j≠i by omega]
def uD.world{i:Nat}{w':Tz}{b:lJ}(h:uD m i w b)(hw:w'.heap[m.blk i]? = w.heap[m.blk i]?):uD m i w' b:=by rcases b with⟨l,e,md⟩|⟨es,clock⟩;rcases md with _ |_ |n<;>(simp only[uD,wW]at*;rw[hw];exact h);simp only[uD]at*;rw[hw];exact h
def bQ.alloc{m:Nm}{s:S}{w:Tz}(h:fN m s w)(o:Obj)(b:lJ)(cp:Nat)
  (hb:∀m',aJ (s.nx+1) (m.set s.nx w.heap.size 0 cp) m'->uD m' s.nx (w.alloc o) b):
  bQ m s w (m.set s.nx w.heap.size 0 cp) ⟨(s.nx,b)::s.h,s.nx+1⟩ (w.alloc o):=by
 have mA:∀k,k<w.heap.size->(w.alloc o).heap[k]? = w.heap[k]?:=fun k hk=>RowKit.Below.heap_alloc w o k hk;refine⟨Nm.agree_set m _ _ _ _,Nat.le_succ _,?_,?_,fun b hb _=>mA b hb,by simp,rfl,rfl,rfl⟩;intro m' ha;have jJ:aJ s.nx m m':=(Nm.agree_set m s.nx w.heap.size 0 cp).trans ha (Nat.le_succ _);have hf:=h m' jJ;have gP:m'.blk s.nx=w.heap.size:=by have:=(ha s.nx (zN _)).1;simpa[Nm.set]using this
 refine⟨fun i c hc=>?_,fun i j c d hc hd kB ho=>?_,fun i c hc=>?_⟩;simp only[lQ]at hc;by_cases e:s.nx=i;subst e;simp only[if_true,zA]at hc;subst hc;exact hb m' ha;simp only[e,if_false]at hc;exact(hf.ok i c hc).world (mA _ (hf.size hc));simp only[lQ]at hc hd;by_cases e:s.nx=i;subst e;have hj:s.nx≠j:=kB;simp only[hj,if_false]at hd;have:=hf.size hd;omega;simp only[e,if_false]at hc;by_cases e2:s.nx=j;subst e2;have:=hf.size hc;omega;simp only[e2,if_false]at hd;exact hf.inj i j c d hc hd kB ho;simp only[lQ]at hc;by_cases e:s.nx=i;subst e;exact zN _;simp only[e,if_false]at hc;exact Nat.lt_succ_of_lt (hf.bd i c hc);rintro b ⟨i,c,hc,ho,rfl⟩;simp only[lQ]at hc;by_cases e:s.nx=i;subst e;right;simp[Nm.set];simp only[e,if_false]at hc;left;refine⟨i,c,hc,ho,?_⟩;have:=h.fits.bd i c hc;simp[Nm.set,show i≠s.nx by omega]
def bQ.write{w':Tz}(h:fN m s w){i:Nat}{b c:lJ}(hb:lk s.h i=some b)(yU:Own b=true)
  (hw:∀k,k≠m.blk i->w'.heap[k]? = w.heap[k]?) (eA:w'.heap.size=w.heap.size) (h1:w'.os=w.os) (h2:w'.tape=w.tape) (h3:w'.output=w.output) (_h4:w.drawn<=w'.drawn) (hc:∀m',aJ s.nx m m'->uD m' i w' c):
  bQ m s w m ⟨up s.h i c,s.nx⟩ w':=by
 refine⟨aJ.refl _ _,zF _,?_,?_,?_,by omega,h1,h2,h3⟩;intro m' ha;have hf:=h m' ha;have w5:m'.blk i=m.blk i:=(ha i (hf.bd i b hb)).1;refine⟨fun j d hd=>?_,fun j k d e hd he CY ho=>?_,fun j d hd=>?_⟩;simp only[BV]at hd;by_cases e:i=j;subst e;simp only[if_true,hb,zM,zA]at hd;subst hd;exact hc m' ha;simp only[e,if_false]at hd;refine(hf.ok j d hd).world (hw _ ?_);rw[<-w5];exact fun x=>hf.inj i j b d hb hd e yU x.symm;have key:∀j d,lk (up s.h i c) j=some d->∃d',lk s.h j=some d'/\(Own d=true->Own d'=true):=fun j d hd=>by simp only[BV]at hd;by_cases e:i=j;subst e;exact⟨b,hb,fun _=>yU⟩;simp only[e,if_false]at hd;exact⟨d,hd,id⟩
 obtain⟨d',bB,od⟩:=key j d hd;obtain⟨e',xP,_⟩:=key k e he;exact hf.inj j k d' e' bB xP CY (od ho);simp only[BV]at hd;by_cases e:i=j;subst e;exact hf.bd i b hb;simp only[e,if_false]at hd;exact hf.bd j d hd;rintro k ⟨j,d,hd,ho,rfl⟩;left;simp only[BV]at hd;by_cases e:i=j;subst e;exact⟨i,b,hb,yU,rfl⟩;simp only[e,if_false]at hd;exact⟨j,d,hd,ho,rfl⟩;intro k hk hn;exact hw k fun e=>hn ⟨i,b,hb,yU,e.symm⟩
def bQ.forget(h:fN m s w)(i:Nat):bQ m s w m ⟨rm s.h i,s.nx⟩ w:=by
 have key:∀j d,lk (rm s.h i) j=some d->lk s.h j=some d:=fun j d hd=>by simp only[Dr]at hd;by_cases e:i=j;simp[e]at hd;simpa[e]using hd
 refine⟨aJ.refl _ _,zF _,fun m' ha=>?_,?_,fun _ _ _=>rfl,zF _,rfl,rfl,rfl⟩;have hf:=h m' ha;exact⟨fun j d hd=>hf.ok j d (key j d hd),fun j k d e hd he=>hf.inj j k d e (key j d hd) (key k e he),fun j d hd=>hf.bd j d (key j d hd)⟩;rintro k ⟨j,d,hd,ho,rfl⟩;exact .inl ⟨j,d,key j d hd,ho,rfl⟩
structure Tb where
 und:O->I TypeDesc
 inf:O->I (Nat×Nat×A)
 fn:FuncId->I Func
 eqs:O->BQ
mutual
def plain:A->BQ
 |.bool _=>true|.int _ _=>true
 |.string _=>true|.pointer none=>true
 |.slice none _ _=>true|.map none=>true
 |.nilFunc=>true|.nilIface=>true
 |.agg ⟨l⟩=>PX l|.tuple ⟨l⟩=>PX l
 |_=>false
def PX:Z A->BQ
 |[]=>true|v::l=>cond (plain v) (PX l) false
end
def nth{v11:Type}:Z v11->Nat->I v11
 |[],_=>none|a::_,0=>some a
 |_::l,n+1=>nth l n
def FN:Z A->Nat->I (Z A)
 |_,0=>some []|[],_+1=>none
 |v::l,n+1=>match FN l n with
  |some r=>some (v::r)|none=>none
def u9(l:Z A)(off n:Nat):I (Z A):=FN (l.drop off) n
def DT:Z A->Z A->I (Z A)
 |l,[]=>some l|[],_::_=>none
 |_::l,v::vs=>match DT l vs with
  |some r=>some (v::r)|none=>none
def qR:Z A->Nat->Z A->I (Z A)
 |l,0,vs=>DT l vs|[],_+1,_=>none
 |x::l,n+1,vs=>match qR l n vs with
  |some r=>some (x::r)|none=>none
def evalO(tm:Z A):Jp->I A
 |.tmp t=>nth tm t|.const v=>cond (plain v) (some v) none
 |.func f=>some (.func (.func f) #[] #[])|.global _=>none
def jP(tm:Z A):Z Jp->I (Z A)
 |[]=>some []|x::l=>match evalO tm x with
  |some v=>match jP tm l with
   |some r=>some (v::r)|none=>none
  |none=>none
def FR(tm:Z A):Z (Nat×Jp)->I (Z (Nat×A))
 |[]=>some []|(i,x)::l=>match evalO tm x with
  |some v=>match FR tm l with
   |some r=>some ((i,v)::r)|none=>none
  |none=>none
def oZ(tm:Z A):I Jp->I (I A)
 |none=>some none|some x=>match evalO tm x with
  |some v=>some (some v)|none=>none
def p9:TypeDesc->BQ
 |.struct _=>true|.array _ _=>true
 |_=>false
def c6(T:Tb)(t:O):I Nat:=match T.inf t with
 |some (n,_,_)=>some n|none=>none
def DY(T:Tb)(t:O)(cs:Z A)(off:Nat):I A :=
 match T.und t with
 |none=>none|some d=>cond (p9 d) (match c6 T t with
   |some n=>some (.agg ((cs.drop off).take n).toArray)|none=>none) (nth cs off)
def jZ:Z O8->Z O8->BQ
 |[],[]=>true|a::x,b::y=>cond (Nat.beq a.toNat b.toNat) (jZ x y) false
 |_,_=>false
def jH:Z O8->Z O8->BQ
 |_,[]=>false|[],_::_=>true
 |a::x,b::y=>cond (Nat.blt a.toNat b.toNat) true (cond (Nat.beq a.toNat b.toNat) (jH x y) false)
def DA(T:Tb)(E:O->A->A->I BQ)(xs ys:Z A):Z Field->I BQ
 |[]=>some true|f::fs=>
  if f.name ≠ "_" then
   match DY T f.type xs f.offset with
   |none=>none|some a=>match DY T f.type ys f.offset with
    |none=>none|some b=>match E f.type a b with
     |none=>none|some false=>some false
     |some true=>DA T E xs ys fs
  else DA T E xs ys fs
def eqv(T:Tb):Nat->O->A->A->I BQ
 |0,_,_,_=>none|d+1,t,x,y=>
  match T.und t with
  |some .bool=>match x,y with
   |.bool a,.bool b=>some (a==b)|_,_=>none
  |some (.int _)=>match x,y with
   |.int k a,.int k' b=>if k=k' then some (a==b)else none|_,_=>none
  |some .string=>match x,y with
   |.string a,.string b=>some (jZ a.data.toList b.data.toList)|_,_=>none
  |some (.pointer _)=>match x,y with
   |.pointer none,.pointer none=>some true|.pointer none,.pointer (some _)=>some false
   |.pointer (some _),.pointer none=>some false|_,_=>none
  |some (.slice _)=>match x,y with
   |.slice none _ _,.slice none _ _=>some true|.slice none _ _,.slice (some _) _ _=>some false
   |.slice (some _) _ _,.slice none _ _=>some false|.chan (some _),.slice none _ _=>some false
   |_,_=>none
  |some (.map _ _)=>match x,y with
   |.map none,.map none=>some true|.map none,.map (some _)=>some false
   |.map (some _),.map none=>some false|_,_=>none
  |some (.struct fs)=>match x,y with
   |.agg xs,.agg ys=>cond (T.eqs t) (DA T (eqv T d) xs.toList ys.toList fs.toList) none|_,_=>none
  |_=>none
def jF(op:BinOp)(k:IntKind)(a:Int)(k':IntKind)(b:Int):I A :=
 match op with
 |.shl=>if b<0 then none else some (.int k (k.wrap (a*2^(min b.toNat k.bits))))|.shr=>if b<0 then none else some (.int k (a.fdiv (2^(min b.toNat k.bits))))
 |_=>
  if k≠k' then none else
  match op with
  |.add=>some (.int k (k.wrap (a+b)))|.sub=>some (.int k (k.wrap (a-b)))
  |.mul=>some (.int k (k.wrap (a*b)))|.quo=>if b=0 then none else some (.int k (k.wrap (a.tdiv b)))
  |.rem=>if b=0 then none else some (.int k (a.tmod b))|.and=>some (.int k (k.wrap (BitVec.ofInt k.bits a&&&BitVec.ofInt k.bits b).toNat))
  |.or=>some (.int k (k.wrap (BitVec.ofInt k.bits a|||BitVec.ofInt k.bits b).toNat))|.xor=>some (.int k (k.wrap (BitVec.ofInt k.bits a^^^BitVec.ofInt k.bits b).toNat))
  |.andNot=>some (.int k (k.wrap (BitVec.ofInt k.bits a &&& ~~~ BitVec.ofInt k.bits b).toNat))|.eql=>some (.bool (a==b))
  |.neq=>some (.bool (a != b))|.lss=>some (.bool (decide (a<b)))
  |.leq=>some (.bool (decide (a<=b)))|.gtr=>some (.bool (decide (a>b)))
  |.geq=>some (.bool (decide (a>=b)))|_=>none
def FA(op:BinOp)(x y:ByteArray):I A :=
 let a:=x.data.toList
 let b:=y.data.toList
 match op with
 |.add=>if((a.length+b.length:Nat):Int)>9223372036854775807 then none else some (.string ⟨(a++b).toArray⟩)|.eql=>some (.bool (jZ a b))
 |.neq=>some (.bool (!jZ a b))|.lss=>some (.bool (jH a b))
 |.leq=>some (.bool (jH a b||jZ a b))|.gtr=>some (.bool (!(jH a b||jZ a b)))
 |.geq=>some (.bool (!jH a b))|_=>none
def AF(T:Tb)(t:O):A->A->BQ
 |.nilIface,.nilIface=>false|.agg _,.agg _=>T.eqs t
 |_,_=>true
def sJ(T:Tb)(op:BinOp)(t:O)(x y:A):I A :=
 match x,y with
 |.int k a,.int k' b=>jF op k a k' b|.string a,.string b=>FA op a b
 |x,y=>match op with
  |.eql=>cond (AF T t x y) (match eqv T 50 t x y with
   |some b=>some (.bool b)|none=>none) none
  |.neq=>cond (AF T t x y) (match eqv T 50 t x y with
   |some b=>some (.bool (!b))|none=>none) none
  |_=>none
def P0:UnOp->A->I A
 |.neg,.int k n=>some (.int k (k.wrap (0-n)))|.not,.bool b=>some (.bool (!b))
 |.xor,.int k n=>some (.int k (k.wrap (BitVec.ofInt k.bits (if k.signed then -1 else k.max)^^^BitVec.ofInt k.bits n).toNat))|_,_=>none
def WB(T:Tb)(src dst:O)(x:A):I A :=
 match T.und src,T.und dst,x with
 |some _,some (.int k),.int _ n=>some (.int k (k.wrap n))|some _,some .string,.string s=>some (.string s)
 |_,_,_=>none
def BX(place:Nat->I (Nat×Nat))(cells:Z A):Z (Nat×A)->I (Z A)
 |[]=>some cells|(i,v)::rest=>match place i with
  |none=>none|some (off,size)=>cond (Nat.beq v.cells.toList.length size) (match qR cells off v.cells.toList with
   |some c=>BX place c rest|none=>none) none
def JT(T:Tb)(fs:Z Field)(i:Nat):I (Nat×Nat):=
 match nth fs i with
 |none=>none|some f=>match c6 T f.type with
  |none=>none|some n=>some (f.offset,n)
def FU(T:Tb):Z Field->BQ
 |[]=>true|f::fs=>match c6 T f.type with
  |some _=>FU T fs|none=>false
def Lu(T:Tb)(t:O)(ps:Z (Nat×A)):I A :=
 match T.inf t with
 |none=>none|some (_,_,z)=>match T.und t with
  |some (.struct fs)=>cond (FU T fs.toList) (match BX (JT T fs.toList) z.cells.toList ps with
   |some cs=>some (.agg cs.toArray)|none=>none) none
  |some (.array _ e)=>match c6 T e with
   |none=>none|some n=>match BX (fun i=>some (i*n,n)) z.cells.toList ps with
    |some cs=>some (.agg cs.toArray)|none=>none
  |_=>none
def Ng(T:Tb)(st:O)(x:A)(f:Nat):I A :=
 match T.und st with
 |some (.struct fs)=>match nth fs.toList f with
  |some fd=>match x with
   |.pointer (some a)=>match c6 T fd.type with
    |some (_+1)=>some (.pointer (some ⟨a.block,a.off+fd.offset,none⟩))|_=>none
   |_=>none
  |none=>none
 |_=>none
def Lo(T:Tb)(st:O)(x:A)(f:Nat):I A :=
 match T.und st with
 |some (.struct fs)=>match nth fs.toList f with
  |some fd=>match x with
   |.agg cs=>DY T fd.type cs.toList fd.offset|_=>none
  |none=>none
 |_=>none
def oM(i:Int)(n:Nat):BQ:=match i with
 |.ofNat k=>Nat.blt k n|.negSucc _=>false
def My(T:Tb)(t:O)(x ix:A):I A :=
 match ix with
 |.int _ i=>match T.und t,x with
  |some (.array n e),.pointer (some a)=>cond (oM i n) (match c6 T e with
   |some sz=>some (.pointer (some ⟨a.block,a.off+i.toNat*sz,none⟩))|none=>none) none
  |some (.slice e),.slice (some a) n _=>cond (oM i n) (match c6 T e with
   |some sz=>some (.pointer (some ⟨a.block,a.off+i.toNat*sz,none⟩))|none=>none) none
  |_,_=>none
 |_=>none
def WI(T:Tb)(t:O)(x ix:A):I A :=
 match ix with
 |.int _ i=>match T.und t,x with
  |some (.array n e),.agg cs=>cond (oM i n) (match c6 T e with
   |some sz=>DY T e cs.toList (i.toNat*sz)|none=>none) none
  |some .string,.string s=>cond (oM i s.data.toList.length) (match nth s.data.toList i.toNat with
   |some b=>some (.int .u8 b.toNat)|none=>none) none
  |_,_=>none
 |_=>none
def Fo(x:A)(i:Nat):I A:=match x with
 |.tuple vs=>nth vs.toList i|_=>none
def CH(T:Tb)(t:O)(x:A):I A :=
 match T.und t,x with
 |some .string,.string s=>some (.int .i64 s.data.toList.length)|some (.slice _),.slice _ n _=>some (.int .i64 n)
 |some (.slice _),.chan (some _)=>some (.int .i64 0)|some (.array n _),_=>some (.int .i64 n)
 |_,_=>none
def IE(T:Tb)(t:O)(x:A):I A :=
 match T.und t,x with
 |some (.slice _),.slice none _ c=>some (.int .i64 c)|some (.slice _),.slice (some _) _ c=>cond (Nat.blt c bP) (some (.int .i64 c)) none
 |some (.slice _),.chan (some _)=>some (.int .i64 0)|_,_=>none
def W8:A->A->I A
 |.int k x,.int _ y=>some (.int k (if y>x then y else x))|_,_=>none
def PU:A->A->I A
 |.int k x,.int _ y=>some (.int k (if y<x then y else x))|_,_=>none
def wV(f:A->A->I A):A->Z A->I A
 |x,[]=>some x|x,y::l=>match f x y with
  |some z=>wV f z l|none=>none
def iA(v:A)(y:Nat):I Nat:=match v with
 |.int _ i=>cond (oM i (y+1)) (some i.toNat) none|_=>none
def fD(len cap:Nat)(lo hi mx:I A):I (Nat×Nat×Nat):=
 match (match mx with |some v=>iA v cap |none=>some cap)with
 |none=>none|some m=>match (match hi with |some v=>iA v m |none=>(match mx with |some _=>none |none=>some len))with
  |none=>none|some h=>match (match lo with |some v=>iA v h |none=>some 0)with
   |none=>none|some l=>some (l,h,m)
def emptyS(T:Tb)(e:O)(a:I Addr)(n c:Nat)(lo hi mx:I A):I A:=match a with
 |none=>none|some a=>match n with
  |_+1=>none|0=>match fD 0 0 lo hi mx with
   |some (0,0,0)=>(match c6 T e with
    |some _=>some (.slice (some a) 0 (match mx with |some _=>0 |none=>c))|none=>none)
   |_=>none
def mN(T:Tb)(t:O)(x:A)(lo hi mx:I A):I A :=
 match T.und t,x with
 |some .string,.string s=>match mx with
  |some _=>none|none=>match fD s.data.toList.length s.data.toList.length lo hi none with
   |some (l,h,_)=>some (.string ⟨((s.data.toList.take h).drop l).toArray⟩)|none=>none
 |some (.slice e),.slice a n c=>cond (Nat.blt c bP) (match fD n c lo hi mx with
   |some (l,h,m)=>match c6 T e with
    |some sz=>some (.slice (cond (Nat.beq m l) a (match a with
      |some a=>some ⟨a.block,a.off+l*sz,none⟩|none=>none)) (h-l) (m-l))
    |none=>none
   |none=>none) (emptyS T e a n c lo hi mx)
 |some (.slice e),.chan (some r)=>match fD 0 0 lo hi mx with
   |some _=>(match c6 T e with
    |some _=>some (.chan (some r))|none=>none)
   |none=>none
 |some (.array n e),.pointer (some a)=>match fD n n lo hi mx with
   |some (l,h,m)=>match c6 T e with
    |some sz=>cond (Nat.blt n bP) (some (.slice (some (cond (Nat.beq m l) ⟨a.block,a.off,none⟩ ⟨a.block,a.off+l*sz,none⟩)) (h-l) (m-l))) none|none=>none
   |none=>none
 |_,_=>none
def gT(T:Tb)(tm:Z A)(op:Op):I A :=
 match op with
 |.move x=>evalO tm x|.assign x=>evalO tm x
 |.pick c a b=>match evalO tm c with
  |some (.bool true)=>evalO tm a|some (.bool false)=>evalO tm b
  |_=>none
 |.build t ps=>match FR tm ps.toList with
  |some qs=>Lu T t qs|none=>none
 |.nilCheck x=>match evalO tm x with
  |some (.pointer (some a))=>some (.pointer (some a))|some (.func (.func f) a b)=>some (.func (.func f) a b)
  |_=>none
 |.binOp op t x y _=>match evalO tm x,evalO tm y with
  |some a,some b=>sJ T op t a b|_,_=>none
 |.unOp op _ x=>match evalO tm x with
  |some a=>P0 op a|none=>none
 |.convert s d x=>match evalO tm x with
  |some a=>WB T s d a|none=>none
 |.makeFunc fn first cap=>match jP tm first.toList,jP tm cap.toList with
  |some a,some b=>some (.func fn a.toArray b.toArray)|_,_=>none
 |.slice t x lo hi mx=>match evalO tm x,oZ tm lo,oZ tm hi,oZ tm mx with
  |some a,some l,some h,some m=>mN T t a l h m|_,_,_,_=>none
 |.fieldAddr t x f=>match evalO tm x with
  |some a=>Ng T t a f|none=>none
 |.field t x f=>match evalO tm x with
  |some a=>Lo T t a f|none=>none
 |.indexAddr t x i=>match evalO tm x,evalO tm i with
  |some a,some b=>My T t a b|_,_=>none
 |.index t x i=>match evalO tm x,evalO tm i with
  |some a,some b=>WI T t a b|_,_=>none
 |.extract x i=>match evalO tm x with
  |some a=>Fo a i|none=>none
 |.call c=>match c.callee with
  |.builtin .len=>match jP tm c.args.toList,c.argTypes.toList with
   |some [x],t::_=>CH T t x|_,_=>none
  |.builtin .cap=>match jP tm c.args.toList,c.argTypes.toList with
   |some [x],t::_=>IE T t x|_,_=>none
  |.builtin .max=>match jP tm c.args.toList with
   |some (x::l)=>wV W8 x l|_=>none
  |.builtin .min=>match jP tm c.args.toList with
   |some (x::l)=>wV PU x l|_=>none
  |_=>none
 |_=>none
def oK(T:Tb)(kt:O)(k:A):Z MapEntry->Nat->I (I (Nat×A))
 |[],_=>some none|e::es,i=>match eqv T 50 kt k e.key with
  |some true=>some (some (i,e.val))|some false=>oK T kt k es (i+1)
  |none=>none
def Ky(T:Tb)(K:O->A->BQ)(cs:Z A):Z Field->BQ
 |[]=>true|f::fs=>
  if f.name ≠ "_" then
   match DY T f.type cs f.offset with
   |none=>false|some v=>cond (K f.type v) (Ky T K cs fs) false
  else Ky T K cs fs
def o7(T:Tb):Nat->O->A->BQ
 |0,_,_=>false|d+1,t,v=>match T.und t with
  |some (.int _)=>true|some .string=>true
  |some .bool=>true|some (.struct fs)=>match v with
   |.agg cs=>Ky T (o7 T d) cs.toList fs.toList|_=>false
  |_=>false
def BN(E:A->A->BQ):Z A->Z A->BQ
 |[],[]=>true|a::x,b::y=>cond (E a b) (BN E x y) false
 |_,_=>false
def A7:Nat->A->A->BQ
 |0,_,_=>false|d+1,x,y=>match x,y with
  |.int k a,.int k' b=>cond (decide (k=k')) (decide (a=b)) false|.bool a,.bool b=>a==b
  |.string a,.string b=>jZ a.data.toList b.data.toList|.agg a,.agg b=>BN (A7 d) a.toList b.toList
  |_,_=>false
def cE(s:S)(i:Nat):I Row:=match lk s.h i with
 |some (.inl (_,_,1))=>none|some (.inl (l,e,0))=>some (l,e,0)
 |some (.inl (l,e,n+2))=>some (l,e,n+2)|_=>none
def BZ(s:S)(i sz:Nat):I (Z A):=match lk s.h i with
 |some (.inl (l,e,1))=>cond (Nat.beq e (sz+1)) (some l) none|some (.inl (l,_,n+2))=>cond (Nat.beq n sz) (some l) none
 |_=>none
def E5(T:Tb)(s:S)(t:O)(x:A)(lo hi mx:I A):I A :=
 match T.und t,x with
 |some (.slice e),.slice (some a) n c=>cond (Nat.blt c bP) none (match c6 T e with
  |none=>none|some sz=>match BZ s a.block sz with
   |some l=>(cond (Nat.beq a.off (bI c*sz)) (cond (Nat.blt 0 sz)
    (match mx with
     |some v=>match iA v ((l.length-a.off)/sz)with
      |none=>none|some m=>cond (Nat.ble (a.off+m*sz) l.length) (match fD n m lo hi (some v)with
       |some (l1,h,m)=>cond (Nat.blt m bP) (some (.slice (some (cond (Nat.beq m l1) ⟨a.block,a.off,none⟩ ⟨a.block,a.off+l1*sz,none⟩)) (h-l1) (m-l1))) none|none=>none) none
     |none=>match fD n ((l.length-a.off)/sz) lo hi none with
      |none=>none|some (l1,h,_)=>cond (Nat.ble (a.off+h*sz) l.length)
       (match l1 with
        |0=>some (.slice (some ⟨a.block,a.off,none⟩) h c)|l1+1=>cond (Nat.blt (l1+1) h) (some (.slice (some ⟨a.block,a.off+(l1+1)*sz,none⟩) (h-(l1+1)) (c+(l1+1)))) none) none) none) none)
   |none=>none)
 |_,_=>none
def mL(T:Tb)(tm:Z A)(s:S)(op:Op):I A :=
 match op with
 |.load t x=>match evalO tm x with
  |some (.pointer (some a))=>match lk s.h a.block with
   |some (.inl (l,_,_))=>match T.und t with
    |none=>none|some d=>cond (p9 d) (match c6 T t with
      |some n=>match u9 l a.off n with
       |some cs=>some (.agg cs.toArray)|none=>none
      |none=>none) (nth l a.off)
   |_=>none
  |_=>none
 |.slice t x lo hi mx=>match evalO tm x,oZ tm lo,oZ tm hi,oZ tm mx with
  |some a,some l,some h,some m=>E5 T s t a l h m|_,_,_,_=>none
 |.lookup t x k ok=>match T.und t,evalO tm x,evalO tm k with
  |some (.map kt et),some (.map r),some kv=>cond (o7 T 50 kt kv)
   (match (match r with
     |none=>some []|some r=>match lk s.h r with
      |some (.inr (es,_))=>some es|_=>none)with
    |none=>none|some es=>match oK T kt kv es 0 with
     |none=>none|some (some (_,v))=>some (cond ok (.tuple #[v,.bool true]) v)
     |some none=>match T.inf et with
      |some (_,_,z)=>some (cond ok (.tuple #[z,.bool false]) z)|none=>none) none
  |_,_,_=>none
 |.call c=>match c.callee with
  |.builtin .len=>match jP tm c.args.toList,c.argTypes.toList with
   |some [.map r],t::_=>match T.und t with
    |some (.map _ _)=>match r with
     |none=>some (.int .i64 0)|some r=>match lk s.h r with
      |some (.inr (es,_))=>some (.int .i64 es.length)|_=>none
    |_=>none
   |_,_=>none
  |_=>none
 |_=>none
def newRow(s:S)(l:Z A)(e:O)(md:Nat):S:=⟨(s.nx,.inl (l,e,md))::s.h,s.nx+1⟩
def bY(z:Z A):Nat->Z A
 |0=>[]|n+1=>z++bY z n
def pU:Z A->BQ
 |[]=>true|v::l=>cond v.oneCell' (pU l) false
def nU(s:S)(b:I Addr)(n:Nat):I (Z A):=match n with
 |0=>some []|n+1=>match b with
  |none=>none|some a=>match lk s.h a.block with
   |some (.inl (l,_,_))=>u9 l a.off (n+1)|_=>none
def vB(need by_:Nat):BQ:=cond (Nat.ble (need*by_) 140737488355328) (Nat.ble need 140737488355328) false
def W9(s:S)(e:O)(sz by_:Nat)(z:A)(base:I Addr)(n c k:Nat)(new:Z A):I (A×S):=
 cond (Nat.blt c bP) (cond (Nat.ble (n+k) c)
   (match base with
    |none=>none|some a=>match cE s a.block with
     |some (l,e',md)=>match qR l (a.off+n*sz) new with
      |some l'=>some (.slice (some ⟨a.block,a.off,none⟩) (n+k) c,⟨up s.h a.block (.inl (l',e',md)),s.nx⟩)|none=>none
     |none=>none)
   (match nU s base (n*sz)with
    |some old=>cond (vB (n+k) by_) (cond (Nat.beq z.cells.toList.length sz)
      (some (.slice (some ⟨s.nx,0,none⟩) (n+k) bP,newRow s (old++new) e (sz+2))) none) none
    |none=>none))
  (match base with
   |none=>none|some a=>match cE s a.block with
    |some (l,e',md)=>cond (Nat.beq md (sz+2)) (cond (Nat.beq e' e) (cond (Nat.beq a.off (bI c*sz)) (cond (vB (n+k) by_) (cond (Nat.beq z.cells.toList.length sz)
      (match u9 l a.off (n*sz)with
       |some p=>some (.slice (some ⟨s.nx,0,none⟩) (n+k) bP,⟨(s.nx,.inl (p++new,e,sz+2))::rm s.h a.block,s.nx+1⟩)|none=>none) none) none) none) none) none
    |none=>none)
def uK(T:Tb)(s:S)(t xt:O)(sv x:A):I (A×S):=
 match T.und t,T.und xt,sv,x with
 |some (.slice e),some (.slice _),.slice base n c,.slice xb k _=>match T.inf e with
  |some (sz+1,by_,z)=>match nU s xb (k*(sz+1))with
   |none=>none|some new=>cond (pU new)
    (match k with
     |0=>cond (Nat.blt c bP) (cond (Nat.ble n c) (some (.slice base n c,s)) none)
      (match base with
       |some a=>match cE s a.block with
        |some (l,_,md)=>cond (Nat.beq md (sz+3)) (cond (Nat.beq a.off (bI c*(sz+1))) (match u9 l a.off (n*(sz+1))with
         |some _=>some (.slice base n c,s)|none=>none) none) none
        |none=>none
       |none=>none)
     |k+1=>W9 s e (sz+1) by_ z base n c (k+1) new) none
  |_=>none
 |_,_,_,_=>none
def xI:A->BQ
 |.chan (some _)=>true|_=>false
def vC(x:A):A:=cond (xI x) (.slice none 0 0) x
def sN(T:Tb)(s:S)(t xt:O)(sv x:A):I (A×S):=
 cond (xI sv) (match uK T s t xt (.slice none 0 0) (vC x)with
  |some (.slice none _ _,_)=>some (sv,s)|some (.slice (some a) n c,s')=>some (.slice (some a) n c,s')
  |_=>none) (uK T s t xt sv (vC x))
def Zj(T:Tb)(s:S)(t xt:O)(sv x:A):I (A×S):=
 match T.und t,T.und xt,sv,x with
 |some (.slice e),some (.int _),.slice none 0 0,.int _ i=>match T.inf e with
  |some (sz+1,by_,z)=>match IntKind.i64.wrap i with
   |.ofNat (k+1)=>cond (vB (k+1) by_) (cond (Nat.beq z.cells.toList.length (sz+1)) (cond (pU (bY z.cells.toList (k+1)))
     (some (.slice (some ⟨s.nx,0,none⟩) (k+1) bP,newRow s (bY z.cells.toList (k+1)) e (sz+1+2))) none) none) none
   |_=>none
  |_=>none
 |_,_,_,_=>none
def WS(T:Tb)(s:S)(t xt:O)(sv x:A):I (A×S):=match sN T s t xt sv x with
 |some r=>some r|none=>Zj T s t xt sv x
def Kz(T:Tb)(s:S)(t:O)(d x:A):I (A×S):=
 match T.und t,d,x with
 |some (.slice e),.slice base n _,.slice xb k _=>match c6 T e with
  |none=>none|some sz=>match nU s xb (Nat.min k n*sz)with
   |none=>none|some cs=>cond (pU cs) (match cs with
    |[]=>some (.int .i64 (Nat.min k n),s)|_::_=>match base with
     |none=>none|some a=>match cE s a.block with
      |some (l,e',md)=>match qR l a.off cs with
       |some l'=>some (.int .i64 (Nat.min k n),⟨up s.h a.block (.inl (l',e',md)),s.nx⟩)|none=>none
      |none=>none) none
 |_,_,_=>none
def Dw(T:Tb)(s:S)(t:O)(p v:A):I (A×S):=
 match p with
 |.pointer (some a)=>match c6 T t with
  |none=>none|some n=>cond (Nat.beq v.cells.toList.length n) (cond (pU v.cells.toList) (match cE s a.block with
   |some (l,e,md)=>match qR l a.off v.cells.toList with
    |some l'=>some (undef,⟨up s.h a.block (.inl (l',e,md)),s.nx⟩)|none=>none
   |none=>none) none) none
 |_=>none
def WM(T:Tb)(s:S)(t:O)(x:A):I (A×S):=
 match T.und t,x with
 |some (.slice e),.slice base n _=>match n with
  |0=>some (undef,s)|n+1=>match base with
   |none=>some (undef,s)|some a=>match T.inf e with
    |none=>none|some (_,_,z)=>cond (pU (bY z.cells.toList (n+1))) (match cE s a.block with
     |some (l,e',md)=>match qR l a.off (bY z.cells.toList (n+1))with
      |some l'=>some (undef,⟨up s.h a.block (.inl (l',e',md)),s.nx⟩)|none=>none
     |none=>none) none
 |_,_=>none
def Ku(T:Tb)(s:S)(t:O)(l c:A):I (A×S):=
 match T.und t,l,c with
 |some (.slice e),.int _ a,.int _ b=>match T.inf e with
  |some (sz,by_,z)=>match IntKind.i64.wrap a,IntKind.i64.wrap b with
   |.ofNat n,.ofNat k=>cond (Nat.ble n k) (cond (Nat.ble (by_*k) 281474976710656) (cond (Nat.beq z.cells.toList.length sz)
     (cond (Nat.blt k bP) (some (.slice (some ⟨s.nx,0,none⟩) n k,newRow s (bY z.cells.toList k) e 0)) none) none) none) none
   |_,_=>none
  |none=>none
 |_,_,_=>none
def Np(T:Tb)(s:S)(t:O)(n:Nat)(ps:Z (Nat×A)):I (A×S):=
 match T.und t with
 |some (.slice e)=>match T.inf e with
  |some (sz,_,z)=>cond (Nat.ble (n*sz) 16777216) (cond (Nat.beq z.cells.toList.length sz) (match BX (fun i=>some (i*sz,sz)) (bY z.cells.toList n) ps with
   |some cs=>cond (Nat.blt n bP) (some (.slice (some ⟨s.nx,0,none⟩) n n,newRow s cs e 0)) none|none=>none) none) none
  |none=>none
 |_=>none
def Dx(T:Tb)(s:S)(t:O)(x:A)(lo hi mx:I A):I (A×S):=
 match T.und t,x with
 |some (.slice e),.slice (some a) n c=>cond (Nat.blt c bP) none (match c6 T e with
  |none=>none|some sz=>match BZ s a.block sz with
   |some l=>(cond (Nat.beq a.off (bI c*sz)) (cond (Nat.blt 0 sz)
    (match mx with
     |some v=>match iA v ((l.length-a.off)/sz)with
      |none=>none|some m=>cond (Nat.ble (a.off+m*sz) l.length) (match fD n m lo hi (some v)with
       |some (l1,h,m)=>cond (Nat.blt m bP) (some (.slice (some (cond (Nat.beq m l1) ⟨a.block,a.off,none⟩ ⟨a.block,a.off+l1*sz,none⟩)) (h-l1) (m-l1),s)) none|none=>none) none
     |none=>match fD n ((l.length-a.off)/sz) lo hi none with
      |none=>none|some (l1,h,_)=>cond (Nat.ble (a.off+h*sz) l.length)
       (match l1 with
        |0=>some (.slice (some ⟨a.block,a.off,none⟩) h c,s)|l1+1=>cond (Nat.blt (l1+1) h) (some (.slice (some ⟨a.block,a.off+(l1+1)*sz,none⟩) (h-(l1+1)) (c+(l1+1)),s))
          (some (.slice (some ⟨s.nx,0,none⟩) 0 bP,⟨s.h,s.nx+1⟩))) none) none) none)
   |none=>none)
 |_,_=>none
def AE(s:S)(r:Nat):I (Z MapEntry×Nat):=match lk s.h r with
 |some (.inr x)=>some x|_=>none
def JM(s:S)(r:Nat)(es:Z MapEntry)(cl:Nat):S:=⟨up s.h r (.inr (es,cl)),s.nx⟩
def L3(es:Z MapEntry)(i:Nat)(f:MapEntry->MapEntry):Z MapEntry:=match es,i with
 |[],_=>[]|e::es,0=>f e::es
 |e::es,i+1=>e::L3 es i f
def PV(b:Int):Z MapEntry->Nat->I Nat
 |[],_=>none|e::es,i=>cond (decide ((e.born:Int)=b)) (some i) (PV b es (i+1))
def WH(T:Tb)(s:S)(t:O)(m k v:A):I (A×S):=
 match T.und t,m with
 |some (.map kt _),.map (some r)=>cond (o7 T 50 kt k) (cond (plain k) (match AE s r with
  |none=>none|some (es,cl)=>match oK T kt k es 0 with
   |none=>none|some none=>some (undef,JM s r (es++[{ key:=k,val:=v,born:=cl }]) (cl+1))
   |some (some (i,_))=>match nth es i with
    |none=>none|some e=>cond (A7 50 e.key k) (some (undef,JM s r (L3 es i fun e=>{ e with val:=v }) cl)) none) none) none
 |_,_=>none
def Et(T:Tb)(s:S)(t:O)(m k:A):I (A×S):=
 match T.und t,m with
 |some (.map kt et),.map (some r)=>cond (o7 T 50 kt k) (cond (plain k) (match AE s r with
  |none=>none|some (es,cl)=>match oK T kt k es 0 with
   |none=>none|some none=>match T.inf et with
    |none=>none|some (_,_,z)=>some (.tuple #[z,.int .i64 cl],JM s r (es++[{ key:=k,val:=z,born:=cl }]) (cl+1))
   |some (some (i,v))=>match nth es i with
    |none=>none|some e=>cond (A7 50 e.key k) (some (.tuple #[v,.int .i64 e.born],JM s r es cl)) none) none) none
 |_,_=>none
def Lq(s:S)(m st v:A):I (A×S):=
 match m,st with
 |.map (some r),.int _ b=>match AE s r with
  |none=>none|some (es,cl)=>match PV b es 0 with
   |none=>none|some i=>some (undef,JM s r (L3 es i fun e=>{ e with val:=v }) cl)
 |_,_=>none
def WJ(es:Z MapEntry)(i:Nat):Z MapEntry:=match es,i with
 |[],_=>[]|_::es,0=>es
 |e::es,i+1=>e::WJ es i
def DB(T:Tb)(s:S)(t:O)(m k:A):I (A×S):=
 match T.und t,m with
 |some (.map kt _),.map none=>cond (o7 T 50 kt k) (some (undef,s)) none|some (.map kt _),.map (some r)=>cond (o7 T 50 kt k) (match AE s r with
  |none=>none|some (es,cl)=>match oK T kt k es 0 with
   |none=>none|some none=>some (undef,JM s r es cl)
   |some (some (i,_))=>some (undef,JM s r (WJ es i) cl)) none
 |_,_=>none
def qS(T:Tb)(tm:Z A)(s:S)(op:Op):I (A×S):=
 match op with
 |.alloc e=>match T.inf e with
  |some (_,_,z)=>some (.pointer (some ⟨s.nx,0,none⟩),newRow s z.cells.toList e 0)|none=>none
 |.box e x=>match evalO tm x with
  |some v=>some (.pointer (some ⟨s.nx,0,none⟩),newRow s v.cells.toList e 0)|none=>none
 |.store t a x=>match evalO tm a,evalO tm x with
  |some p,some v=>Dw T s t p v|_,_=>none
 |.buildSlice t n ps=>match FR tm ps.toList with
  |some qs=>Np T s t n qs|none=>none
 |.makeSlice t l c=>match evalO tm l,evalO tm c with
  |some a,some b=>Ku T s t a b|_,_=>none
 |.makeMap _ none=>some (.map (some s.nx),⟨(s.nx,.inr ([],0))::s.h,s.nx+1⟩)|.slice t x lo hi mx=>match evalO tm x,oZ tm lo,oZ tm hi,oZ tm mx with
  |some a,some l,some h,some m=>Dx T s t a l h m|_,_,_,_=>none
 |.mapUpdate t m k x=>match evalO tm m,evalO tm k,evalO tm x with
  |some a,some b,some v=>WH T s t a b v|_,_,_=>none
 |.insert t m k x=>match evalO tm m,evalO tm k,evalO tm x with
  |some a,some b,some v=>WH T s t a b v|_,_,_=>none
 |.mapEntry t m k=>match evalO tm m,evalO tm k with
  |some a,some b=>Et T s t a b|_,_=>none
 |.entryStore _ m st x=>match evalO tm m,evalO tm st,evalO tm x with
  |some a,some b,some v=>Lq s a b v|_,_,_=>none
 |.call c=>match c.callee with
  |.builtin .append=>match jP tm c.args.toList,c.argTypes.toList with
   |some [a,b],[t,xt]=>WS T s t xt a b|_,_=>none
  |.builtin .copy=>match jP tm c.args.toList,c.argTypes.toList with
   |some [a,b],t::_=>Kz T s t a b|_,_=>none
  |.builtin .delete=>match jP tm c.args.toList,c.argTypes.toList with
   |some [a,b],t::_=>DB T s t a b|_,_=>none
  |.builtin .clear=>match jP tm c.args.toList,c.argTypes.toList with
   |some [a],t::_=>WM T s t a|_,_=>none
  |_=>none
 |_=>none
def callOf(T:Tb)(tm:Z A)(op:Op):I (FuncId×Z A):=
 match op with
 |.call c=>match c.callee with
  |.value f=>match evalO tm f with
   |some (.func (.func g) first cap)=>match T.fn g with
    |some fn=>cond fn.body.isSome (match jP tm c.args.toList with
     |some args=>some (g,first.toList++args++cap.toList)|none=>none) none
    |none=>none
   |_=>none
  |_=>none
 |_=>none
abbrev E4:=FuncId->Z A->S->I (A×S)
def xG(T:Tb)(call:E4)(tm:Z A)(s:S)(op:Op):I (A×S):=
 match gT T tm op with
 |some v=>some (v,s)|none=>match mL T tm s op with
  |some v=>some (v,s)|none=>match qS T tm s op with
   |some r=>some r|none=>match callOf T tm op with
    |some (f,args)=>call f args s|none=>none
def yE(aA:Z Oper)(j:Nat):I Tmp:=match nth aA j with
 |some o=>o.dst|none=>none
def Lz(aA:Z Oper)(tm:Z A)(o:Oper):BQ :=
 match o.guard with
 |none=>true|some (j,want)=>match yE aA j with
  |none=>false|some d=>match nth tm d with
   |some (.bool b)=>b==want|_=>false
def A9(tm:Z A)(d:I Tmp)(v:A):Z A:=match d with
 |none=>tm|some d=>tm.set d v
def Ww(a b:Addr):BQ:=match a.spot,b.spot with
 |none,none=>cond (Nat.beq a.block b.block) (Nat.beq a.off b.off) false|_,_=>false
def R8:I Addr->I Addr->BQ
 |none,none=>true|some a,some b=>Ww a b
 |_,_=>false
def Kk:I Nat->I Nat->BQ
 |none,none=>true|some a,some b=>Nat.beq a b
 |_,_=>false
def v14:Fn->Fn->BQ
 |.func f,.func g=>Nat.beq f g|_,_=>false
mutual
def OY:A->A->BQ
 |.bool a,y=>match y with
  |.bool b=>a==b|_=>false
 |.int k a,y=>match y with
  |.int k' b=>cond (decide (k=k')) (decide (a=b)) false|_=>false
 |.string a,y=>match y with
  |.string b=>jZ a.data.toList b.data.toList|_=>false
 |.pointer p,y=>match y with
  |.pointer q=>R8 p q|_=>false
 |.slice p n c,y=>match y with
  |.slice q n' c'=>cond (R8 p q) (cond (Nat.beq n n') (Nat.beq c c') false) false|_=>false
 |.map p,y=>match y with
  |.map q=>Kk p q|_=>false
 |.nilFunc,y=>match y with
  |.nilFunc=>true|_=>false
 |.nilIface,y=>match y with
  |.nilIface=>true|_=>false
 |.func f ⟨a⟩ ⟨b⟩,y=>match y with
  |.func g ⟨c⟩ ⟨d⟩=>cond (v14 f g) (cond (Lf a c) (Lf b d) false) false|_=>false
 |.agg ⟨a⟩,y=>match y with
  |.agg ⟨b⟩=>Lf a b|_=>false
 |.tuple ⟨a⟩,y=>match y with
  |.tuple ⟨b⟩=>Lf a b|_=>false
 |_,_=>false
def Lf:Z A->Z A->BQ
 |[],y=>match y with
  |[]=>true|_=>false
 |a::x,y=>match y with
  |b::y=>cond (OY a b) (Lf x y) false|_=>false
end
abbrev Rec:=Z A×Oper×A×Nat×S×S
def px(T:Tb)(call:E4)(aA:Z Oper)(tm:Z A)(s:S)(o:Oper):I (A×Nat×S):=
 cond (Lz aA tm o)
  (match gT T tm o.op with
   |some v=>some (v,0,s)|none=>match mL T tm s o.op with
    |some v=>some (v,1,s)|none=>match xG T call tm s o.op with
     |some (v,s')=>some (v,2,s')|none=>none)
  (some (undef,0,s))
def z6b(T:Tb)(call:E4)(aA:Z Oper):Z Oper->Z A->S->I (Z Rec×Z A×S)
 |[],tm,s=>some ([],tm,s)|o::r,tm,s=>match px T call aA tm s o with
  |none=>none|some (v,k,s')=>match z6b T call aA r (A9 tm o.dst v) s' with
   |none=>none|some (l,tm',s'')=>some ((tm,o,v,k,s,s')::l,tm',s'')
def LL(aY:Z Nat):Z Edge->Nat
 |[]=>0|e::r=>cond (Region.binds .any e) ((2^e.on|||(match nth aY e.on with
  |some x=>x|none=>0))|||LL aY r) (LL aY r)
def dN:Z Oper->Z Nat->Z Nat
 |[],aY=>aY|o::r,aY=>dN r (aY++[LL aY o.after.toList])
def CE(i:Nat):Z Edge->BQ
 |[]=>true|e::r=>cond (Region.binds .any e) (cond (Nat.blt e.on i) (CE i r) false) (CE i r)
def tmpsOf:Z Jp->Z Tmp
 |[]=>[]|.tmp t::r=>t::tmpsOf r
 |_::r=>tmpsOf r
def LP(aA:Z Oper)(o:Oper):Z Tmp:=match o.guard with
 |none=>tmpsOf o.op.operands.toList|some (j,_)=>match yE aA j with
  |none=>tmpsOf o.op.operands.toList|some d=>d::tmpsOf o.op.operands.toList
def gl(lk:Z Tmp)(di:I Tmp)(i mi k mk:Nat)(dk:I Tmp):BQ:=match dk with
 |none=>true|some d=>cond (Nat.beq i k) true (cond (match di with |none=>false |some d'=>Nat.beq d d') false
   (cond (lk.any (Nat.beq d)) (cond (Nat.testBit mi k) true (Nat.testBit mk i)) true))
def rowOk(lk:Z Tmp)(di:I Tmp)(i mi:Nat):Z Oper->Z Nat->Nat->BQ
 |o::r,mk::ms,k=>cond (gl lk di i mi k mk o.dst) (rowOk lk di i mi r ms (k+1)) false|[],_,_=>true
 |_::_,[],_=>false
def Lc(aA:Z Oper)(ms:Z Nat):Z Oper->Z Nat->Nat->BQ
 |o::r,mi::mr,i=>cond (CE i o.after.toList) (cond (rowOk (LP aA o) o.dst i mi aA ms 0) (Lc aA ms r mr (i+1)) false) false|[],_,_=>true
 |_::_,[],_=>false
def qus(T:Tb)(tm:Z A)(op:Op)(v:A)(s:S):BQ:=match mL T tm s op with
 |some u=>OY u v|none=>false
def z68(T:Tb)(tm:Z A)(op:Op)(v:A)(i mi:Nat):Z Rec->Z Nat->Nat->BQ
 |(_,_,_,kd,s,s')::r,mk::ms,k=>cond (Nat.beq kd 2)
   (cond (Nat.blt k i) (cond (Nat.testBit mi k) true (qus T tm op v s)) (cond (Nat.testBit mk i) true (qus T tm op v s')))
   true&&z68 T tm op v i mi r ms (k+1)
 |[],_,_=>true|_::_,[],_=>false
def z4m(i mi:Nat):Z Rec->Nat->BQ
 |(_,_,_,kd,_,_)::r,k=>cond (Nat.blt k i) (cond (Nat.beq kd 2) (Nat.testBit mi k) true) true&&z4m i mi r (k+1)|[],_=>true
def z64(T:Tb)(rs:Z Rec)(ms:Z Nat):Z Rec->Z Nat->Nat->BQ
 |(tm,o,v,kd,_,_)::r,mi::mr,i=>cond (Nat.beq kd 0) true (cond (Nat.beq kd 1) (z68 T tm o.op v i mi rs ms 0) (z4m i mi rs 0))&&z64 T rs ms r mr (i+1)|[],_,_=>true
 |_::_,[],_=>false
def WY(aA:Z Oper):BQ:=Lc aA (dN aA []) aA (dN aA []) 0
def DS(T:Tb)(tm:Z A)(s:S):Z ResultVar->I (Z A)
 |[]=>some []|.tmp t::r=>match nth tm t with
  |some v=>match DS T tm s r with
   |some l=>some (v::l)|none=>none
  |none=>none
 |.cell a t::r=>match mL T tm s (.load t (.tmp a))with
  |some v=>match DS T tm s r with
   |some l=>some (v::l)|none=>none
  |none=>none
def DV:Z A->A
 |[v]=>v|l=>.tuple l.toArray
def pad:Nat->Z A->Z A
 |0,l=>l|n+1,[]=>undef::pad n []
 |n+1,v::l=>v::pad n l
def BP(P:Uz)(eqs:Z O):Tb where
 und t:=match nth P.types.toList t with
  |none=>none|some i=>match i.desc with
   |.named _ u=>match nth P.types.toList u with
    |some j=>some j.desc|none=>none
   |d=>some d
 inf t:=match nth P.types.toList t with
  |none=>none|some i=>match i.zero with
   |some z=>cond (plain z) (some (i.size,i.bytes,z)) none|none=>none
 fn f:=nth P.funcs.toList f
 eqs t:=eqs.any (Nat.beq t)
end Go.Rx
