import Derived.Calls
import Derived.Orders
import Derived.Below
import Derived.Laws.CopyRow
import Derived.KernelRfl
import Derived.Test.YtldlchbgolpkaaaGreatP1
set_option linter.all false
namespace Go.Rx
open Go
structure Nm where
 blk:Nat->Nat
 sh:Nat->Nat
 cp:Nat->Nat
def bY:Nat:=18446744073709551616
def bR(c:Nat):Nat:=c-bY
def bX(m:Nm)(i c:Nat):Nat:=if c<bY then c else m.cp i-bR c
mutual
def aI(m:Nm):M->M
 |.pointer (some a)=>.pointer (some ⟨m.blk a.block,m.sh a.block+a.off,none⟩)|.slice (some a) n c=>.slice (some ⟨m.blk a.block,m.sh a.block+a.off,none⟩) n (bX m a.block c)
 |.map (some r)=>.map (some (m.blk r))|.func fn first cap=>.func fn (E4 m first) (E4 m cap)
 |.iface t v=>.iface t (aI m v)|.agg cs=>.agg (E4 m cs)
 |.tuple cs=>.tuple (E4 m cs)|.bool b=>.bool b
 |.int k n=>.int k n|.float k n=>.float k n
 |.complex k a b=>.complex k a b|.string s=>.string s
 |.pointer none=>.pointer none|.slice none n c=>.slice none n c
 |.map none=>.map none|.chan (some r)=>.slice (some ⟨m.blk r,m.sh r,some (m.cp r)⟩) 0 0
 |.chan none=>.chan none|.nilFunc=>.nilFunc
 |.nilIface=>.nilIface
def E4(m:Nm):Array M->Array M
 |⟨l⟩=>⟨aJ m l⟩
def aJ(m:Nm):I M->I M
 |[]=>[]|v::l=>aI m v::aJ m l
end
def mY(m:Nm)(l:I M):aJ m l=l.map (aI m):=by induction l with|nil=>simp[aJ]|cons v l ih=>simp[aJ,ih]
def zce(m:Nm)(a:Array M):E4 m a=a.map (aI m):=by cases a;simp[E4,mY]
@[simp] def iJ(m:Nm)(l:I M):E4 m ⟨l⟩=⟨aJ m l⟩:=by simp[E4]
@[simp] def yK(m:Nm)(l:I M):(aJ m l).length=l.length:=by simp[mY]
@[simp] def EG(m:Nm)(a:Array M):(E4 m a).size=a.size:=by simp[zce]
@[simp] def lV(m:Nm)(a:Array M):(E4 m a).toList=aJ m a.toList:=by cases a;simp
def yJ(m:Nm)(a b:I M):aJ m (a++b)=aJ m a++aJ m b:=by simp[mY]
def qxq(m:Nm)(v:M):(aI m v).oneCell'=v.oneCell':=by
 cases v with
 |pointer a=>cases a<;>rfl|slice a n c=>cases a<;>rfl
 |map r=>cases r<;>rfl|chan r=>cases r<;>rfl
 |_=>rfl
def kp(m:Nm)(v:M):(aI m v).cells=E4 m v.cells:=by
 cases v with
 |pointer a=>cases a<;>simp[aI,Value.cells,aJ]|slice a n c=>cases a<;>simp[aI,Value.cells,aJ]
 |map r=>cases r<;>simp[aI,Value.cells,aJ]|chan r=>cases r<;>simp[aI,Value.cells,aJ]
 |_=>simp[aI,Value.cells,aJ]
abbrev Row:=I M×X×Nat
abbrev lU:=Row ⊕ (I MapEntry×Nat)
abbrev Hp:=I (Nat×lU)
def lk:Hp->Nat->V lU
 |[],_=>none|(j,b)::h,i=>cond (Nat.beq j i) (some b) (lk h i)
def up:Hp->Nat->lU->Hp
 |[],_,_=>[]|(j,b)::h,i,c=>cond (Nat.beq j i) ((j,c)::h) ((j,b)::up h i c)
def rm:Hp->Nat->Hp
 |[],_=>[]|(j,b)::h,i=>cond (Nat.beq j i) (rm h i) ((j,b)::rm h i)
def beq_eq(j i:Nat):Nat.beq j i=decide (j=i):=by rw[Bool.eq_iff_iff];simp[Nat.beq_eq]
def mZ(j:Nat)(b:lU)(h:Hp)(i:Nat):lk ((j,b)::h) i=if j=i then some b else lk h i:=by simp only[lk,beq_eq];by_cases e:j=i<;>simp[e]
def AK(h:Hp)(i:Nat)(c:lU)(j:Nat):lk (up h i c) j=if i=j then(lk h i).map (fun _=>c)else lk h j:=by induction h with|nil=>simp[up,lk]|cons x h ih=>have⟨k,b⟩:=x;simp[up,beq_eq];by_cases e:k=i;subst e;simp[yC,zC,mZ];by_cases e2:k=j<;>simp[e2];simp[e,yB,zD,mZ,ih];by_cases e2:i=j;subst e2;simp[e];by_cases e3:k=j<;>simp[e2,e3]
def zx(h:Hp)(i j:Nat):lk (rm h i) j=if i=j then none else lk h j:=by induction h with|nil=>simp[rm,lk]|cons x h ih=>have⟨k,b⟩:=x;simp[rm,beq_eq];by_cases e:k=i;subst e;simp[yC,zC,mZ,ih];by_cases e2:k=j<;>simp[e2];simp[e,yB,zD,mZ,ih];by_cases e2:i=j;subst e2;simp[e];by_cases e3:k=j<;>simp[e2,e3]
structure S where
 h:Hp
 nx:Nat
def fF(m:Nm)(e:MapEntry):MapEntry:={ key:=aI m e.key,val:=aI m e.val,born:=e.born }
def D5(m:Nm)(i:Nat)(l:I M)(e:X)(w:World):Nat->Prop
 |0=>m.sh i=0/\w.heap[m.blk i]? = some (.cells (aJ m l).toArray e (0,0))|1=>∃c e' fr,w.heap[m.blk i]? = some (.cells c e' fr)/\(∀k v,l[k]? = some v->c[m.sh i+k]? = some (aI m v))/\∀n,e=n+1->l.length<=m.cp i*n
 |n+2=>∃pre rest,w.heap[m.blk i]? = some (.cells (pre++aJ m l++rest).toArray e (0,0))/\pre.length=m.sh i/\l.length+rest.length=m.cp i*n
def yG(m:Nm)(i:Nat)(w:World):lU->Prop
 |.inl (l,e,md)=>D5 m i l e w md|.inr (es,clock)=>w.heap[m.blk i]? = some (.map (es.map (fF m)).toArray clock)
def Own:lU->Bool
 |.inl (_,_,1)=>false|_=>true
structure Fits(m:Nm)(s:S)(w:World):Prop where
 ok:∀i b,lk s.h i=some b->yG m i w b
 inj:∀i j b c,lk s.h i=some b->lk s.h j=some c->i≠j->Own b=true->m.blk i≠m.blk j
 bd:∀i b,lk s.h i=some b->i<s.nx
def aN(n:Nat)(m m':Nm):Prop:=∀i,i<n->m'.blk i=m.blk i/\m'.sh i=m.sh i/\m'.cp i=m.cp i
def aN.refl(n:Nat)(m:Nm):aN n m m:=fun _ _=>⟨rfl,rfl,rfl⟩
def aN.trans{n k:Nat}{a b c:Nm}(h:aN n a b)(h':aN k b c)(hk:n<=k):aN n a c:=fun i hi=>by
 have⟨a1,a2,a3⟩:=h i hi;have⟨b1,b2,b3⟩:=h' i (by omega);exact⟨b1.trans a1,b2.trans a2,b3.trans a3⟩
variable{n:Nat}
def aN.mono{k:Nat}{a b:Nm}(h:aN n a b)(hk:k<=n):aN k a b:=fun i hi=>h i (by omega)
def iA(m:Nm)(s:S)(w:World):Prop:=∀m',aN s.nx m m'->Fits m' s w
def fI(m:Nm)(n:Nat)(v cv:M):Prop:=∀m',aN n m m'->aI m' v=cv
def nZ(m:Nm)(n:Nat)(v cv:I M):Prop:=∀m',aN n m m'->aJ m' v=cv
variable{m:Nm}
variable{s:S}
variable{w:World}
def iA.fits(h:iA m s w):Fits m s w:=h m (aN.refl _ _)
def fI.at{v cv:M}(h:fI m n v cv):aI m v=cv:=h m (aN.refl _ _)
def nZ.at{v cv:I M}(h:nZ m n v cv):aJ m v=cv:=h m (aN.refl _ _)
def fI.ext{m':Nm}{n':Nat}{v cv:M}(h:fI m n v cv)(ha:aN n m m')(hn:n<=n'):fI m' n' v cv :=
 fun k hk=>h k (ha.trans hk hn)
def nZ.ext{m':Nm}{n':Nat}{v cv:I M}(h:nZ m n v cv)(ha:aN n m m')(hn:n<=n'):nZ m' n' v cv :=
 fun k hk=>h k (ha.trans hk hn)
def RC(m:Nm)(s:S)(b:Nat):Prop:=∃i c,lk s.h i=some c/\Own c=true/\m.blk i=b
structure bQ(m:Nm)(s:S)(w:World)(aH:Nm)(bJ:S)(w₁:World):Prop where
 agree:aN s.nx m aH
 nx:s.nx<=bJ.nx
 fits:iA aH bJ w₁
 own:∀b,RC aH bJ b->RC m s b\/w.heap.size<=b
 same:∀b,b<w.heap.size->¬ RC m s b->w₁.heap[b]? = w.heap[b]?
 size:w.heap.size<=w₁.heap.size
 os:w₁.os=w.os
 tape:w₁.tape=w.tape
 output:w₁.output=w.output
def bQ.refl{m:Nm}{s:S}{w:World}(h:iA m s w):bQ m s w m s w :=
 ⟨aN.refl _ _,zF _,h,fun _ h=>.inl h,fun _ _ _=>rfl,zF _,rfl,rfl,rfl⟩
def bQ.trans{m aH FA:Nm}{s bJ Nw:S}{w w₁ oA:World}(h:bQ m s w aH bJ w₁)(k:bQ aH bJ w₁ FA Nw oA):bQ m s w FA Nw oA:=by
 refine⟨h.agree.trans k.agree h.nx,Nat.le_trans h.nx k.nx,k.fits,fun b hb=>?_,fun b hb hn=>?_,Nat.le_trans h.size k.size,k.os.trans h.os,k.tape.trans h.tape,k.output.trans h.output⟩;rcases k.own b hb with h1 |h1;exact h.own b h1;exact .inr (Nat.le_trans h.size h1);have h1:¬ RC aH bJ b:=fun ho=>by rcases h.own b ho with h2 |h2;exact hn h2;omega
 rw[k.same b (Nat.lt_of_lt_of_le hb h.size) h1,h.same b hb hn]
def bQ.below{aH:Nm}{bJ:S}{w₁:World}(h:bQ m s w aH bJ w₁)(hs:∀b,¬ RC m s b):RowKit.Below w.heap.size w w₁ :=
 ⟨h.os,h.tape,h.output,h.size,fun k hk=>h.same k hk (hs k)⟩
def Fits.size{m:Nm}{s:S}{w:World}(h:Fits m s w){i:Nat}{b:lU}(hb:lk s.h i=some b):m.blk i<w.heap.size:=by have:=h.ok i b hb;rcases Nat.lt_or_ge (m.blk i) w.heap.size with hl |hg;exact hl;exfalso;rcases b with⟨l,e,md⟩|⟨es,clock⟩;rcases md with _ |_ |n;simp[yG,D5,Array.getElem?_eq_none hg]at this;simp[yG,D5,Array.getElem?_eq_none hg]at this;simp[yG,D5,Array.getElem?_eq_none hg]at this;simp[yG,Array.getElem?_eq_none hg]at this
def vk(n:Nat)(h:iA m s w):iA m s { w with drawn:=n }:=fun m' ha=>by
 have⟨h1,h2,h3⟩:=h m' ha;refine⟨fun i b hb=>?_,h2,h3⟩;have:=h1 i b hb;rcases b with⟨l,e,md⟩|⟨es,clock⟩;rcases md with _ |_ |n<;>exact this;exact this
def bQ.draw(n:Nat)(h:iA m s w):bQ m s w m s { w with drawn:=n }:=
 ⟨aN.refl _ _,zF _,vk n h,fun _ h=>.inl h,fun _ _ _=>rfl,zF _,rfl,rfl,rfl⟩
def Nm.set(m:Nm)(i b sh cp:Nat):Nm :=
 { blk:=fun j=>if j=i then b else m.blk j,sh:=fun j=>if j=i then sh else m.sh j,cp:=fun j=>if j=i then cp else m.cp j }
def Nm.agree_set(m:Nm)(i b sh cp:Nat):aN i m (m.set i b sh cp):=fun j hj=>by
 simp[Nm.set,show j≠i by omega]
def yG.world{i:Nat}{w':World}{b:lU}(h:yG m i w b)(hw:w'.heap[m.blk i]? = w.heap[m.blk i]?):yG m i w' b:=by rcases b with⟨l,e,md⟩|⟨es,clock⟩;rcases md with _ |_ |n<;>(simp[yG,D5]at*;rw[hw];exact h);simp[yG]at*;rw[hw];exact h
def bQ.alloc{m:Nm}{s:S}{w:World}(h:iA m s w)(o:Obj)(b:lU)(cp:Nat)
  (hb:∀m',aN (s.nx+1) (m.set s.nx w.heap.size 0 cp) m'->yG m' s.nx (w.alloc o) b):
  bQ m s w (m.set s.nx w.heap.size 0 cp) ⟨(s.nx,b)::s.h,s.nx+1⟩ (w.alloc o):=by
 have lJ:∀k,k<w.heap.size->(w.alloc o).heap[k]? = w.heap[k]?:=fun k hk=>RowKit.Below.heap_alloc w o k hk;refine⟨Nm.agree_set m _ _ _ _,Nat.le_succ _,?_,?_,fun b hb _=>lJ b hb,by simp,rfl,rfl,rfl⟩;intro m' ha;have tT:aN s.nx m m':=(Nm.agree_set m s.nx w.heap.size 0 cp).trans ha (Nat.le_succ _);have hf:=h m' tT;have iB:m'.blk s.nx=w.heap.size:=by have:=(ha s.nx (zN _)).1;simpa[Nm.set]using this
 refine⟨fun i c hc=>?_,fun i j c d hc hd m7 ho=>?_,fun i c hc=>?_⟩;simp[mZ]at hc;by_cases e:s.nx=i;subst e;simp[if_true,zA]at hc;subst hc;exact hb m' ha;simp[e,if_false]at hc;exact(hf.ok i c hc).world (lJ _ (hf.size hc));simp[mZ]at hc hd;by_cases e:s.nx=i;subst e;have hj:s.nx≠j:=m7;simp[hj,if_false]at hd;have:=hf.size hd;omega;simp[e,if_false]at hc;by_cases e2:s.nx=j;subst e2;have:=hf.size hc;omega;simp[e2,if_false]at hd;exact hf.inj i j c d hc hd m7 ho;simp[mZ]at hc;by_cases e:s.nx=i;subst e;exact zN _;simp[e,if_false]at hc;exact Nat.lt_succ_of_lt (hf.bd i c hc);rintro b ⟨i,c,hc,ho,rfl⟩;simp[mZ]at hc;by_cases e:s.nx=i;subst e;right;simp[Nm.set];simp[e,if_false]at hc;left;refine⟨i,c,hc,ho,?_⟩;have:=h.fits.bd i c hc;simp[Nm.set,show i≠s.nx by omega]
def bQ.write{w':World}(h:iA m s w){i:Nat}{b c:lU}(hb:lk s.h i=some b)(NB:Own b=true)
  (hw:∀k,k≠m.blk i->w'.heap[k]? = w.heap[k]?) (dS:w'.heap.size=w.heap.size) (h1:w'.os=w.os) (h2:w'.tape=w.tape) (h3:w'.output=w.output) (_h4:w.drawn<=w'.drawn) (hc:∀m',aN s.nx m m'->yG m' i w' c):
  bQ m s w m ⟨up s.h i c,s.nx⟩ w':=by
 refine⟨aN.refl _ _,zF _,?_,?_,?_,by omega,h1,h2,h3⟩;intro m' ha;have hf:=h m' ha;have A0:m'.blk i=m.blk i:=(ha i (hf.bd i b hb)).1;refine⟨fun j d hd=>?_,fun j k d e hd he nQ ho=>?_,fun j d hd=>?_⟩;simp[AK]at hd;by_cases e:i=j;subst e;simp[if_true,hb,zM,zA]at hd;subst hd;exact hc m' ha;simp[e,if_false]at hd;refine(hf.ok j d hd).world (hw _ ?_);rw[<-A0];exact fun x=>hf.inj i j b d hb hd e NB x.symm;have key:∀j d,lk (up s.h i c) j=some d->∃d',lk s.h j=some d'/\(Own d=true->Own d'=true):=fun j d hd=>by simp[AK]at hd;by_cases e:i=j;subst e;exact⟨b,hb,fun _=>NB⟩;simp[e,if_false]at hd;exact⟨d,hd,id⟩
 have⟨d',bG,od⟩:=key j d hd;have⟨e',NI,_⟩:=key k e he;exact hf.inj j k d' e' bG NI nQ (od ho);simp[AK]at hd;by_cases e:i=j;subst e;exact hf.bd i b hb;simp[e,if_false]at hd;exact hf.bd j d hd;rintro k ⟨j,d,hd,ho,rfl⟩;left;simp[AK]at hd;by_cases e:i=j;subst e;exact⟨i,b,hb,NB,rfl⟩;simp[e,if_false]at hd;exact⟨j,d,hd,ho,rfl⟩;intro k hk hn;exact hw k fun e=>hn ⟨i,b,hb,NB,e.symm⟩
def bQ.forget(h:iA m s w)(i:Nat):bQ m s w m ⟨rm s.h i,s.nx⟩ w:=by
 have key:∀j d,lk (rm s.h i) j=some d->lk s.h j=some d:=fun j d hd=>by simp[zx]at hd;by_cases e:i=j;simp[e]at hd;simpa[e]using hd
 refine⟨aN.refl _ _,zF _,fun m' ha=>?_,?_,fun _ _ _=>rfl,zF _,rfl,rfl,rfl⟩;have hf:=h m' ha;exact⟨fun j d hd=>hf.ok j d (key j d hd),fun j k d e hd he=>hf.inj j k d e (key j d hd) (key k e he),fun j d hd=>hf.bd j d (key j d hd)⟩;rintro k ⟨j,d,hd,ho,rfl⟩;exact .inl ⟨j,d,key j d hd,ho,rfl⟩
structure Tb where
 und:X->V TypeDesc
 inf:X->V (Nat×Nat×M)
 fn:FuncId->V Func
 eqs:X->Bool
mutual
def plain:M->Bool
 |.bool _=>true|.int _ _=>true
 |.string _=>true|.pointer none=>true
 |.slice none _ _=>true|.map none=>true
 |.nilFunc=>true|.nilIface=>true
 |.agg ⟨l⟩=>SJ l|.tuple ⟨l⟩=>SJ l
 |_=>false
def SJ:I M->Bool
 |[]=>true|v::l=>cond (plain v) (SJ l) false
end
def nth{v11:Type}:I v11->Nat->V v11
 |[],_=>none|a::_,0=>some a
 |_::l,n+1=>nth l n
def IR:I M->Nat->V (I M)
 |_,0=>some []|[],_+1=>none
 |v::l,n+1=>match IR l n with
  |some r=>some (v::r)|none=>none
def xA(l:I M)(off n:Nat):V (I M):=IR (l.drop off) n
def GB:I M->I M->V (I M)
 |l,[]=>some l|[],_::_=>none
 |_::l,v::vs=>match GB l vs with
  |some r=>some (v::r)|none=>none
def uC:I M->Nat->I M->V (I M)
 |l,0,vs=>GB l vs|[],_+1,_=>none
 |x::l,n+1,vs=>match uC l n vs with
  |some r=>some (x::r)|none=>none
def evalO(tm:I M):Operand->V M
 |.tmp t=>nth tm t|.const v=>cond (plain v) (some v) none
 |.func f=>some (.func (.func f) #[] #[])|.global _=>none
def kS(tm:I M):I Operand->V (I M)
 |[]=>some []|x::l=>match evalO tm x with
  |some v=>match kS tm l with
   |some r=>some (v::r)|none=>none
  |none=>none
def IU(tm:I M):I (Nat×Operand)->V (I (Nat×M))
 |[]=>some []|(i,x)::l=>match evalO tm x with
  |some v=>match IU tm l with
   |some r=>some ((i,v)::r)|none=>none
  |none=>none
def sD(tm:I M):V Operand->V (V M)
 |none=>some none|some x=>match evalO tm x with
  |some v=>some (some v)|none=>none
def sE:TypeDesc->Bool
 |.struct _=>true|.array _ _=>true
 |_=>false
def cO(T:Tb)(t:X):V Nat:=match T.inf t with
 |some (n,_,_)=>some n|none=>none
def GP(T:Tb)(t:X)(cs:I M)(off:Nat):V M :=
 match T.und t with
 |none=>none|some d=>cond (sE d) (match cO T t with
   |some n=>some (.agg ((cs.drop off).take n).toArray)|none=>none) (nth cs off)
def lQ:I UInt8->I UInt8->Bool
 |[],[]=>true|a::x,b::y=>cond (Nat.beq a.toNat b.toNat) (lQ x y) false
 |_,_=>false
def kT:I UInt8->I UInt8->Bool
 |_,[]=>false|[],_::_=>true
 |a::x,b::y=>cond (Nat.blt a.toNat b.toNat) true (cond (Nat.beq a.toNat b.toNat) (kT x y) false)
def G1(T:Tb)(E:X->M->M->V Bool)(xs ys:I M):I Field->V Bool
 |[]=>some true|f::fs=>
  if f.name ≠ "_" then
   match GP T f.type xs f.offset with
   |none=>none|some a=>match GP T f.type ys f.offset with
    |none=>none|some b=>match E f.type a b with
     |none=>none|some false=>some false
     |some true=>G1 T E xs ys fs
  else G1 T E xs ys fs
def eqv(T:Tb):Nat->X->M->M->V Bool
 |0,_,_,_=>none|d+1,t,x,y=>
  match T.und t with
  |some .bool=>match x,y with
   |.bool a,.bool b=>some (a==b)|_,_=>none
  |some (.int _)=>match x,y with
   |.int k a,.int k' b=>if k=k' then some (a==b)else none|_,_=>none
  |some .string=>match x,y with
   |.string a,.string b=>some (lQ a.data.toList b.data.toList)|_,_=>none
  |some (.pointer _)=>match x,y with
   |.pointer none,.pointer none=>some true|.pointer none,.pointer (some _)=>some false
   |.pointer (some _),.pointer none=>some false|_,_=>none
  |some (.slice _)=>match x,y with
   |.slice none _ _,.slice none _ _=>some true|.slice none _ _,.slice (some _) _ _=>some false
   |.slice (some _) _ _,.slice none _ _=>some false|.chan (some _),.slice none _ _=>some false
   |_,_=>none
  |some (.map _ _)=>match x,y with
   |.map none,.map none=>some true|.map none,.map (some _)=>some false
   |.map (some _),.map none=>some false|_,_=>none
  |some (.struct fs)=>match x,y with
   |.agg xs,.agg ys=>cond (T.eqs t) (G1 T (eqv T d) xs.toList ys.toList fs.toList) none|_,_=>none
  |_=>none
def kR(op:BinOp)(k:IntKind)(a:Int)(k':IntKind)(b:Int):V M :=
 match op with
 |.shl=>if b<0 then none else some (.int k (k.wrap (a*2^(min b.toNat k.bits))))|.shr=>if b<0 then none else some (.int k (a.fdiv (2^(min b.toNat k.bits))))
 |_=>
  if k≠k' then none else
  match op with
  |.add=>some (.int k (k.wrap (a+b)))|.sub=>some (.int k (k.wrap (a-b)))
  |.mul=>some (.int k (k.wrap (a*b)))|.quo=>if b=0 then none else some (.int k (k.wrap (a.tdiv b)))
  |.rem=>if b=0 then none else some (.int k (a.tmod b))|.and=>some (.int k (k.wrap (BitVec.ofInt k.bits a&&&BitVec.ofInt k.bits b).toNat))
  |.or=>some (.int k (k.wrap (BitVec.ofInt k.bits a|||BitVec.ofInt k.bits b).toNat))|.xor=>some (.int k (k.wrap (BitVec.ofInt k.bits a^^^BitVec.ofInt k.bits b).toNat))
  |.andNot=>some (.int k (k.wrap (BitVec.ofInt k.bits a &&& ~~~ BitVec.ofInt k.bits b).toNat))|.eql=>some (.bool (a==b))
  |.neq=>some (.bool (a != b))|.lss=>some (.bool (decide (a<b)))
  |.leq=>some (.bool (decide (a<=b)))|.gtr=>some (.bool (decide (a>b)))
  |.geq=>some (.bool (decide (a>=b)))|_=>none
def IM(op:BinOp)(x y:ByteArray):V M :=
 let a:=x.data.toList
 let b:=y.data.toList
 match op with
 |.add=>if((a.length+b.length:Nat):Int)>9223372036854775807 then none else some (.string ⟨(a++b).toArray⟩)|.eql=>some (.bool (lQ a b))
 |.neq=>some (.bool (!lQ a b))|.lss=>some (.bool (kT a b))
 |.leq=>some (.bool (kT a b||lQ a b))|.gtr=>some (.bool (!(kT a b||lQ a b)))
 |.geq=>some (.bool (!kT a b))|_=>none
def wJ(T:Tb)(t:X):M->M->Bool
 |.nilIface,.nilIface=>false|.agg _,.agg _=>T.eqs t
 |_,_=>true
def qK(T:Tb)(op:BinOp)(t:X)(x y:M):V M :=
 match x,y with
 |.int k a,.int k' b=>kR op k a k' b|.string a,.string b=>IM op a b
 |x,y=>match op with
  |.eql=>cond (wJ T t x y) (match eqv T 50 t x y with
   |some b=>some (.bool b)|none=>none) none
  |.neq=>cond (wJ T t x y) (match eqv T 50 t x y with
   |some b=>some (.bool (!b))|none=>none) none
  |_=>none
def RP:UnOp->M->V M
 |.neg,.int k n=>some (.int k (k.wrap (0-n)))|.not,.bool b=>some (.bool (!b))
 |.xor,.int k n=>some (.int k (k.wrap (BitVec.ofInt k.bits (if k.signed then -1 else k.max)^^^BitVec.ofInt k.bits n).toNat))|_,_=>none
def convX(T:Tb)(src dst:X)(x:M):V M :=
 match T.und src,T.und dst,x with
 |some _,some (.int k),.int _ n=>some (.int k (k.wrap n))|some _,some .string,.string s=>some (.string s)
 |_,_,_=>none
def EO(place:Nat->V (Nat×Nat))(cells:I M):I (Nat×M)->V (I M)
 |[]=>some cells|(i,v)::rest=>match place i with
  |none=>none|some (off,size)=>cond (Nat.beq v.cells.toList.length size) (match uC cells off v.cells.toList with
   |some c=>EO place c rest|none=>none) none
def MD(T:Tb)(fs:I Field)(i:Nat):V (Nat×Nat):=
 match nth fs i with
 |none=>none|some f=>match cO T f.type with
  |none=>none|some n=>some (f.offset,n)
def J0(T:Tb):I Field->Bool
 |[]=>true|f::fs=>match cO T f.type with
  |some _=>J0 T fs|none=>false
def Ot(T:Tb)(t:X)(ps:I (Nat×M)):V M :=
 match T.inf t with
 |none=>none|some (_,_,z)=>match T.und t with
  |some (.struct fs)=>cond (J0 T fs.toList) (match EO (MD T fs.toList) z.cells.toList ps with
   |some cs=>some (.agg cs.toArray)|none=>none) none
  |some (.array _ e)=>match cO T e with
   |none=>none|some n=>match EO (fun i=>some (i*n,n)) z.cells.toList ps with
    |some cs=>some (.agg cs.toArray)|none=>none
  |_=>none
def Pw(T:Tb)(st:X)(x:M)(f:Nat):V M :=
 match T.und st with
 |some (.struct fs)=>match nth fs.toList f with
  |some fd=>match x with
   |.pointer (some a)=>match cO T fd.type with
    |some (_+1)=>some (.pointer (some ⟨a.block,a.off+fd.offset,none⟩))|_=>none
   |_=>none
  |none=>none
 |_=>none
def Om(T:Tb)(st:X)(x:M)(f:Nat):V M :=
 match T.und st with
 |some (.struct fs)=>match nth fs.toList f with
  |some fd=>match x with
   |.agg cs=>GP T fd.type cs.toList fd.offset|_=>none
  |none=>none
 |_=>none
def sH(i:Int)(n:Nat):Bool:=match i with
 |.ofNat k=>Nat.blt k n|.negSucc _=>false
def Pp(T:Tb)(t:X)(x ix:M):V M :=
 match ix with
 |.int _ i=>match T.und t,x with
  |some (.array n e),.pointer (some a)=>cond (sH i n) (match cO T e with
   |some sz=>some (.pointer (some ⟨a.block,a.off+i.toNat*sz,none⟩))|none=>none) none
  |some (.slice e),.slice (some a) n _=>cond (sH i n) (match cO T e with
   |some sz=>some (.pointer (some ⟨a.block,a.off+i.toNat*sz,none⟩))|none=>none) none
  |_,_=>none
 |_=>none
def YB(T:Tb)(t:X)(x ix:M):V M :=
 match ix with
 |.int _ i=>match T.und t,x with
  |some (.array n e),.agg cs=>cond (sH i n) (match cO T e with
   |some sz=>GP T e cs.toList (i.toNat*sz)|none=>none) none
  |some .string,.string s=>cond (sH i s.data.toList.length) (match nth s.data.toList i.toNat with
   |some b=>some (.int .u8 b.toNat)|none=>none) none
  |_,_=>none
 |_=>none
def Hg(x:M)(i:Nat):V M:=match x with
 |.tuple vs=>nth vs.toList i|_=>none
def FE(T:Tb)(t:X)(x:M):V M :=
 match T.und t,x with
 |some .string,.string s=>some (.int .i64 s.data.toList.length)|some (.slice _),.slice _ n _=>some (.int .i64 n)
 |some (.slice _),.chan (some _)=>some (.int .i64 0)|some (.array n _),_=>some (.int .i64 n)
 |_,_=>none
def LH(T:Tb)(t:X)(x:M):V M :=
 match T.und t,x with
 |some (.slice _),.slice none _ c=>some (.int .i64 c)|some (.slice _),.slice (some _) _ c=>cond (Nat.blt c bY) (some (.int .i64 c)) none
 |some (.slice _),.chan (some _)=>some (.int .i64 0)|_,_=>none
def SG:M->M->V M
 |.int k x,.int _ y=>some (.int k (if y>x then y else x))|_,_=>none
def SF:M->M->V M
 |.int k x,.int _ y=>some (.int k (if y<x then y else x))|_,_=>none
def yE(f:M->M->V M):M->I M->V M
 |x,[]=>some x|x,y::l=>match f x y with
  |some z=>yE f z l|none=>none
def jY(v:M)(y:Nat):V Nat:=match v with
 |.int _ i=>cond (sH i (y+1)) (some i.toNat) none|_=>none
def i7(len cap:Nat)(lo hi mx:V M):V (Nat×Nat×Nat):=
 match (match mx with |some v=>jY v cap |none=>some cap)with
 |none=>none|some m=>match (match hi with |some v=>jY v m |none=>(match mx with |some _=>none |none=>some len))with
  |none=>none|some h=>match (match lo with |some v=>jY v h |none=>some 0)with
   |none=>none|some l=>some (l,h,m)
def emptyS(T:Tb)(e:X)(a:V Addr)(n c:Nat)(lo hi mx:V M):V M:=match a with
 |none=>none|some a=>match n with
  |_+1=>none|0=>match i7 0 0 lo hi mx with
   |some (0,0,0)=>(match cO T e with
    |some _=>some (.slice (some a) 0 (match mx with |some _=>0 |none=>c))|none=>none)
   |_=>none
def o5(T:Tb)(t:X)(x:M)(lo hi mx:V M):V M :=
 match T.und t,x with
 |some .string,.string s=>match mx with
  |some _=>none|none=>match i7 s.data.toList.length s.data.toList.length lo hi none with
   |some (l,h,_)=>some (.string ⟨((s.data.toList.take h).drop l).toArray⟩)|none=>none
 |some (.slice e),.slice a n c=>cond (Nat.blt c bY) (match i7 n c lo hi mx with
   |some (l,h,m)=>match cO T e with
    |some sz=>some (.slice (cond (Nat.beq m l) a (match a with
      |some a=>some ⟨a.block,a.off+l*sz,none⟩|none=>none)) (h-l) (m-l))
    |none=>none
   |none=>none) (emptyS T e a n c lo hi mx)
 |some (.slice e),.chan (some r)=>match i7 0 0 lo hi mx with
   |some _=>(match cO T e with
    |some _=>some (.chan (some r))|none=>none)
   |none=>none
 |some (.array n e),.pointer (some a)=>match i7 n n lo hi mx with
   |some (l,h,m)=>match cO T e with
    |some sz=>cond (Nat.blt n bY) (some (.slice (some (cond (Nat.beq m l) ⟨a.block,a.off,none⟩ ⟨a.block,a.off+l*sz,none⟩)) (h-l) (m-l))) none|none=>none
   |none=>none
 |_,_=>none
def iZ(T:Tb)(tm:I M)(op:Op):V M :=
 match op with
 |.move x=>evalO tm x|.assign x=>evalO tm x
 |.pick c a b=>match evalO tm c with
  |some (.bool true)=>evalO tm a|some (.bool false)=>evalO tm b
  |_=>none
 |.build t ps=>match IU tm ps.toList with
  |some qs=>Ot T t qs|none=>none
 |.nilCheck x=>match evalO tm x with
  |some (.pointer (some a))=>some (.pointer (some a))|some (.func (.func f) a b)=>some (.func (.func f) a b)
  |_=>none
 |.binOp op t x y _=>match evalO tm x,evalO tm y with
  |some a,some b=>qK T op t a b|_,_=>none
 |.unOp op _ x=>match evalO tm x with
  |some a=>RP op a|none=>none
 |.convert s d x=>match evalO tm x with
  |some a=>convX T s d a|none=>none
 |.makeFunc fn first cap=>match kS tm first.toList,kS tm cap.toList with
  |some a,some b=>some (.func fn a.toArray b.toArray)|_,_=>none
 |.slice t x lo hi mx=>match evalO tm x,sD tm lo,sD tm hi,sD tm mx with
  |some a,some l,some h,some m=>o5 T t a l h m|_,_,_,_=>none
 |.fieldAddr t x f=>match evalO tm x with
  |some a=>Pw T t a f|none=>none
 |.field t x f=>match evalO tm x with
  |some a=>Om T t a f|none=>none
 |.indexAddr t x i=>match evalO tm x,evalO tm i with
  |some a,some b=>Pp T t a b|_,_=>none
 |.index t x i=>match evalO tm x,evalO tm i with
  |some a,some b=>YB T t a b|_,_=>none
 |.extract x i=>match evalO tm x with
  |some a=>Hg a i|none=>none
 |.call c=>match c.callee with
  |.builtin .len=>match kS tm c.args.toList,c.argTypes.toList with
   |some [x],t::_=>FE T t x|_,_=>none
  |.builtin .cap=>match kS tm c.args.toList,c.argTypes.toList with
   |some [x],t::_=>LH T t x|_,_=>none
  |.builtin .max=>match kS tm c.args.toList with
   |some (x::l)=>yE SG x l|_=>none
  |.builtin .min=>match kS tm c.args.toList with
   |some (x::l)=>yE SF x l|_=>none
  |_=>none
 |_=>none
def rE(T:Tb)(kt:X)(k:M):I MapEntry->Nat->V (V (Nat×M))
 |[],_=>some none|e::es,i=>match eqv T 50 kt k e.key with
  |some true=>some (some (i,e.val))|some false=>rE T kt k es (i+1)
  |none=>none
def Ls(T:Tb)(K:X->M->Bool)(cs:I M):I Field->Bool
 |[]=>true|f::fs=>
  if f.name ≠ "_" then
   match GP T f.type cs f.offset with
   |none=>false|some v=>cond (K f.type v) (Ls T K cs fs) false
  else Ls T K cs fs
def pA(T:Tb):Nat->X->M->Bool
 |0,_,_=>false|d+1,t,v=>match T.und t with
  |some (.int _)=>true|some .string=>true
  |some .bool=>true|some (.struct fs)=>match v with
   |.agg cs=>Ls T (pA T d) cs.toList fs.toList|_=>false
  |_=>false
def EA(E:M->M->Bool):I M->I M->Bool
 |[],[]=>true|a::x,b::y=>cond (E a b) (EA E x y) false
 |_,_=>false
def AF:Nat->M->M->Bool
 |0,_,_=>false|d+1,x,y=>match x,y with
  |.int k a,.int k' b=>cond (decide (k=k')) (decide (a=b)) false|.bool a,.bool b=>a==b
  |.string a,.string b=>lQ a.data.toList b.data.toList|.agg a,.agg b=>EA (AF d) a.toList b.toList
  |_,_=>false
def cW(s:S)(i:Nat):V Row:=match lk s.h i with
 |some (.inl (_,_,1))=>none|some (.inl (l,e,0))=>some (l,e,0)
 |some (.inl (l,e,n+2))=>some (l,e,n+2)|_=>none
def EQ(s:S)(i sz:Nat):V (I M):=match lk s.h i with
 |some (.inl (l,e,1))=>cond (Nat.beq e (sz+1)) (some l) none|some (.inl (l,_,n+2))=>cond (Nat.beq n sz) (some l) none
 |_=>none
def GT(T:Tb)(s:S)(t:X)(x:M)(lo hi mx:V M):V M :=
 match T.und t,x with
 |some (.slice e),.slice (some a) n c=>cond (Nat.blt c bY) none (match cO T e with
  |none=>none|some sz=>match EQ s a.block sz with
   |some l=>(cond (Nat.beq a.off (bR c*sz)) (cond (Nat.blt 0 sz)
    (match mx with
     |some v=>match jY v ((l.length-a.off)/sz)with
      |none=>none|some m=>cond (Nat.ble (a.off+m*sz) l.length) (match i7 n m lo hi (some v)with
       |some (l1,h,m)=>cond (Nat.blt m bY) (some (.slice (some (cond (Nat.beq m l1) ⟨a.block,a.off,none⟩ ⟨a.block,a.off+l1*sz,none⟩)) (h-l1) (m-l1))) none|none=>none) none
     |none=>match i7 n ((l.length-a.off)/sz) lo hi none with
      |none=>none|some (l1,h,_)=>cond (Nat.ble (a.off+h*sz) l.length)
       (match l1 with
        |0=>some (.slice (some ⟨a.block,a.off,none⟩) h c)|l1+1=>cond (Nat.blt (l1+1) h) (some (.slice (some ⟨a.block,a.off+(l1+1)*sz,none⟩) (h-(l1+1)) (c+(l1+1)))) none) none) none) none)
   |none=>none)
 |_,_=>none
def o3(T:Tb)(tm:I M)(s:S)(op:Op):V M :=
 match op with
 |.load t x=>match evalO tm x with
  |some (.pointer (some a))=>match lk s.h a.block with
   |some (.inl (l,_,_))=>match T.und t with
    |none=>none|some d=>cond (sE d) (match cO T t with
      |some n=>match xA l a.off n with
       |some cs=>some (.agg cs.toArray)|none=>none
      |none=>none) (nth l a.off)
   |_=>none
  |_=>none
 |.slice t x lo hi mx=>match evalO tm x,sD tm lo,sD tm hi,sD tm mx with
  |some a,some l,some h,some m=>GT T s t a l h m|_,_,_,_=>none
 |.lookup t x k ok=>match T.und t,evalO tm x,evalO tm k with
  |some (.map kt et),some (.map r),some kv=>cond (pA T 50 kt kv)
   (match (match r with
     |none=>some []|some r=>match lk s.h r with
      |some (.inr (es,_))=>some es|_=>none)with
    |none=>none|some es=>match rE T kt kv es 0 with
     |none=>none|some (some (_,v))=>some (cond ok (.tuple #[v,.bool true]) v)
     |some none=>match T.inf et with
      |some (_,_,z)=>some (cond ok (.tuple #[z,.bool false]) z)|none=>none) none
  |_,_,_=>none
 |.call c=>match c.callee with
  |.builtin .len=>match kS tm c.args.toList,c.argTypes.toList with
   |some [.map r],t::_=>match T.und t with
    |some (.map _ _)=>match r with
     |none=>some (.int .i64 0)|some r=>match lk s.h r with
      |some (.inr (es,_))=>some (.int .i64 es.length)|_=>none
    |_=>none
   |_,_=>none
  |_=>none
 |_=>none
def newRow(s:S)(l:I M)(e:X)(md:Nat):S:=⟨(s.nx,.inl (l,e,md))::s.h,s.nx+1⟩
def cC(z:I M):Nat->I M
 |0=>[]|n+1=>z++cC z n
def tD:I M->Bool
 |[]=>true|v::l=>cond v.oneCell' (tD l) false
def pS(s:S)(b:V Addr)(n:Nat):V (I M):=match n with
 |0=>some []|n+1=>match b with
  |none=>none|some a=>match lk s.h a.block with
   |some (.inl (l,_,_))=>xA l a.off (n+1)|_=>none
def y9(need by_:Nat):Bool:=cond (Nat.ble (need*by_) 140737488355328) (Nat.ble need 140737488355328) false
def Y2(s:S)(e:X)(sz by_:Nat)(z:M)(base:V Addr)(n c k:Nat)(new:I M):V (M×S):=
 cond (Nat.blt c bY) (cond (Nat.ble (n+k) c)
   (match base with
    |none=>none|some a=>match cW s a.block with
     |some (l,e',md)=>match uC l (a.off+n*sz) new with
      |some l'=>some (.slice (some ⟨a.block,a.off,none⟩) (n+k) c,⟨up s.h a.block (.inl (l',e',md)),s.nx⟩)|none=>none
     |none=>none)
   (match pS s base (n*sz)with
    |some old=>cond (y9 (n+k) by_) (cond (Nat.beq z.cells.toList.length sz)
      (some (.slice (some ⟨s.nx,0,none⟩) (n+k) bY,newRow s (old++new) e (sz+2))) none) none
    |none=>none))
  (match base with
   |none=>none|some a=>match cW s a.block with
    |some (l,e',md)=>cond (Nat.beq md (sz+2)) (cond (Nat.beq e' e) (cond (Nat.beq a.off (bR c*sz)) (cond (y9 (n+k) by_) (cond (Nat.beq z.cells.toList.length sz)
      (match xA l a.off (n*sz)with
       |some p=>some (.slice (some ⟨s.nx,0,none⟩) (n+k) bY,⟨(s.nx,.inl (p++new,e,sz+2))::rm s.h a.block,s.nx+1⟩)|none=>none) none) none) none) none) none
    |none=>none)
def xM(T:Tb)(s:S)(t xt:X)(sv x:M):V (M×S):=
 match T.und t,T.und xt,sv,x with
 |some (.slice e),some (.slice _),.slice base n c,.slice xb k _=>match T.inf e with
  |some (sz+1,by_,z)=>match pS s xb (k*(sz+1))with
   |none=>none|some new=>cond (tD new)
    (match k with
     |0=>cond (Nat.blt c bY) (cond (Nat.ble n c) (some (.slice base n c,s)) none)
      (match base with
       |some a=>match cW s a.block with
        |some (l,_,md)=>cond (Nat.beq md (sz+3)) (cond (Nat.beq a.off (bR c*(sz+1))) (match xA l a.off (n*(sz+1))with
         |some _=>some (.slice base n c,s)|none=>none) none) none
        |none=>none
       |none=>none)
     |k+1=>Y2 s e (sz+1) by_ z base n c (k+1) new) none
  |_=>none
 |_,_,_,_=>none
def AZ:M->Bool
 |.chan (some _)=>true|_=>false
def yF(x:M):M:=cond (AZ x) (.slice none 0 0) x
def vO(T:Tb)(s:S)(t xt:X)(sv x:M):V (M×S):=
 cond (AZ sv) (match xM T s t xt (.slice none 0 0) (yF x)with
  |some (.slice none _ _,_)=>some (sv,s)|some (.slice (some a) n c,s')=>some (.slice (some a) n c,s')
  |_=>none) (xM T s t xt sv (yF x))
def jf(T:Tb)(s:S)(t xt:X)(sv x:M):V (M×S):=
 match T.und t,T.und xt,sv,x with
 |some (.slice e),some (.int _),.slice none 0 0,.int _ i=>match T.inf e with
  |some (sz+1,by_,z)=>match IntKind.i64.wrap i with
   |.ofNat (k+1)=>cond (y9 (k+1) by_) (cond (Nat.beq z.cells.toList.length (sz+1)) (cond (tD (cC z.cells.toList (k+1)))
     (some (.slice (some ⟨s.nx,0,none⟩) (k+1) bY,newRow s (cC z.cells.toList (k+1)) e (sz+1+2))) none) none) none
   |_=>none
  |_=>none
 |_,_,_,_=>none
def YN(T:Tb)(s:S)(t xt:X)(sv x:M):V (M×S):=match vO T s t xt sv x with
 |some r=>some r|none=>jf T s t xt sv x
def Lu(T:Tb)(s:S)(t:X)(d x:M):V (M×S):=
 match T.und t,d,x with
 |some (.slice e),.slice base n _,.slice xb k _=>match cO T e with
  |none=>none|some sz=>match pS s xb (Nat.min k n*sz)with
   |none=>none|some cs=>cond (tD cs) (match cs with
    |[]=>some (.int .i64 (Nat.min k n),s)|_::_=>match base with
     |none=>none|some a=>match cW s a.block with
      |some (l,e',md)=>match uC l a.off cs with
       |some l'=>some (.int .i64 (Nat.min k n),⟨up s.h a.block (.inl (l',e',md)),s.nx⟩)|none=>none
      |none=>none) none
 |_,_,_=>none
def Fy(T:Tb)(s:S)(t:X)(p v:M):V (M×S):=
 match p with
 |.pointer (some a)=>match cO T t with
  |none=>none|some n=>cond (Nat.beq v.cells.toList.length n) (cond (tD v.cells.toList) (match cW s a.block with
   |some (l,e,md)=>match uC l a.off v.cells.toList with
    |some l'=>some (undef,⟨up s.h a.block (.inl (l',e,md)),s.nx⟩)|none=>none
   |none=>none) none) none
 |_=>none
def YD(T:Tb)(s:S)(t:X)(x:M):V (M×S):=
 match T.und t,x with
 |some (.slice e),.slice base n _=>match n with
  |0=>some (undef,s)|n+1=>match base with
   |none=>some (undef,s)|some a=>match T.inf e with
    |none=>none|some (_,_,z)=>cond (tD (cC z.cells.toList (n+1))) (match cW s a.block with
     |some (l,e',md)=>match uC l a.off (cC z.cells.toList (n+1))with
      |some l'=>some (undef,⟨up s.h a.block (.inl (l',e',md)),s.nx⟩)|none=>none
     |none=>none) none
 |_,_=>none
def Lq(T:Tb)(s:S)(t:X)(l c:M):V (M×S):=
 match T.und t,l,c with
 |some (.slice e),.int _ a,.int _ b=>match T.inf e with
  |some (sz,by_,z)=>match IntKind.i64.wrap a,IntKind.i64.wrap b with
   |.ofNat n,.ofNat k=>cond (Nat.ble n k) (cond (Nat.ble (by_*k) 281474976710656) (cond (Nat.beq z.cells.toList.length sz)
     (cond (Nat.blt k bY) (some (.slice (some ⟨s.nx,0,none⟩) n k,newRow s (cC z.cells.toList k) e 0)) none) none) none) none
   |_,_=>none
  |none=>none
 |_,_,_=>none
def Qd(T:Tb)(s:S)(t:X)(n:Nat)(ps:I (Nat×M)):V (M×S):=
 match T.und t with
 |some (.slice e)=>match T.inf e with
  |some (sz,_,z)=>cond (Nat.ble (n*sz) 16777216) (cond (Nat.beq z.cells.toList.length sz) (match EO (fun i=>some (i*sz,sz)) (cC z.cells.toList n) ps with
   |some cs=>cond (Nat.blt n bY) (some (.slice (some ⟨s.nx,0,none⟩) n n,newRow s cs e 0)) none|none=>none) none) none
  |none=>none
 |_=>none
def Fz(T:Tb)(s:S)(t:X)(x:M)(lo hi mx:V M):V (M×S):=
 match T.und t,x with
 |some (.slice e),.slice (some a) n c=>cond (Nat.blt c bY) none (match cO T e with
  |none=>none|some sz=>match EQ s a.block sz with
   |some l=>(cond (Nat.beq a.off (bR c*sz)) (cond (Nat.blt 0 sz)
    (match mx with
     |some v=>match jY v ((l.length-a.off)/sz)with
      |none=>none|some m=>cond (Nat.ble (a.off+m*sz) l.length) (match i7 n m lo hi (some v)with
       |some (l1,h,m)=>cond (Nat.blt m bY) (some (.slice (some (cond (Nat.beq m l1) ⟨a.block,a.off,none⟩ ⟨a.block,a.off+l1*sz,none⟩)) (h-l1) (m-l1),s)) none|none=>none) none
     |none=>match i7 n ((l.length-a.off)/sz) lo hi none with
      |none=>none|some (l1,h,_)=>cond (Nat.ble (a.off+h*sz) l.length)
       (match l1 with
        |0=>some (.slice (some ⟨a.block,a.off,none⟩) h c,s)|l1+1=>cond (Nat.blt (l1+1) h) (some (.slice (some ⟨a.block,a.off+(l1+1)*sz,none⟩) (h-(l1+1)) (c+(l1+1)),s))
          (some (.slice (some ⟨s.nx,0,none⟩) 0 bY,⟨s.h,s.nx+1⟩))) none) none) none)
   |none=>none)
 |_,_=>none
def D6(s:S)(r:Nat):V (I MapEntry×Nat):=match lk s.h r with
 |some (.inr x)=>some x|_=>none
def OH(s:S)(r:Nat)(es:I MapEntry)(cl:Nat):S:=⟨up s.h r (.inr (es,cl)),s.nx⟩
def NQ(es:I MapEntry)(i:Nat)(f:MapEntry->MapEntry):I MapEntry:=match es,i with
 |[],_=>[]|e::es,0=>f e::es
 |e::es,i+1=>e::NQ es i f
def SI(b:Int):I MapEntry->Nat->V Nat
 |[],_=>none|e::es,i=>cond (decide ((e.born:Int)=b)) (some i) (SI b es (i+1))
def Y8(T:Tb)(s:S)(t:X)(m k v:M):V (M×S):=
 match T.und t,m with
 |some (.map kt _),.map (some r)=>cond (pA T 50 kt k) (cond (plain k) (match D6 s r with
  |none=>none|some (es,cl)=>match rE T kt k es 0 with
   |none=>none|some none=>some (undef,OH s r (es++[{ key:=k,val:=v,born:=cl }]) (cl+1))
   |some (some (i,_))=>match nth es i with
    |none=>none|some e=>cond (AF 50 e.key k) (some (undef,OH s r (NQ es i fun e=>{ e with val:=v }) cl)) none) none) none
 |_,_=>none
def Gv(T:Tb)(s:S)(t:X)(m k:M):V (M×S):=
 match T.und t,m with
 |some (.map kt et),.map (some r)=>cond (pA T 50 kt k) (cond (plain k) (match D6 s r with
  |none=>none|some (es,cl)=>match rE T kt k es 0 with
   |none=>none|some none=>match T.inf et with
    |none=>none|some (_,_,z)=>some (.tuple #[z,.int .i64 cl],OH s r (es++[{ key:=k,val:=z,born:=cl }]) (cl+1))
   |some (some (i,v))=>match nth es i with
    |none=>none|some e=>cond (AF 50 e.key k) (some (.tuple #[v,.int .i64 e.born],OH s r es cl)) none) none) none
 |_,_=>none
def On(s:S)(m st v:M):V (M×S):=
 match m,st with
 |.map (some r),.int _ b=>match D6 s r with
  |none=>none|some (es,cl)=>match SI b es 0 with
   |none=>none|some i=>some (undef,OH s r (NQ es i fun e=>{ e with val:=v }) cl)
 |_,_=>none
def YC(es:I MapEntry)(i:Nat):I MapEntry:=match es,i with
 |[],_=>[]|_::es,0=>es
 |e::es,i+1=>e::YC es i
def G2(T:Tb)(s:S)(t:X)(m k:M):V (M×S):=
 match T.und t,m with
 |some (.map kt _),.map none=>cond (pA T 50 kt k) (some (undef,s)) none|some (.map kt _),.map (some r)=>cond (pA T 50 kt k) (match D6 s r with
  |none=>none|some (es,cl)=>match rE T kt k es 0 with
   |none=>none|some none=>some (undef,OH s r es cl)
   |some (some (i,_))=>some (undef,OH s r (YC es i) cl)) none
 |_,_=>none
def uD(T:Tb)(tm:I M)(s:S)(op:Op):V (M×S):=
 match op with
 |.alloc e=>match T.inf e with
  |some (_,_,z)=>some (.pointer (some ⟨s.nx,0,none⟩),newRow s z.cells.toList e 0)|none=>none
 |.box e x=>match evalO tm x with
  |some v=>some (.pointer (some ⟨s.nx,0,none⟩),newRow s v.cells.toList e 0)|none=>none
 |.store t a x=>match evalO tm a,evalO tm x with
  |some p,some v=>Fy T s t p v|_,_=>none
 |.buildSlice t n ps=>match IU tm ps.toList with
  |some qs=>Qd T s t n qs|none=>none
 |.makeSlice t l c=>match evalO tm l,evalO tm c with
  |some a,some b=>Lq T s t a b|_,_=>none
 |.makeMap _ none=>some (.map (some s.nx),⟨(s.nx,.inr ([],0))::s.h,s.nx+1⟩)|.slice t x lo hi mx=>match evalO tm x,sD tm lo,sD tm hi,sD tm mx with
  |some a,some l,some h,some m=>Fz T s t a l h m|_,_,_,_=>none
 |.mapUpdate t m k x=>match evalO tm m,evalO tm k,evalO tm x with
  |some a,some b,some v=>Y8 T s t a b v|_,_,_=>none
 |.insert t m k x=>match evalO tm m,evalO tm k,evalO tm x with
  |some a,some b,some v=>Y8 T s t a b v|_,_,_=>none
 |.mapEntry t m k=>match evalO tm m,evalO tm k with
  |some a,some b=>Gv T s t a b|_,_=>none
 |.entryStore _ m st x=>match evalO tm m,evalO tm st,evalO tm x with
  |some a,some b,some v=>On s a b v|_,_,_=>none
 |.call c=>match c.callee with
  |.builtin .append=>match kS tm c.args.toList,c.argTypes.toList with
   |some [a,b],[t,xt]=>YN T s t xt a b|_,_=>none
  |.builtin .copy=>match kS tm c.args.toList,c.argTypes.toList with
   |some [a,b],t::_=>Lu T s t a b|_,_=>none
  |.builtin .delete=>match kS tm c.args.toList,c.argTypes.toList with
   |some [a,b],t::_=>G2 T s t a b|_,_=>none
  |.builtin .clear=>match kS tm c.args.toList,c.argTypes.toList with
   |some [a],t::_=>YD T s t a|_,_=>none
  |_=>none
 |_=>none
def callOf(T:Tb)(tm:I M)(op:Op):V (FuncId×I M):=
 match op with
 |.call c=>match c.callee with
  |.value f=>match evalO tm f with
   |some (.func (.func g) first cap)=>match T.fn g with
    |some fn=>cond fn.body.isSome (match kS tm c.args.toList with
     |some args=>some (g,first.toList++args++cap.toList)|none=>none) none
    |none=>none
   |_=>none
  |_=>none
 |_=>none
abbrev GS:=FuncId->I M->S->V (M×S)
def AU(T:Tb)(call:GS)(tm:I M)(s:S)(op:Op):V (M×S):=
 match iZ T tm op with
 |some v=>some (v,s)|none=>match o3 T tm s op with
  |some v=>some (v,s)|none=>match uD T tm s op with
   |some r=>some r|none=>match callOf T tm op with
    |some (f,args)=>call f args s|none=>none
def BP(a9:I Oper)(j:Nat):V Tmp:=match nth a9 j with
 |some o=>o.dst|none=>none
def Oy(a9:I Oper)(tm:I M)(o:Oper):Bool :=
 match o.guard with
 |none=>true|some (j,want)=>match BP a9 j with
  |none=>false|some d=>match nth tm d with
   |some (.bool b)=>b==want|_=>false
def NO(tm:I M)(d:V Tmp)(v:M):I M:=match d with
 |none=>tm|some d=>tm.set d v
def qx(a b:Addr):Bool:=match a.spot,b.spot with
 |none,none=>cond (Nat.beq a.block b.block) (Nat.beq a.off b.off) false|_,_=>false
def TR:V Addr->V Addr->Bool
 |none,none=>true|some a,some b=>qx a b
 |_,_=>false
def Nz:V Nat->V Nat->Bool
 |none,none=>true|some a,some b=>Nat.beq a b
 |_,_=>false
def Yj:Fn->Fn->Bool
 |.func f,.func g=>Nat.beq f g|_,_=>false
mutual
def RN:M->M->Bool
 |.bool a,y=>match y with
  |.bool b=>a==b|_=>false
 |.int k a,y=>match y with
  |.int k' b=>cond (decide (k=k')) (decide (a=b)) false|_=>false
 |.string a,y=>match y with
  |.string b=>lQ a.data.toList b.data.toList|_=>false
 |.pointer p,y=>match y with
  |.pointer q=>TR p q|_=>false
 |.slice p n c,y=>match y with
  |.slice q n' c'=>cond (TR p q) (cond (Nat.beq n n') (Nat.beq c c') false) false|_=>false
 |.map p,y=>match y with
  |.map q=>Nz p q|_=>false
 |.nilFunc,y=>match y with
  |.nilFunc=>true|_=>false
 |.nilIface,y=>match y with
  |.nilIface=>true|_=>false
 |.func f ⟨a⟩ ⟨b⟩,y=>match y with
  |.func g ⟨c⟩ ⟨d⟩=>cond (Yj f g) (cond (Od a c) (Od b d) false) false|_=>false
 |.agg ⟨a⟩,y=>match y with
  |.agg ⟨b⟩=>Od a b|_=>false
 |.tuple ⟨a⟩,y=>match y with
  |.tuple ⟨b⟩=>Od a b|_=>false
 |_,_=>false
def Od:I M->I M->Bool
 |[],y=>match y with
  |[]=>true|_=>false
 |a::x,y=>match y with
  |b::y=>cond (RN a b) (Od x y) false|_=>false
end
abbrev Rec:=I M×Oper×M×Nat×S×S
def dx(T:Tb)(call:GS)(a9:I Oper)(tm:I M)(s:S)(o:Oper):V (M×Nat×S):=
 cond (Oy a9 tm o)
  (match iZ T tm o.op with
   |some v=>some (v,0,s)|none=>match o3 T tm s o.op with
    |some v=>some (v,1,s)|none=>match AU T call tm s o.op with
     |some (v,s')=>some (v,2,s')|none=>none)
  (some (undef,0,s))
def zax(T:Tb)(call:GS)(a9:I Oper):I Oper->I M->S->V (I Rec×I M×S)
 |[],tm,s=>some ([],tm,s)|o::r,tm,s=>match dx T call a9 tm s o with
  |none=>none|some (v,k,s')=>match zax T call a9 r (NO tm o.dst v) s' with
   |none=>none|some (l,tm',s'')=>some ((tm,o,v,k,s,s')::l,tm',s'')
def OC(b7:I Nat):I Edge->Nat
 |[]=>0|e::r=>cond (Region.binds .any e) ((2^e.on|||(match nth b7 e.on with
  |some x=>x|none=>0))|||OC b7 r) (OC b7 r)
def cP:I Oper->I Nat->I Nat
 |[],b7=>b7|o::r,b7=>cP r (b7++[OC b7 o.after.toList])
def F9(i:Nat):I Edge->Bool
 |[]=>true|e::r=>cond (Region.binds .any e) (cond (Nat.blt e.on i) (F9 i r) false) (F9 i r)
def tmpsOf:I Operand->I Tmp
 |[]=>[]|.tmp t::r=>t::tmpsOf r
 |_::r=>tmpsOf r
def OI(a9:I Oper)(o:Oper):I Tmp:=match o.guard with
 |none=>tmpsOf o.op.operands.toList|some (j,_)=>match BP a9 j with
  |none=>tmpsOf o.op.operands.toList|some d=>d::tmpsOf o.op.operands.toList
def S'(lk:I Tmp)(di:V Tmp)(i mi k mk:Nat)(dk:V Tmp):Bool:=match dk with
 |none=>true|some d=>cond (Nat.beq i k) true (cond (match di with |none=>false |some d'=>Nat.beq d d') false
   (cond (lk.any (Nat.beq d)) (cond (Nat.testBit mi k) true (Nat.testBit mk i)) true))
def rowOk(lk:I Tmp)(di:V Tmp)(i mi:Nat):I Oper->I Nat->Nat->Bool
 |o::r,mk::ms,k=>cond (S' lk di i mi k mk o.dst) (rowOk lk di i mi r ms (k+1)) false|[],_,_=>true
 |_::_,[],_=>false
def Lx(a9:I Oper)(ms:I Nat):I Oper->I Nat->Nat->Bool
 |o::r,mi::mr,i=>cond (F9 i o.after.toList) (cond (rowOk (OI a9 o) o.dst i mi a9 ms 0) (Lx a9 ms r mr (i+1)) false) false|[],_,_=>true
 |_::_,[],_=>false
def qzr(T:Tb)(tm:I M)(op:Op)(v:M)(s:S):Bool:=match o3 T tm s op with
 |some u=>RN u v|none=>false
def zar(T:Tb)(tm:I M)(op:Op)(v:M)(i mi:Nat):I Rec->I Nat->Nat->Bool
 |(_,_,_,kd,s,s')::r,mk::ms,k=>cond (Nat.beq kd 2)
   (cond (Nat.blt k i) (cond (Nat.testBit mi k) true (qzr T tm op v s)) (cond (Nat.testBit mk i) true (qzr T tm op v s')))
   true&&zar T tm op v i mi r ms (k+1)
 |[],_,_=>true|_::_,[],_=>false
def z9d(i mi:Nat):I Rec->Nat->Bool
 |(_,_,_,kd,_,_)::r,k=>cond (Nat.blt k i) (cond (Nat.beq kd 2) (Nat.testBit mi k) true) true&&z9d i mi r (k+1)|[],_=>true
def zan(T:Tb)(rs:I Rec)(ms:I Nat):I Rec->I Nat->Nat->Bool
 |(tm,o,v,kd,_,_)::r,mi::mr,i=>cond (Nat.beq kd 0) true (cond (Nat.beq kd 1) (zar T tm o.op v i mi rs ms 0) (z9d i mi rs 0))&&zan T rs ms r mr (i+1)|[],_,_=>true
 |_::_,[],_=>false
def ML(a9:I Oper):Bool:=Lx a9 (cP a9 []) a9 (cP a9 []) 0
def GA(T:Tb)(tm:I M)(s:S):I ResultVar->V (I M)
 |[]=>some []|.tmp t::r=>match nth tm t with
  |some v=>match GA T tm s r with
   |some l=>some (v::l)|none=>none
  |none=>none
 |.cell a t::r=>match o3 T tm s (.load t (.tmp a))with
  |some v=>match GA T tm s r with
   |some l=>some (v::l)|none=>none
  |none=>none
def xF:I M->M
 |[v]=>v|l=>.tuple l.toArray
def pad:Nat->I M->I M
 |0,l=>l|n+1,[]=>undef::pad n []
 |n+1,v::l=>v::pad n l
def ED(P:Program)(eqs:I X):Tb where
 und t:=match nth P.types.toList t with
  |none=>none|some i=>match i.desc with
   |.named _ u=>match nth P.types.toList u with
    |some j=>some j.desc|none=>none
   |d=>some d
 inf t:=match nth P.types.toList t with
  |none=>none|some i=>match i.zero with
   |some z=>cond (plain z) (some (i.size,i.bytes,z)) none|none=>none
 fn f:=nth P.funcs.toList f
 eqs t:=eqs.any (Nat.beq t)
end Go.Rx
