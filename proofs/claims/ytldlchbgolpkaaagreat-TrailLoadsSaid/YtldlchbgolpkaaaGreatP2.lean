import Derived.Calls
import Derived.Orders
import Derived.Below
import Derived.Laws.CopyRow
import Derived.KernelRfl
import Derived.Test.YtldlchbgolpkaaaGreatP1
set_option linter.all false
namespace Go.Rx
open Go
structure Nm where
 blk:Nat->Nat
 sh:Nat->Nat
 cp:Nat->Nat
def bY:Nat:=18446744073709551616
def bR(c:Nat):Nat:=c-bY
def bX(m:Nm)(i c:Nat):Nat:=if c<bY then c else m.cp i-bR c
mutual
def ren(m:Nm):O->O
 |.pointer (some a)=>.pointer (some ⟨m.blk a.block,m.sh a.block+a.off,none⟩)|.slice (some a) n c=>.slice (some ⟨m.blk a.block,m.sh a.block+a.off,none⟩) n (bX m a.block c)
 |.map (some r)=>.map (some (m.blk r))|.func fn first cap=>.func fn (wW m first) (wW m cap)
 |.iface t v=>.iface t (ren m v)|.agg cs=>.agg (wW m cs)
 |.tuple cs=>.tuple (wW m cs)|.bool b=>.bool b
 |.int k n=>.int k n|.float k n=>.float k n
 |.complex k a b=>.complex k a b|.string s=>.string s
 |.pointer none=>.pointer none|.slice none n c=>.slice none n c
 |.map none=>.map none|.chan (some r)=>.slice (some ⟨m.blk r,m.sh r,some (m.cp r)⟩) 0 0
 |.chan none=>.chan none|.nilFunc=>.nilFunc
 |.nilIface=>.nilIface
def wW(m:Nm):H2 O->H2 O
 |⟨l⟩=>⟨aE m l⟩
def aE(m:Nm):V O->V O
 |[]=>[]|v::l=>ren m v::aE m l
end
def kE(m:Nm)(l:V O):aE m l=l.map (ren m):=by induction l with|nil=>simp[aE]|cons v l ih=>simp[aE,ih]
def zdt(m:Nm)(a:H2 O):wW m a=a.map (ren m):=by cases a;simp[wW,kE]
@[simp] def fF(m:Nm)(l:V O):wW m ⟨l⟩=⟨aE m l⟩:=by simp[wW]
@[simp] def yY(m:Nm)(l:V O):(aE m l).length=l.length:=by simp[kE]
@[simp] def v17(m:Nm)(a:H2 O):(wW m a).size=a.size:=by simp[zdt]
@[simp] def lZ(m:Nm)(a:H2 O):(wW m a).toList=aE m a.toList:=by cases a;simp
def x3(m:Nm)(a b:V O):aE m (a++b)=aE m a++aE m b:=by simp[kE]
def qyq(m:Nm)(v:O):(ren m v).oneCell'=v.oneCell':=by
 cases v with
 |pointer a=>cases a<;>rfl|slice a n c=>cases a<;>rfl
 |map r=>cases r<;>rfl|chan r=>cases r<;>rfl
 |_=>rfl
def jp(m:Nm)(v:O):(ren m v).cells=wW m v.cells:=by
 cases v with
 |pointer a=>cases a<;>simp[ren,Value.cells,aE]|slice a n c=>cases a<;>simp[ren,Value.cells,aE]
 |map r=>cases r<;>simp[ren,Value.cells,aE]|chan r=>cases r<;>simp[ren,Value.cells,aE]
 |_=>simp[ren,Value.cells,aE]
abbrev Row:=V O×TypeId×Nat
abbrev lP:=Row ⊕ (V MapEntry×Nat)
abbrev Hp:=V (Nat×lP)
def lk:Hp->Nat->M lP
 |[],_=>none|(j,b)::h,i=>cond (Nat.beq j i) (some b) (lk h i)
def up:Hp->Nat->lP->Hp
 |[],_,_=>[]|(j,b)::h,i,c=>cond (Nat.beq j i) ((j,c)::h) ((j,b)::up h i c)
def rm:Hp->Nat->Hp
 |[],_=>[]|(j,b)::h,i=>cond (Nat.beq j i) (rm h i) ((j,b)::rm h i)
def beq_eq(j i:Nat):Nat.beq j i=decide (j=i):=by rw[Bool.eq_iff_iff];simp[Nat.beq_eq]
def n9(j:Nat)(b:lP)(h:Hp)(i:Nat):lk ((j,b)::h) i=if j=i then some b else lk h i:=by simp only[lk,beq_eq];by_cases e:j=i<;>simp[e]
def B2(h:Hp)(i:Nat)(c:lP)(j:Nat):lk (up h i c) j=if i=j then(lk h i).map (fun _=>c)else lk h j:=by induction h with|nil=>simp[up,lk]|cons x h ih=>have⟨k,b⟩:=x;simp[up,beq_eq];by_cases e:k=i;subst e;simp[yC,zC,n9];by_cases e2:k=j<;>simp[e2];simp[e,yB,zD,n9,ih];by_cases e2:i=j;subst e2;simp[e];by_cases e3:k=j<;>simp[e2,e3]
def qk(h:Hp)(i j:Nat):lk (rm h i) j=if i=j then none else lk h j:=by induction h with|nil=>simp[rm,lk]|cons x h ih=>have⟨k,b⟩:=x;simp[rm,beq_eq];by_cases e:k=i;subst e;simp[yC,zC,n9,ih];by_cases e2:k=j<;>simp[e2];simp[e,yB,zD,n9,ih];by_cases e2:i=j;subst e2;simp[e];by_cases e3:k=j<;>simp[e2,e3]
structure S where
 h:Hp
 nx:Nat
def fB(m:Nm)(e:MapEntry):MapEntry:={ key:=ren m e.key,val:=ren m e.val,born:=e.born }
def wX(m:Nm)(i:Nat)(l:V O)(e:TypeId)(w:PL):Nat->Prop
 |0=>m.sh i=0/\w.heap[m.blk i]? = some (.cells (aE m l).toArray e (0,0))|1=>∃c e' fr,w.heap[m.blk i]? = some (.cells c e' fr)/\(∀k v,l[k]? = some v->c[m.sh i+k]? = some (ren m v))/\∀n,e=n+1->l.length<=m.cp i*n
 |n+2=>∃pre rest,w.heap[m.blk i]? = some (.cells (pre++aE m l++rest).toArray e (0,0))/\pre.length=m.sh i/\l.length+rest.length=m.cp i*n
def uY(m:Nm)(i:Nat)(w:PL):lP->Prop
 |.inl (l,e,md)=>wX m i l e w md|.inr (es,clock)=>w.heap[m.blk i]? = some (.map (es.map (fB m)).toArray clock)
def Own:lP->D1
 |.inl (_,_,1)=>false|_=>true
structure Fits(m:Nm)(s:S)(w:PL):Prop where
 ok:∀i b,lk s.h i=some b->uY m i w b
 inj:∀i j b c,lk s.h i=some b->lk s.h j=some c->i≠j->Own b=true->m.blk i≠m.blk j
 bd:∀i b,lk s.h i=some b->i<s.nx
def aI(n:Nat)(m m':Nm):Prop:=∀i,i<n->m'.blk i=m.blk i/\m'.sh i=m.sh i/\m'.cp i=m.cp i
def aI.refl(n:Nat)(m:Nm):aI n m m:=fun _ _=>⟨rfl,rfl,rfl⟩
def aI.trans{n k:Nat}{a b c:Nm}(h:aI n a b)(h':aI k b c)(hk:n<=k):aI n a c:=fun i hi=>by
 have⟨a1,a2,a3⟩:=h i hi;have⟨b1,b2,b3⟩:=h' i (by omega);exact⟨b1.trans a1,b2.trans a2,b3.trans a3⟩
variable{n:Nat}
def aI.mono{k:Nat}{a b:Nm}(h:aI n a b)(hk:k<=n):aI k a b:=fun i hi=>h i (by omega)
def fY(m:Nm)(s:S)(w:PL):Prop:=∀m',aI s.nx m m'->Fits m' s w
def eT(m:Nm)(n:Nat)(v cv:O):Prop:=∀m',aI n m m'->ren m' v=cv
def n7(m:Nm)(n:Nat)(v cv:V O):Prop:=∀m',aI n m m'->aE m' v=cv
variable{m:Nm}
variable{s:S}
variable{w:PL}
def fY.fits(h:fY m s w):Fits m s w:=h m (aI.refl _ _)
def eT.at{v cv:O}(h:eT m n v cv):ren m v=cv:=h m (aI.refl _ _)
def n7.at{v cv:V O}(h:n7 m n v cv):aE m v=cv:=h m (aI.refl _ _)
def eT.ext{m':Nm}{n':Nat}{v cv:O}(h:eT m n v cv)(ha:aI n m m')(hn:n<=n'):eT m' n' v cv :=
 fun k hk=>h k (ha.trans hk hn)
def n7.ext{m':Nm}{n':Nat}{v cv:V O}(h:n7 m n v cv)(ha:aI n m m')(hn:n<=n'):n7 m' n' v cv :=
 fun k hk=>h k (ha.trans hk hn)
def N7(m:Nm)(s:S)(b:Nat):Prop:=∃i c,lk s.h i=some c/\Own c=true/\m.blk i=b
structure bG(m:Nm)(s:S)(w:PL)(aK:Nm)(bI:S)(w₁:PL):Prop where
 agree:aI s.nx m aK
 nx:s.nx<=bI.nx
 fits:fY aK bI w₁
 own:∀b,N7 aK bI b->N7 m s b\/w.heap.size<=b
 same:∀b,b<w.heap.size->¬ N7 m s b->w₁.heap[b]? = w.heap[b]?
 size:w.heap.size<=w₁.heap.size
 os:w₁.os=w.os
 tape:w₁.tape=w.tape
 output:w₁.output=w.output
def bG.refl{m:Nm}{s:S}{w:PL}(h:fY m s w):bG m s w m s w :=
 ⟨aI.refl _ _,zF _,h,fun _ h=>.inl h,fun _ _ _=>rfl,zF _,rfl,rfl,rfl⟩
def bG.trans{m aK C7:Nm}{s bI Lx:S}{w w₁ mO:PL}(h:bG m s w aK bI w₁)(k:bG aK bI w₁ C7 Lx mO):bG m s w C7 Lx mO:=by
 refine⟨h.agree.trans k.agree h.nx,Nat.le_trans h.nx k.nx,k.fits,fun b hb=>?_,fun b hb hn=>?_,Nat.le_trans h.size k.size,k.os.trans h.os,k.tape.trans h.tape,k.output.trans h.output⟩;rcases k.own b hb with h1 |h1;exact h.own b h1;exact .inr (Nat.le_trans h.size h1);have h1:¬ N7 aK bI b:=fun ho=>by rcases h.own b ho with h2 |h2;exact hn h2;omega
 rw[k.same b (Nat.lt_of_lt_of_le hb h.size) h1,h.same b hb hn]
def bG.below{aK:Nm}{bI:S}{w₁:PL}(h:bG m s w aK bI w₁)(hs:∀b,¬ N7 m s b):RowKit.Below w.heap.size w w₁ :=
 ⟨h.os,h.tape,h.output,h.size,fun k hk=>h.same k hk (hs k)⟩
def Fits.size{m:Nm}{s:S}{w:PL}(h:Fits m s w){i:Nat}{b:lP}(hb:lk s.h i=some b):m.blk i<w.heap.size:=by have:=h.ok i b hb;rcases Nat.lt_or_ge (m.blk i) w.heap.size with hl |hg;exact hl;exfalso;rcases b with⟨l,e,md⟩|⟨es,clock⟩;rcases md with _ |_ |n;simp[uY,wX,Array.getElem?_eq_none hg]at this;simp[uY,wX,Array.getElem?_eq_none hg]at this;simp[uY,wX,Array.getElem?_eq_none hg]at this;simp[uY,Array.getElem?_eq_none hg]at this
def kg(n:Nat)(h:fY m s w):fY m s { w with drawn:=n }:=fun m' ha=>by
 have⟨h1,h2,h3⟩:=h m' ha;refine⟨fun i b hb=>?_,h2,h3⟩;have:=h1 i b hb;rcases b with⟨l,e,md⟩|⟨es,clock⟩;rcases md with _ |_ |n<;>exact this;exact this
def bG.draw(n:Nat)(h:fY m s w):bG m s w m s { w with drawn:=n }:=
 ⟨aI.refl _ _,zF _,kg n h,fun _ h=>.inl h,fun _ _ _=>rfl,zF _,rfl,rfl,rfl⟩
def Nm.set(m:Nm)(i b sh cp:Nat):Nm :=
 { blk:=fun j=>if j=i then b else m.blk j,sh:=fun j=>if j=i then sh else m.sh j,cp:=fun j=>if j=i then cp else m.cp j }
def Nm.agree_set(m:Nm)(i b sh cp:Nat):aI i m (m.set i b sh cp):=fun j hj=>by
 simp[Nm.set,show j≠i by omega]
def uY.world{i:Nat}{w':PL}{b:lP}(h:uY m i w b)(hw:w'.heap[m.blk i]? = w.heap[m.blk i]?):uY m i w' b:=by rcases b with⟨l,e,md⟩|⟨es,clock⟩;rcases md with _ |_ |n<;>(simp[uY,wX]at*;rw[hw];exact h);simp[uY]at*;rw[hw];exact h
def bG.alloc{m:Nm}{s:S}{w:PL}(h:fY m s w)(o:Obj)(b:lP)(cp:Nat)
  (hb:∀m',aI (s.nx+1) (m.set s.nx w.heap.size 0 cp) m'->uY m' s.nx (w.alloc o) b):
  bG m s w (m.set s.nx w.heap.size 0 cp) ⟨(s.nx,b)::s.h,s.nx+1⟩ (w.alloc o):=by
 have lK:∀k,k<w.heap.size->(w.alloc o).heap[k]? = w.heap[k]?:=fun k hk=>RowKit.Below.heap_alloc w o k hk;refine⟨Nm.agree_set m _ _ _ _,Nat.le_succ _,?_,?_,fun b hb _=>lK b hb,by simp,rfl,rfl,rfl⟩;intro m' ha;have qP:aI s.nx m m':=(Nm.agree_set m s.nx w.heap.size 0 cp).trans ha (Nat.le_succ _);have hf:=h m' qP;have iC:m'.blk s.nx=w.heap.size:=by have:=(ha s.nx (zN _)).1;simpa[Nm.set]using this
 refine⟨fun i c hc=>?_,fun i j c d hc hd lM ho=>?_,fun i c hc=>?_⟩;simp[n9]at hc;by_cases e:s.nx=i;subst e;simp[if_true,zA]at hc;subst hc;exact hb m' ha;simp[e,if_false]at hc;exact(hf.ok i c hc).world (lK _ (hf.size hc));simp[n9]at hc hd;by_cases e:s.nx=i;subst e;have hj:s.nx≠j:=lM;simp[hj,if_false]at hd;have:=hf.size hd;omega;simp[e,if_false]at hc;by_cases e2:s.nx=j;subst e2;have:=hf.size hc;omega;simp[e2,if_false]at hd;exact hf.inj i j c d hc hd lM ho;simp[n9]at hc;by_cases e:s.nx=i;subst e;exact zN _;simp[e,if_false]at hc;exact Nat.lt_succ_of_lt (hf.bd i c hc);rintro b ⟨i,c,hc,ho,rfl⟩;simp[n9]at hc;by_cases e:s.nx=i;subst e;right;simp[Nm.set];simp[e,if_false]at hc;left;refine⟨i,c,hc,ho,?_⟩;have:=h.fits.bd i c hc;simp[Nm.set,show i≠s.nx by omega]
def bG.write{w':PL}(h:fY m s w){i:Nat}{b c:lP}(hb:lk s.h i=some b)(MW:Own b=true)
  (hw:∀k,k≠m.blk i->w'.heap[k]? = w.heap[k]?) (dU:w'.heap.size=w.heap.size) (h1:w'.os=w.os) (h2:w'.tape=w.tape) (h3:w'.output=w.output) (_h4:w.drawn<=w'.drawn) (hc:∀m',aI s.nx m m'->uY m' i w' c):
  bG m s w m ⟨up s.h i c,s.nx⟩ w':=by
 refine⟨aI.refl _ _,zF _,?_,?_,?_,by omega,h1,h2,h3⟩;intro m' ha;have hf:=h m' ha;have AG:m'.blk i=m.blk i:=(ha i (hf.bd i b hb)).1;refine⟨fun j d hd=>?_,fun j k d e hd he AC ho=>?_,fun j d hd=>?_⟩;simp[B2]at hd;by_cases e:i=j;subst e;simp[if_true,hb,zM,zA]at hd;subst hd;exact hc m' ha;simp[e,if_false]at hd;refine(hf.ok j d hd).world (hw _ ?_);rw[<-AG];exact fun x=>hf.inj i j b d hb hd e MW x.symm;have key:∀j d,lk (up s.h i c) j=some d->∃d',lk s.h j=some d'/\(Own d=true->Own d'=true):=fun j d hd=>by simp[B2]at hd;by_cases e:i=j;subst e;exact⟨b,hb,fun _=>MW⟩;simp[e,if_false]at hd;exact⟨d,hd,id⟩
 have⟨d',bF,od⟩:=key j d hd;have⟨e',MY,_⟩:=key k e he;exact hf.inj j k d' e' bF MY AC (od ho);simp[B2]at hd;by_cases e:i=j;subst e;exact hf.bd i b hb;simp[e,if_false]at hd;exact hf.bd j d hd;rintro k ⟨j,d,hd,ho,rfl⟩;left;simp[B2]at hd;by_cases e:i=j;subst e;exact⟨i,b,hb,MW,rfl⟩;simp[e,if_false]at hd;exact⟨j,d,hd,ho,rfl⟩;intro k hk hn;exact hw k fun e=>hn ⟨i,b,hb,MW,e.symm⟩
def bG.forget(h:fY m s w)(i:Nat):bG m s w m ⟨rm s.h i,s.nx⟩ w:=by
 have key:∀j d,lk (rm s.h i) j=some d->lk s.h j=some d:=fun j d hd=>by simp[qk]at hd;by_cases e:i=j;simp[e]at hd;simpa[e]using hd
 refine⟨aI.refl _ _,zF _,fun m' ha=>?_,?_,fun _ _ _=>rfl,zF _,rfl,rfl,rfl⟩;have hf:=h m' ha;exact⟨fun j d hd=>hf.ok j d (key j d hd),fun j k d e hd he=>hf.inj j k d e (key j d hd) (key k e he),fun j d hd=>hf.bd j d (key j d hd)⟩;rintro k ⟨j,d,hd,ho,rfl⟩;exact .inl ⟨j,d,key j d hd,ho,rfl⟩
structure Tb where
 und:TypeId->M TypeDesc
 inf:TypeId->M (Nat×Nat×O)
 fn:FuncId->M Func
 eqs:TypeId->D1
mutual
def plain:O->D1
 |.bool _=>true|.int _ _=>true
 |.string _=>true|.pointer none=>true
 |.slice none _ _=>true|.map none=>true
 |.nilFunc=>true|.nilIface=>true
 |.agg ⟨l⟩=>RJ l|.tuple ⟨l⟩=>RJ l
 |_=>false
def RJ:V O->D1
 |[]=>true|v::l=>cond (plain v) (RJ l) false
end
def nth{v11:Type}:V v11->Nat->M v11
 |[],_=>none|a::_,0=>some a
 |_::l,n+1=>nth l n
def IV:V O->Nat->M (V O)
 |_,0=>some []|[],_+1=>none
 |v::l,n+1=>match IV l n with
  |some r=>some (v::r)|none=>none
def xS(l:V O)(off n:Nat):M (V O):=IV (l.drop off) n
def GJ:V O->V O->M (V O)
 |l,[]=>some l|[],_::_=>none
 |_::l,v::vs=>match GJ l vs with
  |some r=>some (v::r)|none=>none
def uC:V O->Nat->V O->M (V O)
 |l,0,vs=>GJ l vs|[],_+1,_=>none
 |x::l,n+1,vs=>match uC l n vs with
  |some r=>some (x::r)|none=>none
def evalO(tm:V O):EW->M O
 |.tmp t=>nth tm t|.const v=>cond (plain v) (some v) none
 |.func f=>some (.func (.func f) #[] #[])|.global _=>none
def kW(tm:V O):V EW->M (V O)
 |[]=>some []|x::l=>match evalO tm x with
  |some v=>match kW tm l with
   |some r=>some (v::r)|none=>none
  |none=>none
def IY(tm:V O):V (Nat×EW)->M (V (Nat×O))
 |[]=>some []|(i,x)::l=>match evalO tm x with
  |some v=>match IY tm l with
   |some r=>some ((i,v)::r)|none=>none
  |none=>none
def sD(tm:V O):M EW->M (M O)
 |none=>some none|some x=>match evalO tm x with
  |some v=>some (some v)|none=>none
def sF:TypeDesc->D1
 |.struct _=>true|.array _ _=>true
 |_=>false
def cT(T:Tb)(t:TypeId):M Nat:=match T.inf t with
 |some (n,_,_)=>some n|none=>none
def GW(T:Tb)(t:TypeId)(cs:V O)(off:Nat):M O :=
 match T.und t with
 |none=>none|some d=>cond (sF d) (match cT T t with
   |some n=>some (.agg ((cs.drop off).take n).toArray)|none=>none) (nth cs off)
def lW:V Xv->V Xv->D1
 |[],[]=>true|a::x,b::y=>cond (Nat.beq a.toNat b.toNat) (lW x y) false
 |_,_=>false
def kX:V Xv->V Xv->D1
 |_,[]=>false|[],_::_=>true
 |a::x,b::y=>cond (Nat.blt a.toNat b.toNat) true (cond (Nat.beq a.toNat b.toNat) (kX x y) false)
def GA(T:Tb)(E:TypeId->O->O->M D1)(xs ys:V O):V Field->M D1
 |[]=>some true|f::fs=>
  if f.name ≠ "_" then
   match GW T f.type xs f.offset with
   |none=>none|some a=>match GW T f.type ys f.offset with
    |none=>none|some b=>match E f.type a b with
     |none=>none|some false=>some false
     |some true=>GA T E xs ys fs
  else GA T E xs ys fs
def eqv(T:Tb):Nat->TypeId->O->O->M D1
 |0,_,_,_=>none|d+1,t,x,y=>
  match T.und t with
  |some .bool=>match x,y with
   |.bool a,.bool b=>some (a==b)|_,_=>none
  |some (.int _)=>match x,y with
   |.int k a,.int k' b=>if k=k' then some (a==b)else none|_,_=>none
  |some .string=>match x,y with
   |.string a,.string b=>some (lW a.data.toList b.data.toList)|_,_=>none
  |some (.pointer _)=>match x,y with
   |.pointer none,.pointer none=>some true|.pointer none,.pointer (some _)=>some false
   |.pointer (some _),.pointer none=>some false|_,_=>none
  |some (.slice _)=>match x,y with
   |.slice none _ _,.slice none _ _=>some true|.slice none _ _,.slice (some _) _ _=>some false
   |.slice (some _) _ _,.slice none _ _=>some false|.chan (some _),.slice none _ _=>some false
   |_,_=>none
  |some (.map _ _)=>match x,y with
   |.map none,.map none=>some true|.map none,.map (some _)=>some false
   |.map (some _),.map none=>some false|_,_=>none
  |some (.struct fs)=>match x,y with
   |.agg xs,.agg ys=>cond (T.eqs t) (GA T (eqv T d) xs.toList ys.toList fs.toList) none|_,_=>none
  |_=>none
def kS(op:BinOp)(k:IntKind)(a:Int)(k':IntKind)(b:Int):M O :=
 match op with
 |.shl=>if b<0 then none else some (.int k (k.wrap (a*2^(min b.toNat k.bits))))|.shr=>if b<0 then none else some (.int k (a.fdiv (2^(min b.toNat k.bits))))
 |_=>
  if k≠k' then none else
  match op with
  |.add=>some (.int k (k.wrap (a+b)))|.sub=>some (.int k (k.wrap (a-b)))
  |.mul=>some (.int k (k.wrap (a*b)))|.quo=>if b=0 then none else some (.int k (k.wrap (a.tdiv b)))
  |.rem=>if b=0 then none else some (.int k (a.tmod b))|.and=>some (.int k (k.wrap (BitVec.ofInt k.bits a&&&BitVec.ofInt k.bits b).toNat))
  |.or=>some (.int k (k.wrap (BitVec.ofInt k.bits a|||BitVec.ofInt k.bits b).toNat))|.xor=>some (.int k (k.wrap (BitVec.ofInt k.bits a^^^BitVec.ofInt k.bits b).toNat))
  |.andNot=>some (.int k (k.wrap (BitVec.ofInt k.bits a &&& ~~~ BitVec.ofInt k.bits b).toNat))|.eql=>some (.bool (a==b))
  |.neq=>some (.bool (a != b))|.lss=>some (.bool (decide (a<b)))
  |.leq=>some (.bool (decide (a<=b)))|.gtr=>some (.bool (decide (a>b)))
  |.geq=>some (.bool (decide (a>=b)))|_=>none
def IP(op:BinOp)(x y:ByteArray):M O :=
 let a:=x.data.toList
 let b:=y.data.toList
 match op with
 |.add=>if((a.length+b.length:Nat):Int)>9223372036854775807 then none else some (.string ⟨(a++b).toArray⟩)|.eql=>some (.bool (lW a b))
 |.neq=>some (.bool (!lW a b))|.lss=>some (.bool (kX a b))
 |.leq=>some (.bool (kX a b||lW a b))|.gtr=>some (.bool (!(kX a b||lW a b)))
 |.geq=>some (.bool (!kX a b))|_=>none
def wY(T:Tb)(t:TypeId):O->O->D1
 |.nilIface,.nilIface=>false|.agg _,.agg _=>T.eqs t
 |_,_=>true
def rD(T:Tb)(op:BinOp)(t:TypeId)(x y:O):M O :=
 match x,y with
 |.int k a,.int k' b=>kS op k a k' b|.string a,.string b=>IP op a b
 |x,y=>match op with
  |.eql=>cond (wY T t x y) (match eqv T 50 t x y with
   |some b=>some (.bool b)|none=>none) none
  |.neq=>cond (wY T t x y) (match eqv T 50 t x y with
   |some b=>some (.bool (!b))|none=>none) none
  |_=>none
def QK:UnOp->O->M O
 |.neg,.int k n=>some (.int k (k.wrap (0-n)))|.not,.bool b=>some (.bool (!b))
 |.xor,.int k n=>some (.int k (k.wrap (BitVec.ofInt k.bits (if k.signed then -1 else k.max)^^^BitVec.ofInt k.bits n).toNat))|_,_=>none
def convX(T:Tb)(src dst:TypeId)(x:O):M O :=
 match T.und src,T.und dst,x with
 |some _,some (.int k),.int _ n=>some (.int k (k.wrap n))|some _,some .string,.string s=>some (.string s)
 |_,_,_=>none
def F4(place:Nat->M (Nat×Nat))(cells:V O):V (Nat×O)->M (V O)
 |[]=>some cells|(i,v)::rest=>match place i with
  |none=>none|some (off,size)=>cond (Nat.beq v.cells.toList.length size) (match uC cells off v.cells.toList with
   |some c=>F4 place c rest|none=>none) none
def MB(T:Tb)(fs:V Field)(i:Nat):M (Nat×Nat):=
 match nth fs i with
 |none=>none|some f=>match cT T f.type with
  |none=>none|some n=>some (f.offset,n)
def J1(T:Tb):V Field->D1
 |[]=>true|f::fs=>match cT T f.type with
  |some _=>J1 T fs|none=>false
def Mv(T:Tb)(t:TypeId)(ps:V (Nat×O)):M O :=
 match T.inf t with
 |none=>none|some (_,_,z)=>match T.und t with
  |some (.struct fs)=>cond (J1 T fs.toList) (match F4 (MB T fs.toList) z.cells.toList ps with
   |some cs=>some (.agg cs.toArray)|none=>none) none
  |some (.array _ e)=>match cT T e with
   |none=>none|some n=>match F4 (fun i=>some (i*n,n)) z.cells.toList ps with
    |some cs=>some (.agg cs.toArray)|none=>none
  |_=>none
def Oa(T:Tb)(st:TypeId)(x:O)(f:Nat):M O :=
 match T.und st with
 |some (.struct fs)=>match nth fs.toList f with
  |some fd=>match x with
   |.pointer (some a)=>match cT T fd.type with
    |some (_+1)=>some (.pointer (some ⟨a.block,a.off+fd.offset,none⟩))|_=>none
   |_=>none
  |none=>none
 |_=>none
def Mr(T:Tb)(st:TypeId)(x:O)(f:Nat):M O :=
 match T.und st with
 |some (.struct fs)=>match nth fs.toList f with
  |some fd=>match x with
   |.agg cs=>GW T fd.type cs.toList fd.offset|_=>none
  |none=>none
 |_=>none
def sK(i:Int)(n:Nat):D1:=match i with
 |.ofNat k=>Nat.blt k n|.negSucc _=>false
def Nu(T:Tb)(t:TypeId)(x ix:O):M O :=
 match ix with
 |.int _ i=>match T.und t,x with
  |some (.array n e),.pointer (some a)=>cond (sK i n) (match cT T e with
   |some sz=>some (.pointer (some ⟨a.block,a.off+i.toNat*sz,none⟩))|none=>none) none
  |some (.slice e),.slice (some a) n _=>cond (sK i n) (match cT T e with
   |some sz=>some (.pointer (some ⟨a.block,a.off+i.toNat*sz,none⟩))|none=>none) none
  |_,_=>none
 |_=>none
def XK(T:Tb)(t:TypeId)(x ix:O):M O :=
 match ix with
 |.int _ i=>match T.und t,x with
  |some (.array n e),.agg cs=>cond (sK i n) (match cT T e with
   |some sz=>GW T e cs.toList (i.toNat*sz)|none=>none) none
  |some .string,.string s=>cond (sK i s.data.toList.length) (match nth s.data.toList i.toNat with
   |some b=>some (.int .u8 b.toNat)|none=>none) none
  |_,_=>none
 |_=>none
def Gd(x:O)(i:Nat):M O:=match x with
 |.tuple vs=>nth vs.toList i|_=>none
def FR(T:Tb)(t:TypeId)(x:O):M O :=
 match T.und t,x with
 |some .string,.string s=>some (.int .i64 s.data.toList.length)|some (.slice _),.slice _ n _=>some (.int .i64 n)
 |some (.slice _),.chan (some _)=>some (.int .i64 0)|some (.array n _),_=>some (.int .i64 n)
 |_,_=>none
def LB(T:Tb)(t:TypeId)(x:O):M O :=
 match T.und t,x with
 |some (.slice _),.slice none _ c=>some (.int .i64 c)|some (.slice _),.slice (some _) _ c=>cond (Nat.blt c bY) (some (.int .i64 c)) none
 |some (.slice _),.chan (some _)=>some (.int .i64 0)|_,_=>none
def R7:O->O->M O
 |.int k x,.int _ y=>some (.int k (if y>x then y else x))|_,_=>none
def R6:O->O->M O
 |.int k x,.int _ y=>some (.int k (if y<x then y else x))|_,_=>none
def yR(f:O->O->M O):O->V O->M O
 |x,[]=>some x|x,y::l=>match f x y with
  |some z=>yR f z l|none=>none
def jS(v:O)(y:Nat):M Nat:=match v with
 |.int _ i=>cond (sK i (y+1)) (some i.toNat) none|_=>none
def i8(len cap:Nat)(lo hi mx:M O):M (Nat×Nat×Nat):=
 match (match mx with |some v=>jS v cap |none=>some cap)with
 |none=>none|some m=>match (match hi with |some v=>jS v m |none=>(match mx with |some _=>none |none=>some len))with
  |none=>none|some h=>match (match lo with |some v=>jS v h |none=>some 0)with
   |none=>none|some l=>some (l,h,m)
def emptyS(T:Tb)(e:TypeId)(a:M Addr)(n c:Nat)(lo hi mx:M O):M O:=match a with
 |none=>none|some a=>match n with
  |_+1=>none|0=>match i8 0 0 lo hi mx with
   |some (0,0,0)=>(match cT T e with
    |some _=>some (.slice (some a) 0 (match mx with |some _=>0 |none=>c))|none=>none)
   |_=>none
def o6(T:Tb)(t:TypeId)(x:O)(lo hi mx:M O):M O :=
 match T.und t,x with
 |some .string,.string s=>match mx with
  |some _=>none|none=>match i8 s.data.toList.length s.data.toList.length lo hi none with
   |some (l,h,_)=>some (.string ⟨((s.data.toList.take h).drop l).toArray⟩)|none=>none
 |some (.slice e),.slice a n c=>cond (Nat.blt c bY) (match i8 n c lo hi mx with
   |some (l,h,m)=>match cT T e with
    |some sz=>some (.slice (cond (Nat.beq m l) a (match a with
      |some a=>some ⟨a.block,a.off+l*sz,none⟩|none=>none)) (h-l) (m-l))
    |none=>none
   |none=>none) (emptyS T e a n c lo hi mx)
 |some (.slice e),.chan (some r)=>match i8 0 0 lo hi mx with
   |some _=>(match cT T e with
    |some _=>some (.chan (some r))|none=>none)
   |none=>none
 |some (.array n e),.pointer (some a)=>match i8 n n lo hi mx with
   |some (l,h,m)=>match cT T e with
    |some sz=>cond (Nat.blt n bY) (some (.slice (some (cond (Nat.beq m l) ⟨a.block,a.off,none⟩ ⟨a.block,a.off+l*sz,none⟩)) (h-l) (m-l))) none|none=>none
   |none=>none
 |_,_=>none
def j0(T:Tb)(tm:V O)(op:Op):M O :=
 match op with
 |.move x=>evalO tm x|.assign x=>evalO tm x
 |.pick c a b=>match evalO tm c with
  |some (.bool true)=>evalO tm a|some (.bool false)=>evalO tm b
  |_=>none
 |.build t ps=>match IY tm ps.toList with
  |some qs=>Mv T t qs|none=>none
 |.nilCheck x=>match evalO tm x with
  |some (.pointer (some a))=>some (.pointer (some a))|some (.func (.func f) a b)=>some (.func (.func f) a b)
  |_=>none
 |.binOp op t x y _=>match evalO tm x,evalO tm y with
  |some a,some b=>rD T op t a b|_,_=>none
 |.unOp op _ x=>match evalO tm x with
  |some a=>QK op a|none=>none
 |.convert s d x=>match evalO tm x with
  |some a=>convX T s d a|none=>none
 |.makeFunc fn first cap=>match kW tm first.toList,kW tm cap.toList with
  |some a,some b=>some (.func fn a.toArray b.toArray)|_,_=>none
 |.slice t x lo hi mx=>match evalO tm x,sD tm lo,sD tm hi,sD tm mx with
  |some a,some l,some h,some m=>o6 T t a l h m|_,_,_,_=>none
 |.fieldAddr t x f=>match evalO tm x with
  |some a=>Oa T t a f|none=>none
 |.field t x f=>match evalO tm x with
  |some a=>Mr T t a f|none=>none
 |.indexAddr t x i=>match evalO tm x,evalO tm i with
  |some a,some b=>Nu T t a b|_,_=>none
 |.index t x i=>match evalO tm x,evalO tm i with
  |some a,some b=>XK T t a b|_,_=>none
 |.extract x i=>match evalO tm x with
  |some a=>Gd a i|none=>none
 |.call c=>match c.callee with
  |.builtin .len=>match kW tm c.args.toList,c.argTypes.toList with
   |some [x],t::_=>FR T t x|_,_=>none
  |.builtin .cap=>match kW tm c.args.toList,c.argTypes.toList with
   |some [x],t::_=>LB T t x|_,_=>none
  |.builtin .max=>match kW tm c.args.toList with
   |some (x::l)=>yR R7 x l|_=>none
  |.builtin .min=>match kW tm c.args.toList with
   |some (x::l)=>yR R6 x l|_=>none
  |_=>none
 |_=>none
def rE(T:Tb)(kt:TypeId)(k:O):V MapEntry->Nat->M (M (Nat×O))
 |[],_=>some none|e::es,i=>match eqv T 50 kt k e.key with
  |some true=>some (some (i,e.val))|some false=>rE T kt k es (i+1)
  |none=>none
def Kb(T:Tb)(K:TypeId->O->D1)(cs:V O):V Field->D1
 |[]=>true|f::fs=>
  if f.name ≠ "_" then
   match GW T f.type cs f.offset with
   |none=>false|some v=>cond (K f.type v) (Kb T K cs fs) false
  else Kb T K cs fs
def pJ(T:Tb):Nat->TypeId->O->D1
 |0,_,_=>false|d+1,t,v=>match T.und t with
  |some (.int _)=>true|some .string=>true
  |some .bool=>true|some (.struct fs)=>match v with
   |.agg cs=>Kb T (pJ T d) cs.toList fs.toList|_=>false
  |_=>false
def ES(E:O->O->D1):V O->V O->D1
 |[],[]=>true|a::x,b::y=>cond (E a b) (ES E x y) false
 |_,_=>false
def AT:Nat->O->O->D1
 |0,_,_=>false|d+1,x,y=>match x,y with
  |.int k a,.int k' b=>cond (decide (k=k')) (decide (a=b)) false|.bool a,.bool b=>a==b
  |.string a,.string b=>lW a.data.toList b.data.toList|.agg a,.agg b=>ES (AT d) a.toList b.toList
  |_,_=>false
def cY(s:S)(i:Nat):M Row:=match lk s.h i with
 |some (.inl (_,_,1))=>none|some (.inl (l,e,0))=>some (l,e,0)
 |some (.inl (l,e,n+2))=>some (l,e,n+2)|_=>none
def F9(s:S)(i sz:Nat):M (V O):=match lk s.h i with
 |some (.inl (l,e,1))=>cond (Nat.beq e (sz+1)) (some l) none|some (.inl (l,_,n+2))=>cond (Nat.beq n sz) (some l) none
 |_=>none
def GZ(T:Tb)(s:S)(t:TypeId)(x:O)(lo hi mx:M O):M O :=
 match T.und t,x with
 |some (.slice e),.slice (some a) n c=>cond (Nat.blt c bY) none (match cT T e with
  |none=>none|some sz=>match F9 s a.block sz with
   |some l=>(cond (Nat.beq a.off (bR c*sz)) (cond (Nat.blt 0 sz)
    (match mx with
     |some v=>match jS v ((l.length-a.off)/sz)with
      |none=>none|some m=>cond (Nat.ble (a.off+m*sz) l.length) (match i8 n m lo hi (some v)with
       |some (l1,h,m)=>cond (Nat.blt m bY) (some (.slice (some (cond (Nat.beq m l1) ⟨a.block,a.off,none⟩ ⟨a.block,a.off+l1*sz,none⟩)) (h-l1) (m-l1))) none|none=>none) none
     |none=>match i8 n ((l.length-a.off)/sz) lo hi none with
      |none=>none|some (l1,h,_)=>cond (Nat.ble (a.off+h*sz) l.length)
       (match l1 with
        |0=>some (.slice (some ⟨a.block,a.off,none⟩) h c)|l1+1=>cond (Nat.blt (l1+1) h) (some (.slice (some ⟨a.block,a.off+(l1+1)*sz,none⟩) (h-(l1+1)) (c+(l1+1)))) none) none) none) none)
   |none=>none)
 |_,_=>none
def o4(T:Tb)(tm:V O)(s:S)(op:Op):M O :=
 match op with
 |.load t x=>match evalO tm x with
  |some (.pointer (some a))=>match lk s.h a.block with
   |some (.inl (l,_,_))=>match T.und t with
    |none=>none|some d=>cond (sF d) (match cT T t with
      |some n=>match xS l a.off n with
       |some cs=>some (.agg cs.toArray)|none=>none
      |none=>none) (nth l a.off)
   |_=>none
  |_=>none
 |.slice t x lo hi mx=>match evalO tm x,sD tm lo,sD tm hi,sD tm mx with
  |some a,some l,some h,some m=>GZ T s t a l h m|_,_,_,_=>none
 |.lookup t x k ok=>match T.und t,evalO tm x,evalO tm k with
  |some (.map kt et),some (.map r),some kv=>cond (pJ T 50 kt kv)
   (match (match r with
     |none=>some []|some r=>match lk s.h r with
      |some (.inr (es,_))=>some es|_=>none)with
    |none=>none|some es=>match rE T kt kv es 0 with
     |none=>none|some (some (_,v))=>some (cond ok (.tuple #[v,.bool true]) v)
     |some none=>match T.inf et with
      |some (_,_,z)=>some (cond ok (.tuple #[z,.bool false]) z)|none=>none) none
  |_,_,_=>none
 |.call c=>match c.callee with
  |.builtin .len=>match kW tm c.args.toList,c.argTypes.toList with
   |some [.map r],t::_=>match T.und t with
    |some (.map _ _)=>match r with
     |none=>some (.int .i64 0)|some r=>match lk s.h r with
      |some (.inr (es,_))=>some (.int .i64 es.length)|_=>none
    |_=>none
   |_,_=>none
  |_=>none
 |_=>none
def newRow(s:S)(l:V O)(e:TypeId)(md:Nat):S:=⟨(s.nx,.inl (l,e,md))::s.h,s.nx+1⟩
def cC(z:V O):Nat->V O
 |0=>[]|n+1=>z++cC z n
def tI:V O->D1
 |[]=>true|v::l=>cond v.oneCell' (tI l) false
def pL(s:S)(b:M Addr)(n:Nat):M (V O):=match n with
 |0=>some []|n+1=>match b with
  |none=>none|some a=>match lk s.h a.block with
   |some (.inl (l,_,_))=>xS l a.off (n+1)|_=>none
def yQ(need by_:Nat):D1:=cond (Nat.ble (need*by_) 140737488355328) (Nat.ble need 140737488355328) false
def X9(s:S)(e:TypeId)(sz by_:Nat)(z:O)(base:M Addr)(n c k:Nat)(new:V O):M (O×S):=
 cond (Nat.blt c bY) (cond (Nat.ble (n+k) c)
   (match base with
    |none=>none|some a=>match cY s a.block with
     |some (l,e',md)=>match uC l (a.off+n*sz) new with
      |some l'=>some (.slice (some ⟨a.block,a.off,none⟩) (n+k) c,⟨up s.h a.block (.inl (l',e',md)),s.nx⟩)|none=>none
     |none=>none)
   (match pL s base (n*sz)with
    |some old=>cond (yQ (n+k) by_) (cond (Nat.beq z.cells.toList.length sz)
      (some (.slice (some ⟨s.nx,0,none⟩) (n+k) bY,newRow s (old++new) e (sz+2))) none) none
    |none=>none))
  (match base with
   |none=>none|some a=>match cY s a.block with
    |some (l,e',md)=>cond (Nat.beq md (sz+2)) (cond (Nat.beq e' e) (cond (Nat.beq a.off (bR c*sz)) (cond (yQ (n+k) by_) (cond (Nat.beq z.cells.toList.length sz)
      (match xS l a.off (n*sz)with
       |some p=>some (.slice (some ⟨s.nx,0,none⟩) (n+k) bY,⟨(s.nx,.inl (p++new,e,sz+2))::rm s.h a.block,s.nx+1⟩)|none=>none) none) none) none) none) none
    |none=>none)
def xZ(T:Tb)(s:S)(t xt:TypeId)(sv x:O):M (O×S):=
 match T.und t,T.und xt,sv,x with
 |some (.slice e),some (.slice _),.slice base n c,.slice xb k _=>match T.inf e with
  |some (sz+1,by_,z)=>match pL s xb (k*(sz+1))with
   |none=>none|some new=>cond (tI new)
    (match k with
     |0=>cond (Nat.blt c bY) (cond (Nat.ble n c) (some (.slice base n c,s)) none)
      (match base with
       |some a=>match cY s a.block with
        |some (l,_,md)=>cond (Nat.beq md (sz+3)) (cond (Nat.beq a.off (bR c*(sz+1))) (match xS l a.off (n*(sz+1))with
         |some _=>some (.slice base n c,s)|none=>none) none) none
        |none=>none
       |none=>none)
     |k+1=>X9 s e (sz+1) by_ z base n c (k+1) new) none
  |_=>none
 |_,_,_,_=>none
def BG:O->D1
 |.chan (some _)=>true|_=>false
def yS(x:O):O:=cond (BG x) (.slice none 0 0) x
def w5(T:Tb)(s:S)(t xt:TypeId)(sv x:O):M (O×S):=
 cond (BG sv) (match xZ T s t xt (.slice none 0 0) (yS x)with
  |some (.slice none _ _,_)=>some (sv,s)|some (.slice (some a) n c,s')=>some (.slice (some a) n c,s')
  |_=>none) (xZ T s t xt sv (yS x))
def xa(T:Tb)(s:S)(t xt:TypeId)(sv x:O):M (O×S):=
 match T.und t,T.und xt,sv,x with
 |some (.slice e),some (.int _),.slice none 0 0,.int _ i=>match T.inf e with
  |some (sz+1,by_,z)=>match IntKind.i64.wrap i with
   |.ofNat (k+1)=>cond (yQ (k+1) by_) (cond (Nat.beq z.cells.toList.length (sz+1)) (cond (tI (cC z.cells.toList (k+1)))
     (some (.slice (some ⟨s.nx,0,none⟩) (k+1) bY,newRow s (cC z.cells.toList (k+1)) e (sz+1+2))) none) none) none
   |_=>none
  |_=>none
 |_,_,_,_=>none
def XX(T:Tb)(s:S)(t xt:TypeId)(sv x:O):M (O×S):=match w5 T s t xt sv x with
 |some r=>some r|none=>xa T s t xt sv x
def Kd(T:Tb)(s:S)(t:TypeId)(d x:O):M (O×S):=
 match T.und t,d,x with
 |some (.slice e),.slice base n _,.slice xb k _=>match cT T e with
  |none=>none|some sz=>match pL s xb (Nat.min k n*sz)with
   |none=>none|some cs=>cond (tI cs) (match cs with
    |[]=>some (.int .i64 (Nat.min k n),s)|_::_=>match base with
     |none=>none|some a=>match cY s a.block with
      |some (l,e',md)=>match uC l a.off cs with
       |some l'=>some (.int .i64 (Nat.min k n),⟨up s.h a.block (.inl (l',e',md)),s.nx⟩)|none=>none
      |none=>none) none
 |_,_,_=>none
def Ex(T:Tb)(s:S)(t:TypeId)(p v:O):M (O×S):=
 match p with
 |.pointer (some a)=>match cT T t with
  |none=>none|some n=>cond (Nat.beq v.cells.toList.length n) (cond (tI v.cells.toList) (match cY s a.block with
   |some (l,e,md)=>match uC l a.off v.cells.toList with
    |some l'=>some (undef,⟨up s.h a.block (.inl (l',e,md)),s.nx⟩)|none=>none
   |none=>none) none) none
 |_=>none
def XO(T:Tb)(s:S)(t:TypeId)(x:O):M (O×S):=
 match T.und t,x with
 |some (.slice e),.slice base n _=>match n with
  |0=>some (undef,s)|n+1=>match base with
   |none=>some (undef,s)|some a=>match T.inf e with
    |none=>none|some (_,_,z)=>cond (tI (cC z.cells.toList (n+1))) (match cY s a.block with
     |some (l,e',md)=>match uC l a.off (cC z.cells.toList (n+1))with
      |some l'=>some (undef,⟨up s.h a.block (.inl (l',e',md)),s.nx⟩)|none=>none
     |none=>none) none
 |_,_=>none
def Jz(T:Tb)(s:S)(t:TypeId)(l c:O):M (O×S):=
 match T.und t,l,c with
 |some (.slice e),.int _ a,.int _ b=>match T.inf e with
  |some (sz,by_,z)=>match IntKind.i64.wrap a,IntKind.i64.wrap b with
   |.ofNat n,.ofNat k=>cond (Nat.ble n k) (cond (Nat.ble (by_*k) 281474976710656) (cond (Nat.beq z.cells.toList.length sz)
     (cond (Nat.blt k bY) (some (.slice (some ⟨s.nx,0,none⟩) n k,newRow s (cC z.cells.toList k) e 0)) none) none) none) none
   |_,_=>none
  |none=>none
 |_,_,_=>none
def Oh(T:Tb)(s:S)(t:TypeId)(n:Nat)(ps:V (Nat×O)):M (O×S):=
 match T.und t with
 |some (.slice e)=>match T.inf e with
  |some (sz,_,z)=>cond (Nat.ble (n*sz) 16777216) (cond (Nat.beq z.cells.toList.length sz) (match F4 (fun i=>some (i*sz,sz)) (cC z.cells.toList n) ps with
   |some cs=>cond (Nat.blt n bY) (some (.slice (some ⟨s.nx,0,none⟩) n n,newRow s cs e 0)) none|none=>none) none) none
  |none=>none
 |_=>none
def Ey(T:Tb)(s:S)(t:TypeId)(x:O)(lo hi mx:M O):M (O×S):=
 match T.und t,x with
 |some (.slice e),.slice (some a) n c=>cond (Nat.blt c bY) none (match cT T e with
  |none=>none|some sz=>match F9 s a.block sz with
   |some l=>(cond (Nat.beq a.off (bR c*sz)) (cond (Nat.blt 0 sz)
    (match mx with
     |some v=>match jS v ((l.length-a.off)/sz)with
      |none=>none|some m=>cond (Nat.ble (a.off+m*sz) l.length) (match i8 n m lo hi (some v)with
       |some (l1,h,m)=>cond (Nat.blt m bY) (some (.slice (some (cond (Nat.beq m l1) ⟨a.block,a.off,none⟩ ⟨a.block,a.off+l1*sz,none⟩)) (h-l1) (m-l1),s)) none|none=>none) none
     |none=>match i8 n ((l.length-a.off)/sz) lo hi none with
      |none=>none|some (l1,h,_)=>cond (Nat.ble (a.off+h*sz) l.length)
       (match l1 with
        |0=>some (.slice (some ⟨a.block,a.off,none⟩) h c,s)|l1+1=>cond (Nat.blt (l1+1) h) (some (.slice (some ⟨a.block,a.off+(l1+1)*sz,none⟩) (h-(l1+1)) (c+(l1+1)),s))
          (some (.slice (some ⟨s.nx,0,none⟩) 0 bY,⟨s.h,s.nx+1⟩))) none) none) none)
   |none=>none)
 |_,_=>none
def DQ(s:S)(r:Nat):M (V MapEntry×Nat):=match lk s.h r with
 |some (.inr x)=>some x|_=>none
def NU(s:S)(r:Nat)(es:V MapEntry)(cl:Nat):S:=⟨up s.h r (.inr (es,cl)),s.nx⟩
def N4(es:V MapEntry)(i:Nat)(f:MapEntry->MapEntry):V MapEntry:=match es,i with
 |[],_=>[]|e::es,0=>f e::es
 |e::es,i+1=>e::N4 es i f
def RB(b:Int):V MapEntry->Nat->M Nat
 |[],_=>none|e::es,i=>cond (decide ((e.born:Int)=b)) (some i) (RB b es (i+1))
def XH(T:Tb)(s:S)(t:TypeId)(m k v:O):M (O×S):=
 match T.und t,m with
 |some (.map kt _),.map (some r)=>cond (pJ T 50 kt k) (cond (plain k) (match DQ s r with
  |none=>none|some (es,cl)=>match rE T kt k es 0 with
   |none=>none|some none=>some (undef,NU s r (es++[{ key:=k,val:=v,born:=cl }]) (cl+1))
   |some (some (i,_))=>match nth es i with
    |none=>none|some e=>cond (AT 50 e.key k) (some (undef,NU s r (N4 es i fun e=>{ e with val:=v }) cl)) none) none) none
 |_,_=>none
def Ft(T:Tb)(s:S)(t:TypeId)(m k:O):M (O×S):=
 match T.und t,m with
 |some (.map kt et),.map (some r)=>cond (pJ T 50 kt k) (cond (plain k) (match DQ s r with
  |none=>none|some (es,cl)=>match rE T kt k es 0 with
   |none=>none|some none=>match T.inf et with
    |none=>none|some (_,_,z)=>some (.tuple #[z,.int .i64 cl],NU s r (es++[{ key:=k,val:=z,born:=cl }]) (cl+1))
   |some (some (i,v))=>match nth es i with
    |none=>none|some e=>cond (AT 50 e.key k) (some (.tuple #[v,.int .i64 e.born],NU s r es cl)) none) none) none
 |_,_=>none
def Ms(s:S)(m st v:O):M (O×S):=
 match m,st with
 |.map (some r),.int _ b=>match DQ s r with
  |none=>none|some (es,cl)=>match RB b es 0 with
   |none=>none|some i=>some (undef,NU s r (N4 es i fun e=>{ e with val:=v }) cl)
 |_,_=>none
def XM(es:V MapEntry)(i:Nat):V MapEntry:=match es,i with
 |[],_=>[]|_::es,0=>es
 |e::es,i+1=>e::XM es i
def GC(T:Tb)(s:S)(t:TypeId)(m k:O):M (O×S):=
 match T.und t,m with
 |some (.map kt _),.map none=>cond (pJ T 50 kt k) (some (undef,s)) none|some (.map kt _),.map (some r)=>cond (pJ T 50 kt k) (match DQ s r with
  |none=>none|some (es,cl)=>match rE T kt k es 0 with
   |none=>none|some none=>some (undef,NU s r es cl)
   |some (some (i,_))=>some (undef,NU s r (XM es i) cl)) none
 |_,_=>none
def uD(T:Tb)(tm:V O)(s:S)(op:Op):M (O×S):=
 match op with
 |.alloc e=>match T.inf e with
  |some (_,_,z)=>some (.pointer (some ⟨s.nx,0,none⟩),newRow s z.cells.toList e 0)|none=>none
 |.box e x=>match evalO tm x with
  |some v=>some (.pointer (some ⟨s.nx,0,none⟩),newRow s v.cells.toList e 0)|none=>none
 |.store t a x=>match evalO tm a,evalO tm x with
  |some p,some v=>Ex T s t p v|_,_=>none
 |.buildSlice t n ps=>match IY tm ps.toList with
  |some qs=>Oh T s t n qs|none=>none
 |.makeSlice t l c=>match evalO tm l,evalO tm c with
  |some a,some b=>Jz T s t a b|_,_=>none
 |.makeMap _ none=>some (.map (some s.nx),⟨(s.nx,.inr ([],0))::s.h,s.nx+1⟩)|.slice t x lo hi mx=>match evalO tm x,sD tm lo,sD tm hi,sD tm mx with
  |some a,some l,some h,some m=>Ey T s t a l h m|_,_,_,_=>none
 |.mapUpdate t m k x=>match evalO tm m,evalO tm k,evalO tm x with
  |some a,some b,some v=>XH T s t a b v|_,_,_=>none
 |.insert t m k x=>match evalO tm m,evalO tm k,evalO tm x with
  |some a,some b,some v=>XH T s t a b v|_,_,_=>none
 |.mapEntry t m k=>match evalO tm m,evalO tm k with
  |some a,some b=>Ft T s t a b|_,_=>none
 |.entryStore _ m st x=>match evalO tm m,evalO tm st,evalO tm x with
  |some a,some b,some v=>Ms s a b v|_,_,_=>none
 |.call c=>match c.callee with
  |.builtin .append=>match kW tm c.args.toList,c.argTypes.toList with
   |some [a,b],[t,xt]=>XX T s t xt a b|_,_=>none
  |.builtin .copy=>match kW tm c.args.toList,c.argTypes.toList with
   |some [a,b],t::_=>Kd T s t a b|_,_=>none
  |.builtin .delete=>match kW tm c.args.toList,c.argTypes.toList with
   |some [a,b],t::_=>GC T s t a b|_,_=>none
  |.builtin .clear=>match kW tm c.args.toList,c.argTypes.toList with
   |some [a],t::_=>XO T s t a|_,_=>none
  |_=>none
 |_=>none
def callOf(T:Tb)(tm:V O)(op:Op):M (FuncId×V O):=
 match op with
 |.call c=>match c.callee with
  |.value f=>match evalO tm f with
   |some (.func (.func g) first cap)=>match T.fn g with
    |some fn=>cond fn.body.isSome (match kW tm c.args.toList with
     |some args=>some (g,first.toList++args++cap.toList)|none=>none) none
    |none=>none
   |_=>none
  |_=>none
 |_=>none
abbrev GY:=FuncId->V O->S->M (O×S)
def BA(T:Tb)(call:GY)(tm:V O)(s:S)(op:Op):M (O×S):=
 match j0 T tm op with
 |some v=>some (v,s)|none=>match o4 T tm s op with
  |some v=>some (v,s)|none=>match uD T tm s op with
   |some r=>some r|none=>match callOf T tm op with
    |some (f,args)=>call f args s|none=>none
def C3(aB:V Oper)(j:Nat):M Tmp:=match nth aB j with
 |some o=>o.dst|none=>none
def Na(aB:V Oper)(tm:V O)(o:Oper):D1 :=
 match o.guard with
 |none=>true|some (j,want)=>match C3 aB j with
  |none=>false|some d=>match nth tm d with
   |some (.bool b)=>b==want|_=>false
def LQ(tm:V O)(d:M Tmp)(v:O):V O:=match d with
 |none=>tm|some d=>tm.set d v
def Zp(a b:Addr):D1:=match a.spot,b.spot with
 |none,none=>cond (Nat.beq a.block b.block) (Nat.beq a.off b.off) false|_,_=>false
def SV:M Addr->M Addr->D1
 |none,none=>true|some a,some b=>Zp a b
 |_,_=>false
def Mb:M Nat->M Nat->D1
 |none,none=>true|some a,some b=>Nat.beq a b
 |_,_=>false
def Xg:Fn->Fn->D1
 |.func f,.func g=>Nat.beq f g|_,_=>false
mutual
def QH:O->O->D1
 |.bool a,y=>match y with
  |.bool b=>a==b|_=>false
 |.int k a,y=>match y with
  |.int k' b=>cond (decide (k=k')) (decide (a=b)) false|_=>false
 |.string a,y=>match y with
  |.string b=>lW a.data.toList b.data.toList|_=>false
 |.pointer p,y=>match y with
  |.pointer q=>SV p q|_=>false
 |.slice p n c,y=>match y with
  |.slice q n' c'=>cond (SV p q) (cond (Nat.beq n n') (Nat.beq c c') false) false|_=>false
 |.map p,y=>match y with
  |.map q=>Mb p q|_=>false
 |.nilFunc,y=>match y with
  |.nilFunc=>true|_=>false
 |.nilIface,y=>match y with
  |.nilIface=>true|_=>false
 |.func f ⟨a⟩ ⟨b⟩,y=>match y with
  |.func g ⟨c⟩ ⟨d⟩=>cond (Xg f g) (cond (Mh a c) (Mh b d) false) false|_=>false
 |.agg ⟨a⟩,y=>match y with
  |.agg ⟨b⟩=>Mh a b|_=>false
 |.tuple ⟨a⟩,y=>match y with
  |.tuple ⟨b⟩=>Mh a b|_=>false
 |_,_=>false
def Mh:V O->V O->D1
 |[],y=>match y with
  |[]=>true|_=>false
 |a::x,y=>match y with
  |b::y=>cond (QH a b) (Mh x y) false|_=>false
end
abbrev Rec:=V O×Oper×O×Nat×S×S
def tq(T:Tb)(call:GY)(aB:V Oper)(tm:V O)(s:S)(o:Oper):M (O×Nat×S):=
 cond (Na aB tm o)
  (match j0 T tm o.op with
   |some v=>some (v,0,s)|none=>match o4 T tm s o.op with
    |some v=>some (v,1,s)|none=>match BA T call tm s o.op with
     |some (v,s')=>some (v,2,s')|none=>none)
  (some (undef,0,s))
def zcb(T:Tb)(call:GY)(aB:V Oper):V Oper->V O->S->M (V Rec×V O×S)
 |[],tm,s=>some ([],tm,s)|o::r,tm,s=>match tq T call aB tm s o with
  |none=>none|some (v,k,s')=>match zcb T call aB r (LQ tm o.dst v) s' with
   |none=>none|some (l,tm',s'')=>some ((tm,o,v,k,s,s')::l,tm',s'')
def NR(bD:V Nat):V Edge->Nat
 |[]=>0|e::r=>cond (Region.binds .any e) ((2^e.on|||(match nth bD e.on with
  |some x=>x|none=>0))|||NR bD r) (NR bD r)
def eE:V Oper->V Nat->V Nat
 |[],bD=>bD|o::r,bD=>eE r (bD++[NR bD o.after.toList])
def FO(i:Nat):V Edge->D1
 |[]=>true|e::r=>cond (Region.binds .any e) (cond (Nat.blt e.on i) (FO i r) false) (FO i r)
def tmpsOf:V EW->V Tmp
 |[]=>[]|.tmp t::r=>t::tmpsOf r
 |_::r=>tmpsOf r
def NV(aB:V Oper)(o:Oper):V Tmp:=match o.guard with
 |none=>tmpsOf o.op.operands.toList|some (j,_)=>match C3 aB j with
  |none=>tmpsOf o.op.operands.toList|some d=>d::tmpsOf o.op.operands.toList
def br(lk:V Tmp)(di:M Tmp)(i mi k mk:Nat)(dk:M Tmp):D1:=match dk with
 |none=>true|some d=>cond (Nat.beq i k) true (cond (match di with |none=>false |some d'=>Nat.beq d d') false
   (cond (lk.any (Nat.beq d)) (cond (Nat.testBit mi k) true (Nat.testBit mk i)) true))
def rowOk(lk:V Tmp)(di:M Tmp)(i mi:Nat):V Oper->V Nat->Nat->D1
 |o::r,mk::ms,k=>cond (br lk di i mi k mk o.dst) (rowOk lk di i mi r ms (k+1)) false|[],_,_=>true
 |_::_,[],_=>false
def Kh(aB:V Oper)(ms:V Nat):V Oper->V Nat->Nat->D1
 |o::r,mi::mr,i=>cond (FO i o.after.toList) (cond (rowOk (NV aB o) o.dst i mi aB ms 0) (Kh aB ms r mr (i+1)) false) false|[],_,_=>true
 |_::_,[],_=>false
def z1a(T:Tb)(tm:V O)(op:Op)(v:O)(s:S):D1:=match o4 T tm s op with
 |some u=>QH u v|none=>false
def zc7(T:Tb)(tm:V O)(op:Op)(v:O)(i mi:Nat):V Rec->V Nat->Nat->D1
 |(_,_,_,kd,s,s')::r,mk::ms,k=>cond (Nat.beq kd 2)
   (cond (Nat.blt k i) (cond (Nat.testBit mi k) true (z1a T tm op v s)) (cond (Nat.testBit mk i) true (z1a T tm op v s')))
   true&&zc7 T tm op v i mi r ms (k+1)
 |[],_,_=>true|_::_,[],_=>false
def zaz(i mi:Nat):V Rec->Nat->D1
 |(_,_,_,kd,_,_)::r,k=>cond (Nat.blt k i) (cond (Nat.beq kd 2) (Nat.testBit mi k) true) true&&zaz i mi r (k+1)|[],_=>true
def zc4(T:Tb)(rs:V Rec)(ms:V Nat):V Rec->V Nat->Nat->D1
 |(tm,o,v,kd,_,_)::r,mi::mr,i=>cond (Nat.beq kd 0) true (cond (Nat.beq kd 1) (zc7 T tm o.op v i mi rs ms 0) (zaz i mi rs 0))&&zc4 T rs ms r mr (i+1)|[],_,_=>true
 |_::_,[],_=>false
def Y9(aB:V Oper):D1:=Kh aB (eE aB []) aB (eE aB []) 0
def EN(T:Tb)(tm:V O)(s:S):V ResultVar->M (V O)
 |[]=>some []|.tmp t::r=>match nth tm t with
  |some v=>match EN T tm s r with
   |some l=>some (v::l)|none=>none
  |none=>none
 |.cell a t::r=>match o4 T tm s (.load t (.tmp a))with
  |some v=>match EN T tm s r with
   |some l=>some (v::l)|none=>none
  |none=>none
def sC:V O->O
 |[v]=>v|l=>.tuple l.toArray
def pad:Nat->V O->V O
 |0,l=>l|n+1,[]=>undef::pad n []
 |n+1,v::l=>v::pad n l
def EU(P:H0)(eqs:V TypeId):Tb where
 und t:=match nth P.types.toList t with
  |none=>none|some i=>match i.desc with
   |.named _ u=>match nth P.types.toList u with
    |some j=>some j.desc|none=>none
   |d=>some d
 inf t:=match nth P.types.toList t with
  |none=>none|some i=>match i.zero with
   |some z=>cond (plain z) (some (i.size,i.bytes,z)) none|none=>none
 fn f:=nth P.funcs.toList f
 eqs t:=eqs.any (Nat.beq t)
end Go.Rx
