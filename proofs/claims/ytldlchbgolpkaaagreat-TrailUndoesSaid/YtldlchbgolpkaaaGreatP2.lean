import Derived.Calls
import Derived.Orders
import Derived.Below
import Derived.Laws.CopyRow
import Derived.KernelRfl
import Derived.Test.YtldlchbgolpkaaaGreatP1
set_option linter.all false
namespace Go.Rx
open Go
structure Nm where
 blk:Nat->Nat
 sh:Nat->Nat
 cp:Nat->Nat
def bX:Nat:=18446744073709551616
def bQ(c:Nat):Nat:=c-bX
def bW(m:Nm)(i c:Nat):Nat:=if c<bX then c else m.cp i-bQ c
mutual
def aI(m:Nm):Value->Value
 |.pointer (some a)=>.pointer (some ⟨m.blk a.block,m.sh a.block+a.off,none⟩)|.slice (some a) n c=>.slice (some ⟨m.blk a.block,m.sh a.block+a.off,none⟩) n (bW m a.block c)
 |.map (some r)=>.map (some (m.blk r))|.func fn first cap=>.func fn (E7 m first) (E7 m cap)
 |.iface t v=>.iface t (aI m v)|.agg cs=>.agg (E7 m cs)
 |.tuple cs=>.tuple (E7 m cs)|.bool b=>.bool b
 |.int k n=>.int k n|.float k n=>.float k n
 |.complex k a b=>.complex k a b|.string s=>.string s
 |.pointer none=>.pointer none|.slice none n c=>.slice none n c
 |.map none=>.map none|.chan (some r)=>.slice (some ⟨m.blk r,m.sh r,some (m.cp r)⟩) 0 0
 |.chan none=>.chan none|.nilFunc=>.nilFunc
 |.nilIface=>.nilIface
def E7(m:Nm):Array Value->Array Value
 |⟨l⟩=>⟨aJ m l⟩
def aJ(m:Nm):List Value->List Value
 |[]=>[]|v::l=>aI m v::aJ m l
end
theorem mR(m:Nm)(l:List Value):aJ m l=l.map (aI m):=by
 induction l with|nil=>simp[aJ]|cons v l ih=>simp[aJ,ih]
theorem zbm(m:Nm)(a:Array Value):E7 m a=a.map (aI m):=by
 cases a;simp[E7,mR]
@[simp] theorem iE(m:Nm)(l:List Value):E7 m ⟨l⟩=⟨aJ m l⟩:=by simp[E7]
@[simp] theorem yT(m:Nm)(l:List Value):(aJ m l).length=l.length:=by simp[mR]
@[simp] theorem EK(m:Nm)(a:Array Value):(E7 m a).size=a.size:=by simp[zbm]
@[simp] theorem lM(m:Nm)(a:Array Value):(E7 m a).toList=aJ m a.toList:=by cases a;simp
theorem yS(m:Nm)(a b:List Value):aJ m (a++b)=aJ m a++aJ m b:=by simp[mR]
theorem qwz(m:Nm)(v:Value):(aI m v).oneCell'=v.oneCell':=by
 cases v with
 |pointer a=>cases a<;>rfl|slice a n c=>cases a<;>rfl
 |map r=>cases r<;>rfl|chan r=>cases r<;>rfl
 |_=>rfl
theorem jg(m:Nm)(v:Value):(aI m v).cells=E7 m v.cells:=by
 cases v with
 |pointer a=>cases a<;>simp[aI,Value.cells,aJ]|slice a n c=>cases a<;>simp[aI,Value.cells,aJ]
 |map r=>cases r<;>simp[aI,Value.cells,aJ]|chan r=>cases r<;>simp[aI,Value.cells,aJ]
 |_=>simp[aI,Value.cells,aJ]
abbrev Row:=List Value×TypeId×Nat
abbrev lK:=Row ⊕ (List MapEntry×Nat)
abbrev Hp:=List (Nat×lK)
def lk:Hp->Nat->Option lK
 |[],_=>none|(j,b)::h,i=>cond (Nat.beq j i) (some b) (lk h i)
def up:Hp->Nat->lK->Hp
 |[],_,_=>[]|(j,b)::h,i,c=>cond (Nat.beq j i) ((j,c)::h) ((j,b)::up h i c)
def rm:Hp->Nat->Hp
 |[],_=>[]|(j,b)::h,i=>cond (Nat.beq j i) (rm h i) ((j,b)::rm h i)
theorem beq_eq(j i:Nat):Nat.beq j i=decide (j=i):=by
 rw[Bool.eq_iff_iff];simp[Nat.beq_eq]
theorem mS(j:Nat)(b:lK)(h:Hp)(i:Nat):lk ((j,b)::h) i=if j=i then some b else lk h i:=by
 simp only[lk,beq_eq];by_cases e:j=i<;>simp[e]
theorem AP(h:Hp)(i:Nat)(c:lK)(j:Nat):lk (up h i c) j=if i=j then(lk h i).map (fun _=>c)else lk h j:=by
 induction h with|nil=>simp[up,lk]|cons x h ih=>obtain⟨k,b⟩:=x;simp only[up,beq_eq];by_cases e:k=i;subst e;simp only[yC,zC,mS];by_cases e2:k=j<;>simp[e2];simp only[e,yB,zD,mS,ih];by_cases e2:i=j;subst e2;simp[e];by_cases e3:k=j<;>simp[e2,e3]
theorem qu(h:Hp)(i j:Nat):lk (rm h i) j=if i=j then none else lk h j:=by
 induction h with|nil=>simp[rm,lk]|cons x h ih=>obtain⟨k,b⟩:=x;simp only[rm,beq_eq];by_cases e:k=i;subst e;simp only[yC,zC,mS,ih];by_cases e2:k=j<;>simp[e2];simp only[e,yB,zD,mS,ih];by_cases e2:i=j;subst e2;simp[e];by_cases e3:k=j<;>simp[e2,e3]
structure S where
 h:Hp
 nx:Nat
def eX(m:Nm)(e:MapEntry):MapEntry:={ key:=aI m e.key,val:=aI m e.val,born:=e.born }
def D7(m:Nm)(i:Nat)(l:List Value)(e:TypeId)(w:World):Nat->Prop
 |0=>m.sh i=0/\w.heap[m.blk i]? = some (.cells (aJ m l).toArray e (0,0))|1=>∃c e' fr,w.heap[m.blk i]? = some (.cells c e' fr)/\(∀k v,l[k]? = some v->c[m.sh i+k]? = some (aI m v))/\∀n,e=n+1->l.length<=m.cp i*n
 |n+2=>∃pre rest,w.heap[m.blk i]? = some (.cells (pre++aJ m l++rest).toArray e (0,0))/\pre.length=m.sh i/\l.length+rest.length=m.cp i*n
def yP(m:Nm)(i:Nat)(w:World):lK->Prop
 |.inl (l,e,md)=>D7 m i l e w md|.inr (es,clock)=>w.heap[m.blk i]? = some (.map (es.map (eX m)).toArray clock)
def Own:lK->Bool
 |.inl (_,_,1)=>false|_=>true
structure Fits(m:Nm)(s:S)(w:World):Prop where
 ok:∀i b,lk s.h i=some b->yP m i w b
 inj:∀i j b c,lk s.h i=some b->lk s.h j=some c->i≠j->Own b=true->m.blk i≠m.blk j
 bd:∀i b,lk s.h i=some b->i<s.nx
def aM(n:Nat)(m m':Nm):Prop:=∀i,i<n->m'.blk i=m.blk i/\m'.sh i=m.sh i/\m'.cp i=m.cp i
theorem aM.refl(n:Nat)(m:Nm):aM n m m:=fun _ _=>⟨rfl,rfl,rfl⟩
theorem aM.trans{n k:Nat}{a b c:Nm}(h:aM n a b)(h':aM k b c)(hk:n<=k):aM n a c:=fun i hi=>by
 obtain⟨a1,a2,a3⟩:=h i hi;obtain⟨b1,b2,b3⟩:=h' i (by omega);exact⟨b1.trans a1,b2.trans a2,b3.trans a3⟩
variable{n:Nat}
theorem aM.mono{k:Nat}{a b:Nm}(h:aM n a b)(hk:k<=n):aM k a b:=fun i hi=>h i (by omega)
def i4(m:Nm)(s:S)(w:World):Prop:=∀m',aM s.nx m m'->Fits m' s w
def eZ(m:Nm)(n:Nat)(v cv:Value):Prop:=∀m',aM n m m'->aI m' v=cv
def nQ(m:Nm)(n:Nat)(v cv:List Value):Prop:=∀m',aM n m m'->aJ m' v=cv
variable{m:Nm}
variable{s:S}
variable{w:World}
theorem i4.fits(h:i4 m s w):Fits m s w:=h m (aM.refl _ _)
theorem eZ.at{v cv:Value}(h:eZ m n v cv):aI m v=cv:=h m (aM.refl _ _)
theorem nQ.at{v cv:List Value}(h:nQ m n v cv):aJ m v=cv:=h m (aM.refl _ _)
theorem eZ.ext{m':Nm}{n':Nat}{v cv:Value}(h:eZ m n v cv)(ha:aM n m m')(hn:n<=n'):eZ m' n' v cv :=
 fun k hk=>h k (ha.trans hk hn)
theorem nQ.ext{m':Nm}{n':Nat}{v cv:List Value}(h:nQ m n v cv)(ha:aM n m m')(hn:n<=n'):nQ m' n' v cv :=
 fun k hk=>h k (ha.trans hk hn)
def R6(m:Nm)(s:S)(b:Nat):Prop:=∃i c,lk s.h i=some c/\Own c=true/\m.blk i=b
structure bP(m:Nm)(s:S)(w:World)(aH:Nm)(bJ:S)(w₁:World):Prop where
 agree:aM s.nx m aH
 nx:s.nx<=bJ.nx
 fits:i4 aH bJ w₁
 own:∀b,R6 aH bJ b->R6 m s b\/w.heap.size<=b
 same:∀b,b<w.heap.size->¬ R6 m s b->w₁.heap[b]? = w.heap[b]?
 size:w.heap.size<=w₁.heap.size
 os:w₁.os=w.os
 tape:w₁.tape=w.tape
 output:w₁.output=w.output
theorem bP.refl{m:Nm}{s:S}{w:World}(h:i4 m s w):bP m s w m s w :=
 ⟨aM.refl _ _,zF _,h,fun _ h=>.inl h,fun _ _ _=>rfl,zF _,rfl,rfl,rfl⟩
theorem bP.trans{m aH FH:Nm}{s bJ Nc:S}{w w₁ nX:World}(h:bP m s w aH bJ w₁)(k:bP aH bJ w₁ FH Nc nX):bP m s w FH Nc nX:=by
 refine⟨h.agree.trans k.agree h.nx,Nat.le_trans h.nx k.nx,k.fits,fun b hb=>?_,fun b hb hn=>?_,Nat.le_trans h.size k.size,k.os.trans h.os,k.tape.trans h.tape,k.output.trans h.output⟩;rcases k.own b hb with h1 |h1;exact h.own b h1;exact .inr (Nat.le_trans h.size h1);have h1:¬ R6 aH bJ b:=fun ho=>by rcases h.own b ho with h2 |h2;exact hn h2;omega
 rw[k.same b (Nat.lt_of_lt_of_le hb h.size) h1,h.same b hb hn]
theorem bP.below{aH:Nm}{bJ:S}{w₁:World}(h:bP m s w aH bJ w₁)(hs:∀b,¬ R6 m s b):RowKit.Below w.heap.size w w₁ :=
 ⟨h.os,h.tape,h.output,h.size,fun k hk=>h.same k hk (hs k)⟩
theorem Fits.size{m:Nm}{s:S}{w:World}(h:Fits m s w){i:Nat}{b:lK}(hb:lk s.h i=some b):m.blk i<w.heap.size:=by
 have:=h.ok i b hb;rcases Nat.lt_or_ge (m.blk i) w.heap.size with hl |hg;exact hl;exfalso;rcases b with⟨l,e,md⟩|⟨es,clock⟩;rcases md with _ |_ |n;simp[yP,D7,Array.getElem?_eq_none hg]at this;simp[yP,D7,Array.getElem?_eq_none hg]at this;simp[yP,D7,Array.getElem?_eq_none hg]at this;simp[yP,Array.getElem?_eq_none hg]at this
theorem jv(n:Nat)(h:i4 m s w):i4 m s { w with drawn:=n }:=fun m' ha=>by
 obtain⟨h1,h2,h3⟩:=h m' ha;refine⟨fun i b hb=>?_,h2,h3⟩;have:=h1 i b hb;rcases b with⟨l,e,md⟩|⟨es,clock⟩;rcases md with _ |_ |n<;>exact this;exact this
theorem bP.draw(n:Nat)(h:i4 m s w):bP m s w m s { w with drawn:=n }:=
 ⟨aM.refl _ _,zF _,jv n h,fun _ h=>.inl h,fun _ _ _=>rfl,zF _,rfl,rfl,rfl⟩
def Nm.set(m:Nm)(i b sh cp:Nat):Nm :=
 { blk:=fun j=>if j=i then b else m.blk j,sh:=fun j=>if j=i then sh else m.sh j,cp:=fun j=>if j=i then cp else m.cp j }
theorem Nm.agree_set(m:Nm)(i b sh cp:Nat):aM i m (m.set i b sh cp):=fun j hj=>by
 simp[Nm.set,show j≠i by omega]
theorem yP.world{i:Nat}{w':World}{b:lK}(h:yP m i w b)(hw:w'.heap[m.blk i]? = w.heap[m.blk i]?):yP m i w' b:=by
 rcases b with⟨l,e,md⟩|⟨es,clock⟩;rcases md with _ |_ |n<;>(simp only[yP,D7]at*;rw[hw];exact h);simp only[yP]at*;rw[hw];exact h
theorem bP.alloc{m:Nm}{s:S}{w:World}(h:i4 m s w)(o:Obj)(b:lK)(cp:Nat)
  (hb:∀m',aM (s.nx+1) (m.set s.nx w.heap.size 0 cp) m'->yP m' s.nx (w.alloc o) b):
  bP m s w (m.set s.nx w.heap.size 0 cp) ⟨(s.nx,b)::s.h,s.nx+1⟩ (w.alloc o):=by
 have kZ:∀k,k<w.heap.size->(w.alloc o).heap[k]? = w.heap[k]?:=fun k hk=>RowKit.Below.heap_alloc w o k hk;refine⟨Nm.agree_set m _ _ _ _,Nat.le_succ _,?_,?_,fun b hb _=>kZ b hb,by simp,rfl,rfl,rfl⟩;intro m' ha;have tM:aM s.nx m m':=(Nm.agree_set m s.nx w.heap.size 0 cp).trans ha (Nat.le_succ _);have hf:=h m' tM;have i7:m'.blk s.nx=w.heap.size:=by have:=(ha s.nx (zN _)).1;simpa[Nm.set]using this
 refine⟨fun i c hc=>?_,fun i j c d hc hd lS ho=>?_,fun i c hc=>?_⟩;simp only[mS]at hc;by_cases e:s.nx=i;subst e;simp only[if_true,zA]at hc;subst hc;exact hb m' ha;simp only[e,if_false]at hc;exact(hf.ok i c hc).world (kZ _ (hf.size hc));simp only[mS]at hc hd;by_cases e:s.nx=i;subst e;have hj:s.nx≠j:=lS;simp only[hj,if_false]at hd;have:=hf.size hd;omega;simp only[e,if_false]at hc;by_cases e2:s.nx=j;subst e2;have:=hf.size hc;omega;simp only[e2,if_false]at hd;exact hf.inj i j c d hc hd lS ho;simp only[mS]at hc;by_cases e:s.nx=i;subst e;exact zN _;simp only[e,if_false]at hc;exact Nat.lt_succ_of_lt (hf.bd i c hc);rintro b ⟨i,c,hc,ho,rfl⟩;simp only[mS]at hc;by_cases e:s.nx=i;subst e;right;simp[Nm.set];simp only[e,if_false]at hc;left;refine⟨i,c,hc,ho,?_⟩;have:=h.fits.bd i c hc;simp[Nm.set,show i≠s.nx by omega]
theorem bP.write{w':World}(h:i4 m s w){i:Nat}{b c:lK}(hb:lk s.h i=some b)(N3:Own b=true)
  (hw:∀k,k≠m.blk i->w'.heap[k]? = w.heap[k]?) (dR:w'.heap.size=w.heap.size) (h1:w'.os=w.os) (h2:w'.tape=w.tape) (h3:w'.output=w.output) (_h4:w.drawn<=w'.drawn)
  (hc:∀m',aM s.nx m m'->yP m' i w' c):
  bP m s w m ⟨up s.h i c,s.nx⟩ w':=by
 refine⟨aM.refl _ _,zF _,?_,?_,?_,by omega,h1,h2,h3⟩;intro m' ha;have hf:=h m' ha;have AA:m'.blk i=m.blk i:=(ha i (hf.bd i b hb)).1;refine⟨fun j d hd=>?_,fun j k d e hd he nK ho=>?_,fun j d hd=>?_⟩;simp only[AP]at hd;by_cases e:i=j;subst e;simp only[if_true,hb,zM,zA]at hd;subst hd;exact hc m' ha;simp only[e,if_false]at hd;refine(hf.ok j d hd).world (hw _ ?_);rw[<-AA];exact fun x=>hf.inj i j b d hb hd e N3 x.symm;have key:∀j d,lk (up s.h i c) j=some d->∃d',lk s.h j=some d'/\(Own d=true->Own d'=true):=fun j d hd=>by simp only[AP]at hd;by_cases e:i=j;subst e;exact⟨b,hb,fun _=>N3⟩;simp only[e,if_false]at hd;exact⟨d,hd,id⟩
 obtain⟨d',bG,od⟩:=key j d hd;obtain⟨e',NA,_⟩:=key k e he;exact hf.inj j k d' e' bG NA nK (od ho);simp only[AP]at hd;by_cases e:i=j;subst e;exact hf.bd i b hb;simp only[e,if_false]at hd;exact hf.bd j d hd;rintro k ⟨j,d,hd,ho,rfl⟩;left;simp only[AP]at hd;by_cases e:i=j;subst e;exact⟨i,b,hb,N3,rfl⟩;simp only[e,if_false]at hd;exact⟨j,d,hd,ho,rfl⟩;intro k hk hn;exact hw k fun e=>hn ⟨i,b,hb,N3,e.symm⟩
theorem bP.forget(h:i4 m s w)(i:Nat):bP m s w m ⟨rm s.h i,s.nx⟩ w:=by
 have key:∀j d,lk (rm s.h i) j=some d->lk s.h j=some d:=fun j d hd=>by simp only[qu]at hd;by_cases e:i=j;simp[e]at hd;simpa[e]using hd
 refine⟨aM.refl _ _,zF _,fun m' ha=>?_,?_,fun _ _ _=>rfl,zF _,rfl,rfl,rfl⟩;have hf:=h m' ha;exact⟨fun j d hd=>hf.ok j d (key j d hd),fun j k d e hd he=>hf.inj j k d e (key j d hd) (key k e he),fun j d hd=>hf.bd j d (key j d hd)⟩;rintro k ⟨j,d,hd,ho,rfl⟩;exact .inl ⟨j,d,key j d hd,ho,rfl⟩
structure Tb where
 und:TypeId->Option TypeDesc
 inf:TypeId->Option (Nat×Nat×Value)
 fn:FuncId->Option Func
 eqs:TypeId->Bool
mutual
def plain:Value->Bool
 |.bool _=>true|.int _ _=>true
 |.string _=>true|.pointer none=>true
 |.slice none _ _=>true|.map none=>true
 |.nilFunc=>true|.nilIface=>true
 |.agg ⟨l⟩=>S9 l|.tuple ⟨l⟩=>S9 l
 |_=>false
def S9:List Value->Bool
 |[]=>true|v::l=>cond (plain v) (S9 l) false
end
def nth{O:Type}:List O->Nat->Option O
 |[],_=>none|a::_,0=>some a
 |_::l,n+1=>nth l n
def IR:List Value->Nat->Option (List Value)
 |_,0=>some []|[],_+1=>none
 |v::l,n+1=>match IR l n with
  |some r=>some (v::r)|none=>none
def xK(l:List Value)(off n:Nat):Option (List Value):=IR (l.drop off) n
def GL:List Value->List Value->Option (List Value)
 |l,[]=>some l|[],_::_=>none
 |_::l,v::vs=>match GL l vs with
  |some r=>some (v::r)|none=>none
def tZ:List Value->Nat->List Value->Option (List Value)
 |l,0,vs=>GL l vs|[],_+1,_=>none
 |x::l,n+1,vs=>match tZ l n vs with
  |some r=>some (x::r)|none=>none
def evalO(tm:List Value):Operand->Option Value
 |.tmp t=>nth tm t|.const v=>cond (plain v) (some v) none
 |.func f=>some (.func (.func f) #[] #[])|.global _=>none
def kM(tm:List Value):List Operand->Option (List Value)
 |[]=>some []|x::l=>match evalO tm x with
  |some v=>match kM tm l with
   |some r=>some (v::r)|none=>none
  |none=>none
def IU(tm:List Value):List (Nat×Operand)->Option (List (Nat×Value))
 |[]=>some []|(i,x)::l=>match evalO tm x with
  |some v=>match IU tm l with
   |some r=>some ((i,v)::r)|none=>none
  |none=>none
def rO(tm:List Value):Option Operand->Option (Option Value)
 |none=>some none|some x=>match evalO tm x with
  |some v=>some (some v)|none=>none
def rP:TypeDesc->Bool
 |.struct _=>true|.array _ _=>true
 |_=>false
def cN(T:Tb)(t:TypeId):Option Nat:=match T.inf t with
 |some (n,_,_)=>some n|none=>none
def GX(T:Tb)(t:TypeId)(cs:List Value)(off:Nat):Option Value :=
 match T.und t with
 |none=>none|some d=>cond (rP d) (match cN T t with
   |some n=>some (.agg ((cs.drop off).take n).toArray)|none=>none) (nth cs off)
def lG:List UInt8->List UInt8->Bool
 |[],[]=>true|a::x,b::y=>cond (Nat.beq a.toNat b.toNat) (lG x y) false
 |_,_=>false
def kN:List UInt8->List UInt8->Bool
 |_,[]=>false|[],_::_=>true
 |a::x,b::y=>cond (Nat.blt a.toNat b.toNat) true (cond (Nat.beq a.toNat b.toNat) (kN x y) false)
def GC(T:Tb)(E:TypeId->Value->Value->Option Bool)(xs ys:List Value):List Field->Option Bool
 |[]=>some true|f::fs=>
  if f.name ≠ "_" then
   match GX T f.type xs f.offset with
   |none=>none|some a=>match GX T f.type ys f.offset with
    |none=>none|some b=>match E f.type a b with
     |none=>none|some false=>some false
     |some true=>GC T E xs ys fs
  else GC T E xs ys fs
def eqv(T:Tb):Nat->TypeId->Value->Value->Option Bool
 |0,_,_,_=>none|d+1,t,x,y=>
  match T.und t with
  |some .bool=>match x,y with
   |.bool a,.bool b=>some (a==b)|_,_=>none
  |some (.int _)=>match x,y with
   |.int k a,.int k' b=>if k=k' then some (a==b)else none|_,_=>none
  |some .string=>match x,y with
   |.string a,.string b=>some (lG a.data.toList b.data.toList)|_,_=>none
  |some (.pointer _)=>match x,y with
   |.pointer none,.pointer none=>some true|.pointer none,.pointer (some _)=>some false
   |.pointer (some _),.pointer none=>some false|_,_=>none
  |some (.slice _)=>match x,y with
   |.slice none _ _,.slice none _ _=>some true|.slice none _ _,.slice (some _) _ _=>some false
   |.slice (some _) _ _,.slice none _ _=>some false|.chan (some _),.slice none _ _=>some false
   |_,_=>none
  |some (.map _ _)=>match x,y with
   |.map none,.map none=>some true|.map none,.map (some _)=>some false
   |.map (some _),.map none=>some false|_,_=>none
  |some (.struct fs)=>match x,y with
   |.agg xs,.agg ys=>cond (T.eqs t) (GC T (eqv T d) xs.toList ys.toList fs.toList) none|_,_=>none
  |_=>none
def kL(op:BinOp)(k:IntKind)(a:Int)(k':IntKind)(b:Int):Option Value :=
 match op with
 |.shl=>if b<0 then none else some (.int k (k.wrap (a*2^(min b.toNat k.bits))))|.shr=>if b<0 then none else some (.int k (a.fdiv (2^(min b.toNat k.bits))))
 |_=>
  if k≠k' then none else
  match op with
  |.add=>some (.int k (k.wrap (a+b)))|.sub=>some (.int k (k.wrap (a-b)))
  |.mul=>some (.int k (k.wrap (a*b)))|.quo=>if b=0 then none else some (.int k (k.wrap (a.tdiv b)))
  |.rem=>if b=0 then none else some (.int k (a.tmod b))|.and=>some (.int k (k.wrap (BitVec.ofInt k.bits a&&&BitVec.ofInt k.bits b).toNat))
  |.or=>some (.int k (k.wrap (BitVec.ofInt k.bits a|||BitVec.ofInt k.bits b).toNat))|.xor=>some (.int k (k.wrap (BitVec.ofInt k.bits a^^^BitVec.ofInt k.bits b).toNat))
  |.andNot=>some (.int k (k.wrap (BitVec.ofInt k.bits a &&& ~~~ BitVec.ofInt k.bits b).toNat))|.eql=>some (.bool (a==b))
  |.neq=>some (.bool (a != b))|.lss=>some (.bool (decide (a<b)))
  |.leq=>some (.bool (decide (a<=b)))|.gtr=>some (.bool (decide (a>b)))
  |.geq=>some (.bool (decide (a>=b)))|_=>none
def IL(op:BinOp)(x y:ByteArray):Option Value :=
 let a:=x.data.toList
 let b:=y.data.toList
 match op with
 |.add=>if((a.length+b.length:Nat):Int)>9223372036854775807 then none else some (.string ⟨(a++b).toArray⟩)|.eql=>some (.bool (lG a b))
 |.neq=>some (.bool (!lG a b))|.lss=>some (.bool (kN a b))
 |.leq=>some (.bool (kN a b||lG a b))|.gtr=>some (.bool (!(kN a b||lG a b)))
 |.geq=>some (.bool (!kN a b))|_=>none
def wM(T:Tb)(t:TypeId):Value->Value->Bool
 |.nilIface,.nilIface=>false|.agg _,.agg _=>T.eqs t
 |_,_=>true
def pX(T:Tb)(op:BinOp)(t:TypeId)(x y:Value):Option Value :=
 match x,y with
 |.int k a,.int k' b=>kL op k a k' b|.string a,.string b=>IL op a b
 |x,y=>match op with
  |.eql=>cond (wM T t x y) (match eqv T 50 t x y with
   |some b=>some (.bool b)|none=>none) none
  |.neq=>cond (wM T t x y) (match eqv T 50 t x y with
   |some b=>some (.bool (!b))|none=>none) none
  |_=>none
def RI:UnOp->Value->Option Value
 |.neg,.int k n=>some (.int k (k.wrap (0-n)))|.not,.bool b=>some (.bool (!b))
 |.xor,.int k n=>some (.int k (k.wrap (BitVec.ofInt k.bits (if k.signed then -1 else k.max)^^^BitVec.ofInt k.bits n).toNat))|_,_=>none
def convX(T:Tb)(src dst:TypeId)(x:Value):Option Value :=
 match T.und src,T.und dst,x with
 |some _,some (.int k),.int _ n=>some (.int k (k.wrap n))|some _,some .string,.string s=>some (.string s)
 |_,_,_=>none
def EX(place:Nat->Option (Nat×Nat))(cells:List Value):List (Nat×Value)->Option (List Value)
 |[]=>some cells|(i,v)::rest=>match place i with
  |none=>none|some (off,size)=>cond (Nat.beq v.cells.toList.length size) (match tZ cells off v.cells.toList with
   |some c=>EX place c rest|none=>none) none
def MB(T:Tb)(fs:List Field)(i:Nat):Option (Nat×Nat):=
 match nth fs i with
 |none=>none|some f=>match cN T f.type with
  |none=>none|some n=>some (f.offset,n)
def J0(T:Tb):List Field->Bool
 |[]=>true|f::fs=>match cN T f.type with
  |some _=>J0 T fs|none=>false
def Nv(T:Tb)(t:TypeId)(ps:List (Nat×Value)):Option Value :=
 match T.inf t with
 |none=>none|some (_,_,z)=>match T.und t with
  |some (.struct fs)=>cond (J0 T fs.toList) (match EX (MB T fs.toList) z.cells.toList ps with
   |some cs=>some (.agg cs.toArray)|none=>none) none
  |some (.array _ e)=>match cN T e with
   |none=>none|some n=>match EX (fun i=>some (i*n,n)) z.cells.toList ps with
    |some cs=>some (.agg cs.toArray)|none=>none
  |_=>none
def Pb(T:Tb)(st:TypeId)(x:Value)(f:Nat):Option Value :=
 match T.und st with
 |some (.struct fs)=>match nth fs.toList f with
  |some fd=>match x with
   |.pointer (some a)=>match cN T fd.type with
    |some (_+1)=>some (.pointer (some ⟨a.block,a.off+fd.offset,none⟩))|_=>none
   |_=>none
  |none=>none
 |_=>none
def Ns(T:Tb)(st:TypeId)(x:Value)(f:Nat):Option Value :=
 match T.und st with
 |some (.struct fs)=>match nth fs.toList f with
  |some fd=>match x with
   |.agg cs=>GX T fd.type cs.toList fd.offset|_=>none
  |none=>none
 |_=>none
def rW(i:Int)(n:Nat):Bool:=match i with
 |.ofNat k=>Nat.blt k n|.negSucc _=>false
def Ov(T:Tb)(t:TypeId)(x ix:Value):Option Value :=
 match ix with
 |.int _ i=>match T.und t,x with
  |some (.array n e),.pointer (some a)=>cond (rW i n) (match cN T e with
   |some sz=>some (.pointer (some ⟨a.block,a.off+i.toNat*sz,none⟩))|none=>none) none
  |some (.slice e),.slice (some a) n _=>cond (rW i n) (match cN T e with
   |some sz=>some (.pointer (some ⟨a.block,a.off+i.toNat*sz,none⟩))|none=>none) none
  |_,_=>none
 |_=>none
def Y0(T:Tb)(t:TypeId)(x ix:Value):Option Value :=
 match ix with
 |.int _ i=>match T.und t,x with
  |some (.array n e),.agg cs=>cond (rW i n) (match cN T e with
   |some sz=>GX T e cs.toList (i.toNat*sz)|none=>none) none
  |some .string,.string s=>cond (rW i s.data.toList.length) (match nth s.data.toList i.toNat with
   |some b=>some (.int .u8 b.toNat)|none=>none) none
  |_,_=>none
 |_=>none
def Gu(x:Value)(i:Nat):Option Value:=match x with
 |.tuple vs=>nth vs.toList i|_=>none
def FK(T:Tb)(t:TypeId)(x:Value):Option Value :=
 match T.und t,x with
 |some .string,.string s=>some (.int .i64 s.data.toList.length)|some (.slice _),.slice _ n _=>some (.int .i64 n)
 |some (.slice _),.chan (some _)=>some (.int .i64 0)|some (.array n _),_=>some (.int .i64 n)
 |_,_=>none
def L9(T:Tb)(t:TypeId)(x:Value):Option Value :=
 match T.und t,x with
 |some (.slice _),.slice none _ c=>some (.int .i64 c)|some (.slice _),.slice (some _) _ c=>cond (Nat.blt c bX) (some (.int .i64 c)) none
 |some (.slice _),.chan (some _)=>some (.int .i64 0)|_,_=>none
def S7:Value->Value->Option Value
 |.int k x,.int _ y=>some (.int k (if y>x then y else x))|_,_=>none
def S6:Value->Value->Option Value
 |.int k x,.int _ y=>some (.int k (if y<x then y else x))|_,_=>none
def yN(f:Value->Value->Option Value):Value->List Value->Option Value
 |x,[]=>some x|x,y::l=>match f x y with
  |some z=>yN f z l|none=>none
def jQ(v:Value)(y:Nat):Option Nat:=match v with
 |.int _ i=>cond (rW i (y+1)) (some i.toNat) none|_=>none
def gZ(len cap:Nat)(lo hi mx:Option Value):Option (Nat×Nat×Nat):=
 match (match mx with |some v=>jQ v cap |none=>some cap)with
 |none=>none|some m=>match (match hi with |some v=>jQ v m |none=>(match mx with |some _=>none |none=>some len))with
  |none=>none|some h=>match (match lo with |some v=>jQ v h |none=>some 0)with
   |none=>none|some l=>some (l,h,m)
def emptyS(T:Tb)(e:TypeId)(a:Option Addr)(n c:Nat)(lo hi mx:Option Value):Option Value:=match a with
 |none=>none|some a=>match n with
  |_+1=>none|0=>match gZ 0 0 lo hi mx with
   |some (0,0,0)=>(match cN T e with
    |some _=>some (.slice (some a) 0 (match mx with |some _=>0 |none=>c))|none=>none)
   |_=>none
def nT(T:Tb)(t:TypeId)(x:Value)(lo hi mx:Option Value):Option Value :=
 match T.und t,x with
 |some .string,.string s=>match mx with
  |some _=>none|none=>match gZ s.data.toList.length s.data.toList.length lo hi none with
   |some (l,h,_)=>some (.string ⟨((s.data.toList.take h).drop l).toArray⟩)|none=>none
 |some (.slice e),.slice a n c=>cond (Nat.blt c bX) (match gZ n c lo hi mx with
   |some (l,h,m)=>match cN T e with
    |some sz=>some (.slice (cond (Nat.beq m l) a (match a with
      |some a=>some ⟨a.block,a.off+l*sz,none⟩|none=>none)) (h-l) (m-l))
    |none=>none
   |none=>none) (emptyS T e a n c lo hi mx)
 |some (.slice e),.chan (some r)=>match gZ 0 0 lo hi mx with
   |some _=>(match cN T e with
    |some _=>some (.chan (some r))|none=>none)
   |none=>none
 |some (.array n e),.pointer (some a)=>match gZ n n lo hi mx with
   |some (l,h,m)=>match cN T e with
    |some sz=>cond (Nat.blt n bX) (some (.slice (some (cond (Nat.beq m l) ⟨a.block,a.off,none⟩ ⟨a.block,a.off+l*sz,none⟩)) (h-l) (m-l))) none|none=>none
   |none=>none
 |_,_=>none
def iV(T:Tb)(tm:List Value)(op:Op):Option Value :=
 match op with
 |.move x=>evalO tm x|.assign x=>evalO tm x
 |.pick c a b=>match evalO tm c with
  |some (.bool true)=>evalO tm a|some (.bool false)=>evalO tm b
  |_=>none
 |.build t ps=>match IU tm ps.toList with
  |some qs=>Nv T t qs|none=>none
 |.nilCheck x=>match evalO tm x with
  |some (.pointer (some a))=>some (.pointer (some a))|some (.func (.func f) a b)=>some (.func (.func f) a b)
  |_=>none
 |.binOp op t x y _=>match evalO tm x,evalO tm y with
  |some a,some b=>pX T op t a b|_,_=>none
 |.unOp op _ x=>match evalO tm x with
  |some a=>RI op a|none=>none
 |.convert s d x=>match evalO tm x with
  |some a=>convX T s d a|none=>none
 |.makeFunc fn first cap=>match kM tm first.toList,kM tm cap.toList with
  |some a,some b=>some (.func fn a.toArray b.toArray)|_,_=>none
 |.slice t x lo hi mx=>match evalO tm x,rO tm lo,rO tm hi,rO tm mx with
  |some a,some l,some h,some m=>nT T t a l h m|_,_,_,_=>none
 |.fieldAddr t x f=>match evalO tm x with
  |some a=>Pb T t a f|none=>none
 |.field t x f=>match evalO tm x with
  |some a=>Ns T t a f|none=>none
 |.indexAddr t x i=>match evalO tm x,evalO tm i with
  |some a,some b=>Ov T t a b|_,_=>none
 |.index t x i=>match evalO tm x,evalO tm i with
  |some a,some b=>Y0 T t a b|_,_=>none
 |.extract x i=>match evalO tm x with
  |some a=>Gu a i|none=>none
 |.call c=>match c.callee with
  |.builtin .len=>match kM tm c.args.toList,c.argTypes.toList with
   |some [x],t::_=>FK T t x|_,_=>none
  |.builtin .cap=>match kM tm c.args.toList,c.argTypes.toList with
   |some [x],t::_=>L9 T t x|_,_=>none
  |.builtin .max=>match kM tm c.args.toList with
   |some (x::l)=>yN S7 x l|_=>none
  |.builtin .min=>match kM tm c.args.toList with
   |some (x::l)=>yN S6 x l|_=>none
  |_=>none
 |_=>none
def qR(T:Tb)(kt:TypeId)(k:Value):List MapEntry->Nat->Option (Option (Nat×Value))
 |[],_=>some none|e::es,i=>match eqv T 50 kt k e.key with
  |some true=>some (some (i,e.val))|some false=>qR T kt k es (i+1)
  |none=>none
def Ld(T:Tb)(K:TypeId->Value->Bool)(cs:List Value):List Field->Bool
 |[]=>true|f::fs=>
  if f.name ≠ "_" then
   match GX T f.type cs f.offset with
   |none=>false|some v=>cond (K f.type v) (Ld T K cs fs) false
  else Ld T K cs fs
def oL(T:Tb):Nat->TypeId->Value->Bool
 |0,_,_=>false|d+1,t,v=>match T.und t with
  |some (.int _)=>true|some .string=>true
  |some .bool=>true|some (.struct fs)=>match v with
   |.agg cs=>Ld T (oL T d) cs.toList fs.toList|_=>false
  |_=>false
def EB(E:Value->Value->Bool):List Value->List Value->Bool
 |[],[]=>true|a::x,b::y=>cond (E a b) (EB E x y) false
 |_,_=>false
def AI:Nat->Value->Value->Bool
 |0,_,_=>false|d+1,x,y=>match x,y with
  |.int k a,.int k' b=>cond (decide (k=k')) (decide (a=b)) false|.bool a,.bool b=>a==b
  |.string a,.string b=>lG a.data.toList b.data.toList|.agg a,.agg b=>EB (AI d) a.toList b.toList
  |_,_=>false
def cV(s:S)(i:Nat):Option Row:=match lk s.h i with
 |some (.inl (_,_,1))=>none|some (.inl (l,e,0))=>some (l,e,0)
 |some (.inl (l,e,n+2))=>some (l,e,n+2)|_=>none
def EY(s:S)(i sz:Nat):Option (List Value):=match lk s.h i with
 |some (.inl (l,e,1))=>cond (Nat.beq e (sz+1)) (some l) none|some (.inl (l,_,n+2))=>cond (Nat.beq n sz) (some l) none
 |_=>none
def H3(T:Tb)(s:S)(t:TypeId)(x:Value)(lo hi mx:Option Value):Option Value :=
 match T.und t,x with
 |some (.slice e),.slice (some a) n c=>cond (Nat.blt c bX) none (match cN T e with
  |none=>none|some sz=>match EY s a.block sz with
   |some l=>(cond (Nat.beq a.off (bQ c*sz)) (cond (Nat.blt 0 sz)
    (match mx with
     |some v=>match jQ v ((l.length-a.off)/sz)with
      |none=>none|some m=>cond (Nat.ble (a.off+m*sz) l.length) (match gZ n m lo hi (some v)with
       |some (l1,h,m)=>cond (Nat.blt m bX) (some (.slice (some (cond (Nat.beq m l1) ⟨a.block,a.off,none⟩ ⟨a.block,a.off+l1*sz,none⟩)) (h-l1) (m-l1))) none|none=>none) none
     |none=>match gZ n ((l.length-a.off)/sz) lo hi none with
      |none=>none|some (l1,h,_)=>cond (Nat.ble (a.off+h*sz) l.length)
       (match l1 with
        |0=>some (.slice (some ⟨a.block,a.off,none⟩) h c)|l1+1=>cond (Nat.blt (l1+1) h) (some (.slice (some ⟨a.block,a.off+(l1+1)*sz,none⟩) (h-(l1+1)) (c+(l1+1)))) none) none) none) none)
   |none=>none)
 |_,_=>none
def nR(T:Tb)(tm:List Value)(s:S)(op:Op):Option Value :=
 match op with
 |.load t x=>match evalO tm x with
  |some (.pointer (some a))=>match lk s.h a.block with
   |some (.inl (l,_,_))=>match T.und t with
    |none=>none|some d=>cond (rP d) (match cN T t with
      |some n=>match xK l a.off n with
       |some cs=>some (.agg cs.toArray)|none=>none
      |none=>none) (nth l a.off)
   |_=>none
  |_=>none
 |.slice t x lo hi mx=>match evalO tm x,rO tm lo,rO tm hi,rO tm mx with
  |some a,some l,some h,some m=>H3 T s t a l h m|_,_,_,_=>none
 |.lookup t x k ok=>match T.und t,evalO tm x,evalO tm k with
  |some (.map kt et),some (.map r),some kv=>cond (oL T 50 kt kv)
   (match (match r with
     |none=>some []|some r=>match lk s.h r with
      |some (.inr (es,_))=>some es|_=>none)with
    |none=>none|some es=>match qR T kt kv es 0 with
     |none=>none|some (some (_,v))=>some (cond ok (.tuple #[v,.bool true]) v)
     |some none=>match T.inf et with
      |some (_,_,z)=>some (cond ok (.tuple #[z,.bool false]) z)|none=>none) none
  |_,_,_=>none
 |.call c=>match c.callee with
  |.builtin .len=>match kM tm c.args.toList,c.argTypes.toList with
   |some [.map r],t::_=>match T.und t with
    |some (.map _ _)=>match r with
     |none=>some (.int .i64 0)|some r=>match lk s.h r with
      |some (.inr (es,_))=>some (.int .i64 es.length)|_=>none
    |_=>none
   |_,_=>none
  |_=>none
 |_=>none
def newRow(s:S)(l:List Value)(e:TypeId)(md:Nat):S:=⟨(s.nx,.inl (l,e,md))::s.h,s.nx+1⟩
def cC(z:List Value):Nat->List Value
 |0=>[]|n+1=>z++cC z n
def sW:List Value->Bool
 |[]=>true|v::l=>cond v.oneCell' (sW l) false
def pF(s:S)(b:Option Addr)(n:Nat):Option (List Value):=match n with
 |0=>some []|n+1=>match b with
  |none=>none|some a=>match lk s.h a.block with
   |some (.inl (l,_,_))=>xK l a.off (n+1)|_=>none
def yM(need by_:Nat):Bool:=cond (Nat.ble (need*by_) 140737488355328) (Nat.ble need 140737488355328) false
def XQ(s:S)(e:TypeId)(sz by_:Nat)(z:Value)(base:Option Addr)(n c k:Nat)(new:List Value):Option (Value×S):=
 cond (Nat.blt c bX) (cond (Nat.ble (n+k) c)
   (match base with
    |none=>none|some a=>match cV s a.block with
     |some (l,e',md)=>match tZ l (a.off+n*sz) new with
      |some l'=>some (.slice (some ⟨a.block,a.off,none⟩) (n+k) c,⟨up s.h a.block (.inl (l',e',md)),s.nx⟩)|none=>none
     |none=>none)
   (match pF s base (n*sz)with
    |some old=>cond (yM (n+k) by_) (cond (Nat.beq z.cells.toList.length sz)
      (some (.slice (some ⟨s.nx,0,none⟩) (n+k) bX,newRow s (old++new) e (sz+2))) none) none
    |none=>none))
  (match base with
   |none=>none|some a=>match cV s a.block with
    |some (l,e',md)=>cond (Nat.beq md (sz+2)) (cond (Nat.beq e' e) (cond (Nat.beq a.off (bQ c*sz)) (cond (yM (n+k) by_) (cond (Nat.beq z.cells.toList.length sz)
      (match xK l a.off (n*sz)with
       |some p=>some (.slice (some ⟨s.nx,0,none⟩) (n+k) bX,⟨(s.nx,.inl (p++new,e,sz+2))::rm s.h a.block,s.nx+1⟩)|none=>none) none) none) none) none) none
    |none=>none)
def xU(T:Tb)(s:S)(t xt:TypeId)(sv x:Value):Option (Value×S):=
 match T.und t,T.und xt,sv,x with
 |some (.slice e),some (.slice _),.slice base n c,.slice xb k _=>match T.inf e with
  |some (sz+1,by_,z)=>match pF s xb (k*(sz+1))with
   |none=>none|some new=>cond (sW new)
    (match k with
     |0=>cond (Nat.blt c bX) (cond (Nat.ble n c) (some (.slice base n c,s)) none)
      (match base with
       |some a=>match cV s a.block with
        |some (l,_,md)=>cond (Nat.beq md (sz+3)) (cond (Nat.beq a.off (bQ c*(sz+1))) (match xK l a.off (n*(sz+1))with
         |some _=>some (.slice base n c,s)|none=>none) none) none
        |none=>none
       |none=>none)
     |k+1=>XQ s e (sz+1) by_ z base n c (k+1) new) none
  |_=>none
 |_,_,_,_=>none
def B2:Value->Bool
 |.chan (some _)=>true|_=>false
def yO(x:Value):Value:=cond (B2 x) (.slice none 0 0) x
def vQ(T:Tb)(s:S)(t xt:TypeId)(sv x:Value):Option (Value×S):=
 cond (B2 sv) (match xU T s t xt (.slice none 0 0) (yO x)with
  |some (.slice none _ _,_)=>some (sv,s)|some (.slice (some a) n c,s')=>some (.slice (some a) n c,s')
  |_=>none) (xU T s t xt sv (yO x))
def xh(T:Tb)(s:S)(t xt:TypeId)(sv x:Value):Option (Value×S):=
 match T.und t,T.und xt,sv,x with
 |some (.slice e),some (.int _),.slice none 0 0,.int _ i=>match T.inf e with
  |some (sz+1,by_,z)=>match IntKind.i64.wrap i with
   |.ofNat (k+1)=>cond (yM (k+1) by_) (cond (Nat.beq z.cells.toList.length (sz+1)) (cond (sW (cC z.cells.toList (k+1)))
     (some (.slice (some ⟨s.nx,0,none⟩) (k+1) bX,newRow s (cC z.cells.toList (k+1)) e (sz+1+2))) none) none) none
   |_=>none
  |_=>none
 |_,_,_,_=>none
def YC(T:Tb)(s:S)(t xt:TypeId)(sv x:Value):Option (Value×S):=match vQ T s t xt sv x with
 |some r=>some r|none=>xh T s t xt sv x
def Lf(T:Tb)(s:S)(t:TypeId)(d x:Value):Option (Value×S):=
 match T.und t,d,x with
 |some (.slice e),.slice base n _,.slice xb k _=>match cN T e with
  |none=>none|some sz=>match pF s xb (Nat.min k n*sz)with
   |none=>none|some cs=>cond (sW cs) (match cs with
    |[]=>some (.int .i64 (Nat.min k n),s)|_::_=>match base with
     |none=>none|some a=>match cV s a.block with
      |some (l,e',md)=>match tZ l a.off cs with
       |some l'=>some (.int .i64 (Nat.min k n),⟨up s.h a.block (.inl (l',e',md)),s.nx⟩)|none=>none
      |none=>none) none
 |_,_,_=>none
def Fl(T:Tb)(s:S)(t:TypeId)(p v:Value):Option (Value×S):=
 match p with
 |.pointer (some a)=>match cN T t with
  |none=>none|some n=>cond (Nat.beq v.cells.toList.length n) (cond (sW v.cells.toList) (match cV s a.block with
   |some (l,e,md)=>match tZ l a.off v.cells.toList with
    |some l'=>some (undef,⟨up s.h a.block (.inl (l',e,md)),s.nx⟩)|none=>none
   |none=>none) none) none
 |_=>none
def Y2(T:Tb)(s:S)(t:TypeId)(x:Value):Option (Value×S):=
 match T.und t,x with
 |some (.slice e),.slice base n _=>match n with
  |0=>some (undef,s)|n+1=>match base with
   |none=>some (undef,s)|some a=>match T.inf e with
    |none=>none|some (_,_,z)=>cond (sW (cC z.cells.toList (n+1))) (match cV s a.block with
     |some (l,e',md)=>match tZ l a.off (cC z.cells.toList (n+1))with
      |some l'=>some (undef,⟨up s.h a.block (.inl (l',e',md)),s.nx⟩)|none=>none
     |none=>none) none
 |_,_=>none
def Lb(T:Tb)(s:S)(t:TypeId)(l c:Value):Option (Value×S):=
 match T.und t,l,c with
 |some (.slice e),.int _ a,.int _ b=>match T.inf e with
  |some (sz,by_,z)=>match IntKind.i64.wrap a,IntKind.i64.wrap b with
   |.ofNat n,.ofNat k=>cond (Nat.ble n k) (cond (Nat.ble (by_*k) 281474976710656) (cond (Nat.beq z.cells.toList.length sz)
     (cond (Nat.blt k bX) (some (.slice (some ⟨s.nx,0,none⟩) n k,newRow s (cC z.cells.toList k) e 0)) none) none) none) none
   |_,_=>none
  |none=>none
 |_,_,_=>none
def Pj(T:Tb)(s:S)(t:TypeId)(n:Nat)(ps:List (Nat×Value)):Option (Value×S):=
 match T.und t with
 |some (.slice e)=>match T.inf e with
  |some (sz,_,z)=>cond (Nat.ble (n*sz) 16777216) (cond (Nat.beq z.cells.toList.length sz) (match EX (fun i=>some (i*sz,sz)) (cC z.cells.toList n) ps with
   |some cs=>cond (Nat.blt n bX) (some (.slice (some ⟨s.nx,0,none⟩) n n,newRow s cs e 0)) none|none=>none) none) none
  |none=>none
 |_=>none
def Fm(T:Tb)(s:S)(t:TypeId)(x:Value)(lo hi mx:Option Value):Option (Value×S):=
 match T.und t,x with
 |some (.slice e),.slice (some a) n c=>cond (Nat.blt c bX) none (match cN T e with
  |none=>none|some sz=>match EY s a.block sz with
   |some l=>(cond (Nat.beq a.off (bQ c*sz)) (cond (Nat.blt 0 sz)
    (match mx with
     |some v=>match jQ v ((l.length-a.off)/sz)with
      |none=>none|some m=>cond (Nat.ble (a.off+m*sz) l.length) (match gZ n m lo hi (some v)with
       |some (l1,h,m)=>cond (Nat.blt m bX) (some (.slice (some (cond (Nat.beq m l1) ⟨a.block,a.off,none⟩ ⟨a.block,a.off+l1*sz,none⟩)) (h-l1) (m-l1),s)) none|none=>none) none
     |none=>match gZ n ((l.length-a.off)/sz) lo hi none with
      |none=>none|some (l1,h,_)=>cond (Nat.ble (a.off+h*sz) l.length)
       (match l1 with
        |0=>some (.slice (some ⟨a.block,a.off,none⟩) h c,s)|l1+1=>cond (Nat.blt (l1+1) h) (some (.slice (some ⟨a.block,a.off+(l1+1)*sz,none⟩) (h-(l1+1)) (c+(l1+1)),s))
          (some (.slice (some ⟨s.nx,0,none⟩) 0 bX,⟨s.h,s.nx+1⟩))) none) none) none)
   |none=>none)
 |_,_=>none
def D8(s:S)(r:Nat):Option (List MapEntry×Nat):=match lk s.h r with
 |some (.inr x)=>some x|_=>none
def OB(s:S)(r:Nat)(es:List MapEntry)(cl:Nat):S:=⟨up s.h r (.inr (es,cl)),s.nx⟩
def NJ(es:List MapEntry)(i:Nat)(f:MapEntry->MapEntry):List MapEntry:=match es,i with
 |[],_=>[]|e::es,0=>f e::es
 |e::es,i+1=>e::NJ es i f
def S8(b:Int):List MapEntry->Nat->Option Nat
 |[],_=>none|e::es,i=>cond (decide ((e.born:Int)=b)) (some i) (S8 b es (i+1))
def XW(T:Tb)(s:S)(t:TypeId)(m k v:Value):Option (Value×S):=
 match T.und t,m with
 |some (.map kt _),.map (some r)=>cond (oL T 50 kt k) (cond (plain k) (match D8 s r with
  |none=>none|some (es,cl)=>match qR T kt k es 0 with
   |none=>none|some none=>some (undef,OB s r (es++[{ key:=k,val:=v,born:=cl }]) (cl+1))
   |some (some (i,_))=>match nth es i with
    |none=>none|some e=>cond (AI 50 e.key k) (some (undef,OB s r (NJ es i fun e=>{ e with val:=v }) cl)) none) none) none
 |_,_=>none
def Gk(T:Tb)(s:S)(t:TypeId)(m k:Value):Option (Value×S):=
 match T.und t,m with
 |some (.map kt et),.map (some r)=>cond (oL T 50 kt k) (cond (plain k) (match D8 s r with
  |none=>none|some (es,cl)=>match qR T kt k es 0 with
   |none=>none|some none=>match T.inf et with
    |none=>none|some (_,_,z)=>some (.tuple #[z,.int .i64 cl],OB s r (es++[{ key:=k,val:=z,born:=cl }]) (cl+1))
   |some (some (i,v))=>match nth es i with
    |none=>none|some e=>cond (AI 50 e.key k) (some (.tuple #[v,.int .i64 e.born],OB s r es cl)) none) none) none
 |_,_=>none
def Nt(s:S)(m st v:Value):Option (Value×S):=
 match m,st with
 |.map (some r),.int _ b=>match D8 s r with
  |none=>none|some (es,cl)=>match S8 b es 0 with
   |none=>none|some i=>some (undef,OB s r (NJ es i fun e=>{ e with val:=v }) cl)
 |_,_=>none
def Y1(es:List MapEntry)(i:Nat):List MapEntry:=match es,i with
 |[],_=>[]|_::es,0=>es
 |e::es,i+1=>e::Y1 es i
def GD(T:Tb)(s:S)(t:TypeId)(m k:Value):Option (Value×S):=
 match T.und t,m with
 |some (.map kt _),.map none=>cond (oL T 50 kt k) (some (undef,s)) none|some (.map kt _),.map (some r)=>cond (oL T 50 kt k) (match D8 s r with
  |none=>none|some (es,cl)=>match qR T kt k es 0 with
   |none=>none|some none=>some (undef,OB s r es cl)
   |some (some (i,_))=>some (undef,OB s r (Y1 es i) cl)) none
 |_,_=>none
def u6(T:Tb)(tm:List Value)(s:S)(op:Op):Option (Value×S):=
 match op with
 |.alloc e=>match T.inf e with
  |some (_,_,z)=>some (.pointer (some ⟨s.nx,0,none⟩),newRow s z.cells.toList e 0)|none=>none
 |.box e x=>match evalO tm x with
  |some v=>some (.pointer (some ⟨s.nx,0,none⟩),newRow s v.cells.toList e 0)|none=>none
 |.store t a x=>match evalO tm a,evalO tm x with
  |some p,some v=>Fl T s t p v|_,_=>none
 |.buildSlice t n ps=>match IU tm ps.toList with
  |some qs=>Pj T s t n qs|none=>none
 |.makeSlice t l c=>match evalO tm l,evalO tm c with
  |some a,some b=>Lb T s t a b|_,_=>none
 |.makeMap _ none=>some (.map (some s.nx),⟨(s.nx,.inr ([],0))::s.h,s.nx+1⟩)|.slice t x lo hi mx=>match evalO tm x,rO tm lo,rO tm hi,rO tm mx with
  |some a,some l,some h,some m=>Fm T s t a l h m|_,_,_,_=>none
 |.mapUpdate t m k x=>match evalO tm m,evalO tm k,evalO tm x with
  |some a,some b,some v=>XW T s t a b v|_,_,_=>none
 |.insert t m k x=>match evalO tm m,evalO tm k,evalO tm x with
  |some a,some b,some v=>XW T s t a b v|_,_,_=>none
 |.mapEntry t m k=>match evalO tm m,evalO tm k with
  |some a,some b=>Gk T s t a b|_,_=>none
 |.entryStore _ m st x=>match evalO tm m,evalO tm st,evalO tm x with
  |some a,some b,some v=>Nt s a b v|_,_,_=>none
 |.call c=>match c.callee with
  |.builtin .append=>match kM tm c.args.toList,c.argTypes.toList with
   |some [a,b],[t,xt]=>YC T s t xt a b|_,_=>none
  |.builtin .copy=>match kM tm c.args.toList,c.argTypes.toList with
   |some [a,b],t::_=>Lf T s t a b|_,_=>none
  |.builtin .delete=>match kM tm c.args.toList,c.argTypes.toList with
   |some [a,b],t::_=>GD T s t a b|_,_=>none
  |.builtin .clear=>match kM tm c.args.toList,c.argTypes.toList with
   |some [a],t::_=>Y2 T s t a|_,_=>none
  |_=>none
 |_=>none
def callOf(T:Tb)(tm:List Value)(op:Op):Option (FuncId×List Value):=
 match op with
 |.call c=>match c.callee with
  |.value f=>match evalO tm f with
   |some (.func (.func g) first cap)=>match T.fn g with
    |some fn=>cond fn.body.isSome (match kM tm c.args.toList with
     |some args=>some (g,first.toList++args++cap.toList)|none=>none) none
    |none=>none
   |_=>none
  |_=>none
 |_=>none
abbrev GZ:=FuncId->List Value->S->Option (Value×S)
def AX(T:Tb)(call:GZ)(tm:List Value)(s:S)(op:Op):Option (Value×S):=
 match iV T tm op with
 |some v=>some (v,s)|none=>match nR T tm s op with
  |some v=>some (v,s)|none=>match u6 T tm s op with
   |some r=>some r|none=>match callOf T tm op with
    |some (f,args)=>call f args s|none=>none
def BM(a9:List Oper)(j:Nat):Option Tmp:=match nth a9 j with
 |some o=>o.dst|none=>none
def Oa(a9:List Oper)(tm:List Value)(o:Oper):Bool :=
 match o.guard with
 |none=>true|some (j,want)=>match BM a9 j with
  |none=>false|some d=>match nth tm d with
   |some (.bool b)=>b==want|_=>false
def NH(tm:List Value)(d:Option Tmp)(v:Value):List Value:=match d with
 |none=>tm|some d=>tm.set d v
def Zy(a b:Addr):Bool:=match a.spot,b.spot with
 |none,none=>cond (Nat.beq a.block b.block) (Nat.beq a.off b.off) false|_,_=>false
def TK:Option Addr->Option Addr->Bool
 |none,none=>true|some a,some b=>Zy a b
 |_,_=>false
def Ng:Option Nat->Option Nat->Bool
 |none,none=>true|some a,some b=>Nat.beq a b
 |_,_=>false
def Xt:Fn->Fn->Bool
 |.func f,.func g=>Nat.beq f g|_,_=>false
mutual
def RE:Value->Value->Bool
 |.bool a,y=>match y with
  |.bool b=>a==b|_=>false
 |.int k a,y=>match y with
  |.int k' b=>cond (decide (k=k')) (decide (a=b)) false|_=>false
 |.string a,y=>match y with
  |.string b=>lG a.data.toList b.data.toList|_=>false
 |.pointer p,y=>match y with
  |.pointer q=>TK p q|_=>false
 |.slice p n c,y=>match y with
  |.slice q n' c'=>cond (TK p q) (cond (Nat.beq n n') (Nat.beq c c') false) false|_=>false
 |.map p,y=>match y with
  |.map q=>Ng p q|_=>false
 |.nilFunc,y=>match y with
  |.nilFunc=>true|_=>false
 |.nilIface,y=>match y with
  |.nilIface=>true|_=>false
 |.func f ⟨a⟩ ⟨b⟩,y=>match y with
  |.func g ⟨c⟩ ⟨d⟩=>cond (Xt f g) (cond (Nk a c) (Nk b d) false) false|_=>false
 |.agg ⟨a⟩,y=>match y with
  |.agg ⟨b⟩=>Nk a b|_=>false
 |.tuple ⟨a⟩,y=>match y with
  |.tuple ⟨b⟩=>Nk a b|_=>false
 |_,_=>false
def Nk:List Value->List Value->Bool
 |[],y=>match y with
  |[]=>true|_=>false
 |a::x,y=>match y with
  |b::y=>cond (RE a b) (Nk x y) false|_=>false
end
abbrev Rec:=List Value×Oper×Value×Nat×S×S
def H'(T:Tb)(call:GZ)(a9:List Oper)(tm:List Value)(s:S)(o:Oper):Option (Value×Nat×S):=
 cond (Oa a9 tm o)
  (match iV T tm o.op with
   |some v=>some (v,0,s)|none=>match nR T tm s o.op with
    |some v=>some (v,1,s)|none=>match AX T call tm s o.op with
     |some (v,s')=>some (v,2,s')|none=>none)
  (some (undef,0,s))
def za8(T:Tb)(call:GZ)(a9:List Oper):List Oper->List Value->S->Option (List Rec×List Value×S)
 |[],tm,s=>some ([],tm,s)|o::r,tm,s=>match H' T call a9 tm s o with
  |none=>none|some (v,k,s')=>match za8 T call a9 r (NH tm o.dst v) s' with
   |none=>none|some (l,tm',s'')=>some ((tm,o,v,k,s,s')::l,tm',s'')
def O7(aX:List Nat):List Edge->Nat
 |[]=>0|e::r=>cond (Region.binds .any e) ((2^e.on|||(match nth aX e.on with
  |some x=>x|none=>0))|||O7 aX r) (O7 aX r)
def cO:List Oper->List Nat->List Nat
 |[],aX=>aX|o::r,aX=>cO r (aX++[O7 aX o.after.toList])
def FG(i:Nat):List Edge->Bool
 |[]=>true|e::r=>cond (Region.binds .any e) (cond (Nat.blt e.on i) (FG i r) false) (FG i r)
def tmpsOf:List Operand->List Tmp
 |[]=>[]|.tmp t::r=>t::tmpsOf r
 |_::r=>tmpsOf r
def OC(a9:List Oper)(o:Oper):List Tmp:=match o.guard with
 |none=>tmpsOf o.op.operands.toList|some (j,_)=>match BM a9 j with
  |none=>tmpsOf o.op.operands.toList|some d=>d::tmpsOf o.op.operands.toList
def cz(lk:List Tmp)(di:Option Tmp)(i mi k mk:Nat)(dk:Option Tmp):Bool:=match dk with
 |none=>true|some d=>cond (Nat.beq i k) true (cond (match di with |none=>false |some d'=>Nat.beq d d') false
   (cond (lk.any (Nat.beq d)) (cond (Nat.testBit mi k) true (Nat.testBit mk i)) true))
def rowOk(lk:List Tmp)(di:Option Tmp)(i mi:Nat):List Oper->List Nat->Nat->Bool
 |o::r,mk::ms,k=>cond (cz lk di i mi k mk o.dst) (rowOk lk di i mi r ms (k+1)) false|[],_,_=>true
 |_::_,[],_=>false
def Li(a9:List Oper)(ms:List Nat):List Oper->List Nat->Nat->Bool
 |o::r,mi::mr,i=>cond (FG i o.after.toList) (cond (rowOk (OC a9 o) o.dst i mi a9 ms 0) (Li a9 ms r mr (i+1)) false) false|[],_,_=>true
 |_::_,[],_=>false
def qz5(T:Tb)(tm:List Value)(op:Op)(v:Value)(s:S):Bool:=match nR T tm s op with
 |some u=>RE u v|none=>false
def za4(T:Tb)(tm:List Value)(op:Op)(v:Value)(i mi:Nat):List Rec->List Nat->Nat->Bool
 |(_,_,_,kd,s,s')::r,mk::ms,k=>cond (Nat.beq kd 2)
   (cond (Nat.blt k i) (cond (Nat.testBit mi k) true (qz5 T tm op v s)) (cond (Nat.testBit mk i) true (qz5 T tm op v s')))
   true&&za4 T tm op v i mi r ms (k+1)
 |[],_,_=>true|_::_,[],_=>false
def z8u(i mi:Nat):List Rec->Nat->Bool
 |(_,_,_,kd,_,_)::r,k=>cond (Nat.blt k i) (cond (Nat.beq kd 2) (Nat.testBit mi k) true) true&&z8u i mi r (k+1)|[],_=>true
def za0(T:Tb)(rs:List Rec)(ms:List Nat):List Rec->List Nat->Nat->Bool
 |(tm,o,v,kd,_,_)::r,mi::mr,i=>cond (Nat.beq kd 0) true (cond (Nat.beq kd 1) (za4 T tm o.op v i mi rs ms 0) (z8u i mi rs 0))&&za0 T rs ms r mr (i+1)|[],_,_=>true
 |_::_,[],_=>false
def MI(a9:List Oper):Bool:=Li a9 (cO a9 []) a9 (cO a9 []) 0
def GK(T:Tb)(tm:List Value)(s:S):List ResultVar->Option (List Value)
 |[]=>some []|.tmp t::r=>match nth tm t with
  |some v=>match GK T tm s r with
   |some l=>some (v::l)|none=>none
  |none=>none
 |.cell a t::r=>match nR T tm s (.load t (.tmp a))with
  |some v=>match GK T tm s r with
   |some l=>some (v::l)|none=>none
  |none=>none
def xN:List Value->Value
 |[v]=>v|l=>.tuple l.toArray
def pad:Nat->List Value->List Value
 |0,l=>l|n+1,[]=>undef::pad n []
 |n+1,v::l=>v::pad n l
def EC(P:Program)(eqs:List TypeId):Tb where
 und t:=match nth P.types.toList t with
  |none=>none|some i=>match i.desc with
   |.named _ u=>match nth P.types.toList u with
    |some j=>some j.desc|none=>none
   |d=>some d
 inf t:=match nth P.types.toList t with
  |none=>none|some i=>match i.zero with
   |some z=>cond (plain z) (some (i.size,i.bytes,z)) none|none=>none
 fn f:=nth P.funcs.toList f
 eqs t:=eqs.any (Nat.beq t)
end Go.Rx
