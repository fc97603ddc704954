import Derived.Calls
import Derived.Orders
import Derived.Below
import Derived.Laws.CopyRow
import Derived.KernelRfl
import Derived.Test.YtmflfedkfdkipaaGreatP1
set_option linter.all false
namespace Go.Rx
open Go
structure Nm where
 blk:Nat->Nat
 sh:Nat->Nat
 cp:Nat->Nat
def b7:Nat:=18446744073709551616
def aW(c:Nat):Nat:=c-b7
def bF(m:Nm)(i c:Nat):Nat:=if c<b7 then c else m.cp i-aW c
mutual
def ren(m:Nm):Value->Value
 |.pointer (some a)=>.pointer (some ⟨m.blk a.block,m.sh a.block+a.off,none⟩)|.slice (some a) n c=>.slice (some ⟨m.blk a.block,m.sh a.block+a.off,none⟩) n (bF m a.block c)
 |.map (some r)=>.map (some (m.blk r))|.func fn first cap=>.func fn (nH m first) (nH m cap)
 |.iface t v=>.iface t (ren m v)|.agg cs=>.agg (nH m cs)
 |.tuple cs=>.tuple (nH m cs)|.bool b=>.bool b
 |.int k n=>.int k n|.float k n=>.float k n
 |.complex k a b=>.complex k a b|.string s=>.string s
 |.pointer none=>.pointer none|.slice none n c=>.slice none n c
 |.map none=>.map none|.chan (some r)=>.slice (some ⟨m.blk r,m.sh r,some (m.cp r)⟩) 0 0
 |.chan none=>.chan none|.nilFunc=>.nilFunc
 |.nilIface=>.nilIface
def nH(m:Nm):Array Value->Array Value
 |⟨l⟩=>⟨aD m l⟩
def aD(m:Nm):List Value->List Value
 |[]=>[]|v::l=>ren m v::aD m l
end
theorem hX(m:Nm)(l:List Value):aD m l=l.map (ren m):=by
 induction l with|nil=>simp[aD]|cons v l ih=>simp[aD,ih]
theorem yt(m:Nm)(a:Array Value):nH m a=a.map (ren m):=by
 cases a;simp[nH,hX]
@[simp] theorem gT(m:Nm)(l:List Value):nH m ⟨l⟩=⟨aD m l⟩:=by simp[nH]
@[simp] theorem oP(m:Nm)(l:List Value):(aD m l).length=l.length:=by simp[hX]
@[simp] theorem tB(m:Nm)(a:Array Value):(nH m a).size=a.size:=by simp[yt]
@[simp] theorem gN(m:Nm)(a:Array Value):(nH m a).toList=aD m a.toList:=by cases a;simp
theorem BO(m:Nm)(a b:List Value):aD m (a++b)=aD m a++aD m b:=by simp[hX]
theorem ay(m:Nm)(v:Value):(ren m v).oneCell'=v.oneCell':=by
 cases v with
 |pointer a=>cases a<;>rfl|slice a n c=>cases a<;>rfl
 |map r=>cases r<;>rfl|chan r=>cases r<;>rfl
 |_=>rfl
theorem En(m:Nm)(v:Value):(ren m v).cells=nH m v.cells:=by
 cases v with
 |pointer a=>cases a<;>simp[ren,Value.cells,aD]|slice a n c=>cases a<;>simp[ren,Value.cells,aD]
 |map r=>cases r<;>simp[ren,Value.cells,aD]|chan r=>cases r<;>simp[ren,Value.cells,aD]
 |_=>simp[ren,Value.cells,aD]
abbrev Row:=List Value×TypeId×Nat
abbrev i5:=Row ⊕ (List MapEntry×Nat)
abbrev Hp:=List (Nat×i5)
def lk:Hp->Nat->Option i5
 |[],_=>none|(j,b)::h,i=>cond (Nat.beq j i) (some b) (lk h i)
def up:Hp->Nat->i5->Hp
 |[],_,_=>[]|(j,b)::h,i,c=>cond (Nat.beq j i) ((j,c)::h) ((j,b)::up h i c)
def rm:Hp->Nat->Hp
 |[],_=>[]|(j,b)::h,i=>cond (Nat.beq j i) (rm h i) ((j,b)::rm h i)
theorem beq_eq(j i:Nat):Nat.beq j i=decide (j=i):=by
 rw[Bool.eq_iff_iff];simp[Nat.beq_eq]
theorem iD(j:Nat)(b:i5)(h:Hp)(i:Nat):lk ((j,b)::h) i=if j=i then some b else lk h i:=by
 simp only[lk,beq_eq];by_cases e:j=i<;>simp[e]
theorem tF(h:Hp)(i:Nat)(c:i5)(j:Nat):lk (up h i c) j=if i=j then(lk h i).map (fun _=>c)else lk h j:=by
 induction h with|nil=>simp[up,lk]|cons x h ih=>obtain⟨k,b⟩:=x;simp only[up,beq_eq];by_cases e:k=i;subst e;simp only[yC,zC,iD];by_cases e2:k=j<;>simp[e2];simp only[e,yB,zD,iD,ih];by_cases e2:i=j;subst e2;simp[e];by_cases e3:k=j<;>simp[e2,e3]
theorem PE(h:Hp)(i j:Nat):lk (rm h i) j=if i=j then none else lk h j:=by
 induction h with|nil=>simp[rm,lk]|cons x h ih=>obtain⟨k,b⟩:=x;simp only[rm,beq_eq];by_cases e:k=i;subst e;simp only[yC,zC,iD,ih];by_cases e2:k=j<;>simp[e2];simp only[e,yB,zD,iD,ih];by_cases e2:i=j;subst e2;simp[e];by_cases e3:k=j<;>simp[e2,e3]
structure S where
 h:Hp
 nx:Nat
def cJ(m:Nm)(e:MapEntry):MapEntry:={ key:=ren m e.key,val:=ren m e.val,born:=e.born }
def pN(m:Nm)(i:Nat)(l:List Value)(e:TypeId)(w:World):Nat->Prop
 |0=>m.sh i=0/\w.heap[m.blk i]? = some (.cells (aD m l).toArray e (0,0))|1=>∃c e' fr,w.heap[m.blk i]? = some (.cells c e' fr)/\(∀k v,l[k]? = some v->c[m.sh i+k]? = some (ren m v))/\∀n,e=n+1->l.length<=m.cp i*n
 |n+2=>∃pre rest,w.heap[m.blk i]? = some (.cells (pre++aD m l++rest).toArray e (0,0))/\pre.length=m.sh i/\l.length+rest.length=m.cp i*n
def nX(m:Nm)(i:Nat)(w:World):i5->Prop
 |.inl (l,e,md)=>pN m i l e w md|.inr (es,clock)=>w.heap[m.blk i]? = some (.map (es.map (cJ m)).toArray clock)
def Own:i5->Bool
 |.inl (_,_,1)=>false|_=>true
structure Fits(m:Nm)(s:S)(w:World):Prop where
 ok:∀i b,lk s.h i=some b->nX m i w b
 inj:∀i j b c,lk s.h i=some b->lk s.h j=some c->i≠j->Own b=true->m.blk i≠m.blk j
 bd:∀i b,lk s.h i=some b->i<s.nx
def aG(n:Nat)(m m':Nm):Prop:=∀i,i<n->m'.blk i=m.blk i/\m'.sh i=m.sh i/\m'.cp i=m.cp i
theorem aG.refl(n:Nat)(m:Nm):aG n m m:=fun _ _=>⟨rfl,rfl,rfl⟩
theorem aG.trans{n k:Nat}{a b c:Nm}(h:aG n a b)(h':aG k b c)(hk:n<=k):aG n a c:=fun i hi=>by
 obtain⟨a1,a2,a3⟩:=h i hi;obtain⟨b1,b2,b3⟩:=h' i (by omega);exact⟨b1.trans a1,b2.trans a2,b3.trans a3⟩
variable{n:Nat}
theorem aG.mono{k:Nat}{a b:Nm}(h:aG n a b)(hk:k<=n):aG k a b:=fun i hi=>h i (by omega)
def dS(m:Nm)(s:S)(w:World):Prop:=∀m',aG s.nx m m'->Fits m' s w
def cZ(m:Nm)(n:Nat)(v cv:Value):Prop:=∀m',aG n m m'->ren m' v=cv
def j5(m:Nm)(n:Nat)(v cv:List Value):Prop:=∀m',aG n m m'->aD m' v=cv
variable{m:Nm}
variable{s:S}
variable{w:World}
theorem dS.fits(h:dS m s w):Fits m s w:=h m (aG.refl _ _)
theorem cZ.at{v cv:Value}(h:cZ m n v cv):ren m v=cv:=h m (aG.refl _ _)
theorem j5.at{v cv:List Value}(h:j5 m n v cv):aD m v=cv:=h m (aG.refl _ _)
theorem cZ.ext{m':Nm}{n':Nat}{v cv:Value}(h:cZ m n v cv)(ha:aG n m m')(hn:n<=n'):cZ m' n' v cv :=
 fun k hk=>h k (ha.trans hk hn)
theorem j5.ext{m':Nm}{n':Nat}{v cv:List Value}(h:j5 m n v cv)(ha:aG n m m')(hn:n<=n'):j5 m' n' v cv :=
 fun k hk=>h k (ha.trans hk hn)
def IN(m:Nm)(s:S)(b:Nat):Prop:=∃i c,lk s.h i=some c/\Own c=true/\m.blk i=b
structure bA(m:Nm)(s:S)(w:World)(aF:Nm)(aU:S)(w₁:World):Prop where
 agree:aG s.nx m aF
 nx:s.nx<=aU.nx
 fits:dS aF aU w₁
 own:∀b,IN aF aU b->IN m s b\/w.heap.size<=b
 same:∀b,b<w.heap.size->¬ IN m s b->w₁.heap[b]? = w.heap[b]?
 size:w.heap.size<=w₁.heap.size
 os:w₁.os=w.os
 tape:w₁.tape=w.tape
 output:w₁.output=w.output
theorem bA.refl{m:Nm}{s:S}{w:World}(h:dS m s w):bA m s w m s w :=
 ⟨aG.refl _ _,zF _,h,fun _ h=>.inl h,fun _ _ _=>rfl,zF _,rfl,rfl,rfl⟩
theorem bA.trans{m aF xH:Nm}{s aU TO:S}{w w₁ sX:World}(h:bA m s w aF aU w₁)(k:bA aF aU w₁ xH TO sX):bA m s w xH TO sX:=by
 refine⟨h.agree.trans k.agree h.nx,Nat.le_trans h.nx k.nx,k.fits,fun b hb=>?_,fun b hb hn=>?_,Nat.le_trans h.size k.size,k.os.trans h.os,k.tape.trans h.tape,k.output.trans h.output⟩;rcases k.own b hb with h1 |h1;exact h.own b h1;exact .inr (Nat.le_trans h.size h1);have h1:¬ IN aF aU b:=fun ho=>by rcases h.own b ho with h2 |h2;exact hn h2;omega
 rw[k.same b (Nat.lt_of_lt_of_le hb h.size) h1,h.same b hb hn]
theorem bA.below{aF:Nm}{aU:S}{w₁:World}(h:bA m s w aF aU w₁)(hs:∀b,¬ IN m s b):RowKit.Below w.heap.size w w₁ :=
 ⟨h.os,h.tape,h.output,h.size,fun k hk=>h.same k hk (hs k)⟩
theorem Fits.size{m:Nm}{s:S}{w:World}(h:Fits m s w){i:Nat}{b:i5}(hb:lk s.h i=some b):m.blk i<w.heap.size:=by
 have:=h.ok i b hb;rcases Nat.lt_or_ge (m.blk i) w.heap.size with hl |hg;exact hl;exfalso;rcases b with⟨l,e,md⟩|⟨es,clock⟩;rcases md with _ |_ |n;simp[nX,pN,Array.getElem?_eq_none hg]at this;simp[nX,pN,Array.getElem?_eq_none hg]at this;simp[nX,pN,Array.getElem?_eq_none hg]at this;simp[nX,Array.getElem?_eq_none hg]at this
theorem Ey(n:Nat)(h:dS m s w):dS m s { w with drawn:=n }:=fun m' ha=>by
 obtain⟨h1,h2,h3⟩:=h m' ha;refine⟨fun i b hb=>?_,h2,h3⟩;have:=h1 i b hb;rcases b with⟨l,e,md⟩|⟨es,clock⟩;rcases md with _ |_ |n<;>exact this;exact this
theorem bA.draw(n:Nat)(h:dS m s w):bA m s w m s { w with drawn:=n }:=
 ⟨aG.refl _ _,zF _,Ey n h,fun _ h=>.inl h,fun _ _ _=>rfl,zF _,rfl,rfl,rfl⟩
def Nm.set(m:Nm)(i b sh cp:Nat):Nm :=
 { blk:=fun j=>if j=i then b else m.blk j,sh:=fun j=>if j=i then sh else m.sh j,cp:=fun j=>if j=i then cp else m.cp j }
theorem Nm.agree_set(m:Nm)(i b sh cp:Nat):aG i m (m.set i b sh cp):=fun j hj=>by
 simp[Nm.set,show j≠i by omega]
theorem nX.world{i:Nat}{w':World}{b:i5}(h:nX m i w b)(hw:w'.heap[m.blk i]? = w.heap[m.blk i]?):nX m i w' b:=by
 rcases b with⟨l,e,md⟩|⟨es,clock⟩;rcases md with _ |_ |n<;>(simp only[nX,pN]at*;rw[hw];exact h);simp only[nX]at*;rw[hw];exact h
theorem bA.alloc{m:Nm}{s:S}{w:World}(h:dS m s w)(o:Obj)(b:i5)(cp:Nat)
  (hb:∀m',aG (s.nx+1) (m.set s.nx w.heap.size 0 cp) m'->nX m' s.nx (w.alloc o) b):
  bA m s w (m.set s.nx w.heap.size 0 cp) ⟨(s.nx,b)::s.h,s.nx+1⟩ (w.alloc o):=by
 have hold:∀k,k<w.heap.size->(w.alloc o).heap[k]? = w.heap[k]?:=fun k hk=>RowKit.Below.heap_alloc w o k hk;refine⟨Nm.agree_set m _ _ _ _,Nat.le_succ _,?_,?_,fun b hb _=>hold b hb,by simp,rfl,rfl,rfl⟩;intro m' ha;have ha':aG s.nx m m':=(Nm.agree_set m s.nx w.heap.size 0 cp).trans ha (Nat.le_succ _);have hf:=h m' ha';have hnew:m'.blk s.nx=w.heap.size:=by have:=(ha s.nx (zN _)).1;simpa[Nm.set]using this
 refine⟨fun i c hc=>?_,fun i j c d hc hd hij ho=>?_,fun i c hc=>?_⟩;simp only[iD]at hc;by_cases e:s.nx=i;subst e;simp only[if_true,zA]at hc;subst hc;exact hb m' ha;simp only[e,if_false]at hc;exact(hf.ok i c hc).world (hold _ (hf.size hc));simp only[iD]at hc hd;by_cases e:s.nx=i;subst e;have hj:s.nx≠j:=hij;simp only[hj,if_false]at hd;have:=hf.size hd;omega;simp only[e,if_false]at hc;by_cases e2:s.nx=j;subst e2;have:=hf.size hc;omega;simp only[e2,if_false]at hd;exact hf.inj i j c d hc hd hij ho;simp only[iD]at hc;by_cases e:s.nx=i;subst e;exact zN _;simp only[e,if_false]at hc;exact Nat.lt_succ_of_lt (hf.bd i c hc);rintro b ⟨i,c,hc,ho,rfl⟩;simp only[iD]at hc;by_cases e:s.nx=i;subst e;right;simp[Nm.set];simp only[e,if_false]at hc;left;refine⟨i,c,hc,ho,?_⟩;have:=h.fits.bd i c hc;simp[Nm.set,show i≠s.nx by omega]
theorem bA.write{w':World}(h:dS m s w){i:Nat}{b c:i5}(hb:lk s.h i=some b)(hob:Own b=true)
  (hw:∀k,k≠m.blk i->w'.heap[k]? = w.heap[k]?) (hsz:w'.heap.size=w.heap.size) (h1:w'.os=w.os) (h2:w'.tape=w.tape) (h3:w'.output=w.output) (_h4:w.drawn<=w'.drawn)
  (hc:∀m',aG s.nx m m'->nX m' i w' c):
  bA m s w m ⟨up s.h i c,s.nx⟩ w':=by
 refine⟨aG.refl _ _,zF _,?_,?_,?_,by omega,h1,h2,h3⟩;intro m' ha;have hf:=h m' ha;have hbi:m'.blk i=m.blk i:=(ha i (hf.bd i b hb)).1;refine⟨fun j d hd=>?_,fun j k d e hd he hjk ho=>?_,fun j d hd=>?_⟩;simp only[tF]at hd;by_cases e:i=j;subst e;simp only[if_true,hb,zM,zA]at hd;subst hd;exact hc m' ha;simp only[e,if_false]at hd;refine(hf.ok j d hd).world (hw _ ?_);rw[<-hbi];exact fun x=>hf.inj i j b d hb hd e hob x.symm;have key:∀j d,lk (up s.h i c) j=some d->∃d',lk s.h j=some d'/\(Own d=true->Own d'=true):=fun j d hd=>by simp only[tF]at hd;by_cases e:i=j;subst e;exact⟨b,hb,fun _=>hob⟩;simp only[e,if_false]at hd;exact⟨d,hd,id⟩
 obtain⟨d',hd',od⟩:=key j d hd;obtain⟨e',he',_⟩:=key k e he;exact hf.inj j k d' e' hd' he' hjk (od ho);simp only[tF]at hd;by_cases e:i=j;subst e;exact hf.bd i b hb;simp only[e,if_false]at hd;exact hf.bd j d hd;rintro k ⟨j,d,hd,ho,rfl⟩;left;simp only[tF]at hd;by_cases e:i=j;subst e;exact⟨i,b,hb,hob,rfl⟩;simp only[e,if_false]at hd;exact⟨j,d,hd,ho,rfl⟩;intro k hk hn;exact hw k fun e=>hn ⟨i,b,hb,hob,e.symm⟩
theorem bA.forget(h:dS m s w)(i:Nat):bA m s w m ⟨rm s.h i,s.nx⟩ w:=by
 have key:∀j d,lk (rm s.h i) j=some d->lk s.h j=some d:=fun j d hd=>by simp only[PE]at hd;by_cases e:i=j;simp[e]at hd;simpa[e]using hd
 refine⟨aG.refl _ _,zF _,fun m' ha=>?_,?_,fun _ _ _=>rfl,zF _,rfl,rfl,rfl⟩;have hf:=h m' ha;exact⟨fun j d hd=>hf.ok j d (key j d hd),fun j k d e hd he=>hf.inj j k d e (key j d hd) (key k e he),fun j d hd=>hf.bd j d (key j d hd)⟩;rintro k ⟨j,d,hd,ho,rfl⟩;exact .inl ⟨j,d,key j d hd,ho,rfl⟩
structure Tb where
 und:TypeId->Option TypeDesc
 inf:TypeId->Option (Nat×Nat×Value)
 fn:FuncId->Option Func
 eqs:TypeId->Bool
mutual
def plain:Value->Bool
 |.bool _=>true|.int _ _=>true
 |.string _=>true|.pointer none=>true
 |.slice none _ _=>true|.map none=>true
 |.nilFunc=>true|.nilIface=>true
 |.agg ⟨l⟩=>FH l|.tuple ⟨l⟩=>FH l
 |_=>false
def FH:List Value->Bool
 |[]=>true|v::l=>cond (plain v) (FH l) false
end
def nth{α:Type}:List α->Nat->Option α
 |[],_=>none|a::_,0=>some a
 |_::l,n+1=>nth l n
def wE:List Value->Nat->Option (List Value)
 |_,0=>some []|[],_+1=>none
 |v::l,n+1=>match wE l n with
  |some r=>some (v::r)|none=>none
def nS(l:List Value)(off n:Nat):Option (List Value):=wE (l.drop off) n
def uS:List Value->List Value->Option (List Value)
 |l,[]=>some l|[],_::_=>none
 |_::l,v::vs=>match uS l vs with
  |some r=>some (v::r)|none=>none
def lV:List Value->Nat->List Value->Option (List Value)
 |l,0,vs=>uS l vs|[],_+1,_=>none
 |x::l,n+1,vs=>match lV l n vs with
  |some r=>some (x::r)|none=>none
def evalO(tm:List Value):Operand->Option Value
 |.tmp t=>nth tm t|.const v=>cond (plain v) (some v) none
 |.func f=>some (.func (.func f) #[] #[])|.global _=>none
def fX(tm:List Value):List Operand->Option (List Value)
 |[]=>some []|x::l=>match evalO tm x with
  |some v=>match fX tm l with
   |some r=>some (v::r)|none=>none
  |none=>none
def wJ(tm:List Value):List (Nat×Operand)->Option (List (Nat×Value))
 |[]=>some []|(i,x)::l=>match evalO tm x with
  |some v=>match wJ tm l with
   |some r=>some ((i,v)::r)|none=>none
  |none=>none
def kP(tm:List Value):Option Operand->Option (Option Value)
 |none=>some none|some x=>match evalO tm x with
  |some v=>some (some v)|none=>none
def kQ:TypeDesc->Bool
 |.struct _=>true|.array _ _=>true
 |_=>false
def bJ(T:Tb)(t:TypeId):Option Nat:=match T.inf t with
 |some (n,_,_)=>some n|none=>none
def uX(T:Tb)(t:TypeId)(cs:List Value)(off:Nat):Option Value :=
 match T.und t with
 |none=>none|some d=>cond (kQ d) (match bJ T t with
   |some n=>some (.agg ((cs.drop off).take n).toArray)|none=>none) (nth cs off)
def gE:List UInt8->List UInt8->Bool
 |[],[]=>true|a::x,b::y=>cond (Nat.beq a.toNat b.toNat) (gE x y) false
 |_,_=>false
def fS:List UInt8->List UInt8->Bool
 |_,[]=>false|[],_::_=>true
 |a::x,b::y=>cond (Nat.blt a.toNat b.toNat) true (cond (Nat.beq a.toNat b.toNat) (fS x y) false)
def uF(T:Tb)(E:TypeId->Value->Value->Option Bool)(xs ys:List Value):List Field->Option Bool
 |[]=>some true|f::fs=>
  if f.name ≠ "_" then
   match uX T f.type xs f.offset with
   |none=>none|some a=>match uX T f.type ys f.offset with
    |none=>none|some b=>match E f.type a b with
     |none=>none|some false=>some false
     |some true=>uF T E xs ys fs
  else uF T E xs ys fs
def eqv(T:Tb):Nat->TypeId->Value->Value->Option Bool
 |0,_,_,_=>none|d+1,t,x,y=>
  match T.und t with
  |some .bool=>match x,y with
   |.bool a,.bool b=>some (a==b)|_,_=>none
  |some (.int _)=>match x,y with
   |.int k a,.int k' b=>if k=k' then some (a==b)else none|_,_=>none
  |some .string=>match x,y with
   |.string a,.string b=>some (gE a.data.toList b.data.toList)|_,_=>none
  |some (.pointer _)=>match x,y with
   |.pointer none,.pointer none=>some true|.pointer none,.pointer (some _)=>some false
   |.pointer (some _),.pointer none=>some false|_,_=>none
  |some (.slice _)=>match x,y with
   |.slice none _ _,.slice none _ _=>some true|.slice none _ _,.slice (some _) _ _=>some false
   |.slice (some _) _ _,.slice none _ _=>some false|.chan (some _),.slice none _ _=>some false
   |_,_=>none
  |some (.map _ _)=>match x,y with
   |.map none,.map none=>some true|.map none,.map (some _)=>some false
   |.map (some _),.map none=>some false|_,_=>none
  |some (.struct fs)=>match x,y with
   |.agg xs,.agg ys=>cond (T.eqs t) (uF T (eqv T d) xs.toList ys.toList fs.toList) none|_,_=>none
  |_=>none
def fP(op:BinOp)(k:IntKind)(a:Int)(k':IntKind)(b:Int):Option Value :=
 match op with
 |.shl=>if b<0 then none else some (.int k (k.wrap (a*2^(min b.toNat k.bits))))|.shr=>if b<0 then none else some (.int k (a.fdiv (2^(min b.toNat k.bits))))
 |_=>
  if k≠k' then none else
  match op with
  |.add=>some (.int k (k.wrap (a+b)))|.sub=>some (.int k (k.wrap (a-b)))
  |.mul=>some (.int k (k.wrap (a*b)))|.quo=>if b=0 then none else some (.int k (k.wrap (a.tdiv b)))
  |.rem=>if b=0 then none else some (.int k (a.tmod b))|.and=>some (.int k (k.wrap (BitVec.ofInt k.bits a&&&BitVec.ofInt k.bits b).toNat))
  |.or=>some (.int k (k.wrap (BitVec.ofInt k.bits a|||BitVec.ofInt k.bits b).toNat))|.xor=>some (.int k (k.wrap (BitVec.ofInt k.bits a^^^BitVec.ofInt k.bits b).toNat))
  |.andNot=>some (.int k (k.wrap (BitVec.ofInt k.bits a &&& ~~~ BitVec.ofInt k.bits b).toNat))|.eql=>some (.bool (a==b))
  |.neq=>some (.bool (a != b))|.lss=>some (.bool (decide (a<b)))
  |.leq=>some (.bool (decide (a<=b)))|.gtr=>some (.bool (decide (a>b)))
  |.geq=>some (.bool (decide (a>=b)))|_=>none
def w7(op:BinOp)(x y:ByteArray):Option Value :=
 let a:=x.data.toList
 let b:=y.data.toList
 match op with
 |.add=>if((a.length+b.length:Nat):Int)>9223372036854775807 then none else some (.string ⟨(a++b).toArray⟩)|.eql=>some (.bool (gE a b))
 |.neq=>some (.bool (!gE a b))|.lss=>some (.bool (fS a b))
 |.leq=>some (.bool (fS a b||gE a b))|.gtr=>some (.bool (!(fS a b||gE a b)))
 |.geq=>some (.bool (!fS a b))|_=>none
def sC(T:Tb)(t:TypeId):Value->Value->Bool
 |.nilIface,.nilIface=>false|.agg _,.agg _=>T.eqs t
 |_,_=>true
def mN(T:Tb)(op:BinOp)(t:TypeId)(x y:Value):Option Value :=
 match x,y with
 |.int k a,.int k' b=>fP op k a k' b|.string a,.string b=>w7 op a b
 |x,y=>match op with
  |.eql=>cond (sC T t x y) (match eqv T 50 t x y with
   |some b=>some (.bool b)|none=>none) none
  |.neq=>cond (sC T t x y) (match eqv T 50 t x y with
   |some b=>some (.bool (!b))|none=>none) none
  |_=>none
def EY:UnOp->Value->Option Value
 |.neg,.int k n=>some (.int k (k.wrap (0-n)))|.not,.bool b=>some (.bool (!b))
 |.xor,.int k n=>some (.int k (k.wrap (BitVec.ofInt k.bits (if k.signed then -1 else k.max)^^^BitVec.ofInt k.bits n).toNat))|_,_=>none
def KF(T:Tb)(src dst:TypeId)(x:Value):Option Value :=
 match T.und src,T.und dst,x with
 |some _,some (.int k),.int _ n=>some (.int k (k.wrap n))|some _,some .string,.string s=>some (.string s)
 |_,_,_=>none
def tH(place:Nat->Option (Nat×Nat))(cells:List Value):List (Nat×Value)->Option (List Value)
 |[]=>some cells|(i,v)::rest=>match place i with
  |none=>none|some (off,size)=>cond (Nat.beq v.cells.toList.length size) (match lV cells off v.cells.toList with
   |some c=>tH place c rest|none=>none) none
def BG(T:Tb)(fs:List Field)(i:Nat):Option (Nat×Nat):=
 match nth fs i with
 |none=>none|some f=>match bJ T f.type with
  |none=>none|some n=>some (f.offset,n)
def wM(T:Tb):List Field->Bool
 |[]=>true|f::fs=>match bJ T f.type with
  |some _=>wM T fs|none=>false
def UP(T:Tb)(t:TypeId)(ps:List (Nat×Value)):Option Value :=
 match T.inf t with
 |none=>none|some (_,_,z)=>match T.und t with
  |some (.struct fs)=>cond (wM T fs.toList) (match tH (BG T fs.toList) z.cells.toList ps with
   |some cs=>some (.agg cs.toArray)|none=>none) none
  |some (.array _ e)=>match bJ T e with
   |none=>none|some n=>match tH (fun i=>some (i*n,n)) z.cells.toList ps with
    |some cs=>some (.agg cs.toArray)|none=>none
  |_=>none
def VP(T:Tb)(st:TypeId)(x:Value)(f:Nat):Option Value :=
 match T.und st with
 |some (.struct fs)=>match nth fs.toList f with
  |some fd=>match x with
   |.pointer (some a)=>match bJ T fd.type with
    |some (_+1)=>some (.pointer (some ⟨a.block,a.off+fd.offset,none⟩))|_=>none
   |_=>none
  |none=>none
 |_=>none
def UL(T:Tb)(st:TypeId)(x:Value)(f:Nat):Option Value :=
 match T.und st with
 |some (.struct fs)=>match nth fs.toList f with
  |some fd=>match x with
   |.agg cs=>uX T fd.type cs.toList fd.offset|_=>none
  |none=>none
 |_=>none
def kG(i:Int)(n:Nat):Bool:=match i with
 |.ofNat k=>Nat.blt k n|.negSucc _=>false
def VJ(T:Tb)(t:TypeId)(x ix:Value):Option Value :=
 match ix with
 |.int _ i=>match T.und t,x with
  |some (.array n e),.pointer (some a)=>cond (kG i n) (match bJ T e with
   |some sz=>some (.pointer (some ⟨a.block,a.off+i.toNat*sz,none⟩))|none=>none) none
  |some (.slice e),.slice (some a) n _=>cond (kG i n) (match bJ T e with
   |some sz=>some (.pointer (some ⟨a.block,a.off+i.toNat*sz,none⟩))|none=>none) none
  |_,_=>none
 |_=>none
def KJ(T:Tb)(t:TypeId)(x ix:Value):Option Value :=
 match ix with
 |.int _ i=>match T.und t,x with
  |some (.array n e),.agg cs=>cond (kG i n) (match bJ T e with
   |some sz=>uX T e cs.toList (i.toNat*sz)|none=>none) none
  |some .string,.string s=>cond (kG i s.data.toList.length) (match nth s.data.toList i.toNat with
   |some b=>some (.int .u8 b.toNat)|none=>none) none
  |_,_=>none
 |_=>none
def QS(x:Value)(i:Nat):Option Value:=match x with
 |.tuple vs=>nth vs.toList i|_=>none
def tY(T:Tb)(t:TypeId)(x:Value):Option Value :=
 match T.und t,x with
 |some .string,.string s=>some (.int .i64 s.data.toList.length)|some (.slice _),.slice _ n _=>some (.int .i64 n)
 |some (.slice _),.chan (some _)=>some (.int .i64 0)|some (.array n _),_=>some (.int .i64 n)
 |_,_=>none
def A3(T:Tb)(t:TypeId)(x:Value):Option Value :=
 match T.und t,x with
 |some (.slice _),.slice none _ c=>some (.int .i64 c)|some (.slice _),.slice (some _) _ c=>cond (Nat.blt c b7) (some (.int .i64 c)) none
 |some (.slice _),.chan (some _)=>some (.int .i64 0)|_,_=>none
def KC:Value->Value->Option Value
 |.int k x,.int _ y=>some (.int k (if y>x then y else x))|_,_=>none
def FE:Value->Value->Option Value
 |.int k x,.int _ y=>some (.int k (if y<x then y else x))|_,_=>none
def pM(f:Value->Value->Option Value):Value->List Value->Option Value
 |x,[]=>some x|x,y::l=>match f x y with
  |some z=>pM f z l|none=>none
def eS(v:Value)(y:Nat):Option Nat:=match v with
 |.int _ i=>cond (kG i (y+1)) (some i.toNat) none|_=>none
def dN(len cap:Nat)(lo hi mx:Option Value):Option (Nat×Nat×Nat):=
 match (match mx with |some v=>eS v cap |none=>some cap)with
 |none=>none|some m=>match (match hi with |some v=>eS v m |none=>(match mx with |some _=>none |none=>some len))with
  |none=>none|some h=>match (match lo with |some v=>eS v h |none=>some 0)with
   |none=>none|some l=>some (l,h,m)
def emptyS(T:Tb)(e:TypeId)(a:Option Addr)(n c:Nat)(lo hi mx:Option Value):Option Value:=match a with
 |none=>none|some a=>match n with
  |_+1=>none|0=>match dN 0 0 lo hi mx with
   |some (0,0,0)=>(match bJ T e with
    |some _=>some (.slice (some a) 0 (match mx with |some _=>0 |none=>c))|none=>none)
   |_=>none
def iX(T:Tb)(t:TypeId)(x:Value)(lo hi mx:Option Value):Option Value :=
 match T.und t,x with
 |some .string,.string s=>match mx with
  |some _=>none|none=>match dN s.data.toList.length s.data.toList.length lo hi none with
   |some (l,h,_)=>some (.string ⟨((s.data.toList.take h).drop l).toArray⟩)|none=>none
 |some (.slice e),.slice a n c=>cond (Nat.blt c b7) (match dN n c lo hi mx with
   |some (l,h,m)=>match bJ T e with
    |some sz=>some (.slice (cond (Nat.beq m l) a (match a with
      |some a=>some ⟨a.block,a.off+l*sz,none⟩|none=>none)) (h-l) (m-l))
    |none=>none
   |none=>none) (emptyS T e a n c lo hi mx)
 |some (.slice e),.chan (some r)=>match dN 0 0 lo hi mx with
   |some _=>(match bJ T e with
    |some _=>some (.chan (some r))|none=>none)
   |none=>none
 |some (.array n e),.pointer (some a)=>match dN n n lo hi mx with
   |some (l,h,m)=>match bJ T e with
    |some sz=>cond (Nat.blt n b7) (some (.slice (some (cond (Nat.beq m l) ⟨a.block,a.off,none⟩ ⟨a.block,a.off+l*sz,none⟩)) (h-l) (m-l))) none|none=>none
   |none=>none
 |_,_=>none
def eF(T:Tb)(tm:List Value)(op:Op):Option Value :=
 match op with
 |.move x=>evalO tm x|.assign x=>evalO tm x
 |.pick c a b=>match evalO tm c with
  |some (.bool true)=>evalO tm a|some (.bool false)=>evalO tm b
  |_=>none
 |.build t ps=>match wJ tm ps.toList with
  |some qs=>UP T t qs|none=>none
 |.nilCheck x=>match evalO tm x with
  |some (.pointer (some a))=>some (.pointer (some a))|some (.func (.func f) a b)=>some (.func (.func f) a b)
  |_=>none
 |.binOp op t x y _=>match evalO tm x,evalO tm y with
  |some a,some b=>mN T op t a b|_,_=>none
 |.unOp op _ x=>match evalO tm x with
  |some a=>EY op a|none=>none
 |.convert s d x=>match evalO tm x with
  |some a=>KF T s d a|none=>none
 |.makeFunc fn first cap=>match fX tm first.toList,fX tm cap.toList with
  |some a,some b=>some (.func fn a.toArray b.toArray)|_,_=>none
 |.slice t x lo hi mx=>match evalO tm x,kP tm lo,kP tm hi,kP tm mx with
  |some a,some l,some h,some m=>iX T t a l h m|_,_,_,_=>none
 |.fieldAddr t x f=>match evalO tm x with
  |some a=>VP T t a f|none=>none
 |.field t x f=>match evalO tm x with
  |some a=>UL T t a f|none=>none
 |.indexAddr t x i=>match evalO tm x,evalO tm i with
  |some a,some b=>VJ T t a b|_,_=>none
 |.index t x i=>match evalO tm x,evalO tm i with
  |some a,some b=>KJ T t a b|_,_=>none
 |.extract x i=>match evalO tm x with
  |some a=>QS a i|none=>none
 |.call c=>match c.callee with
  |.builtin .len=>match fX tm c.args.toList,c.argTypes.toList with
   |some [x],t::_=>tY T t x|_,_=>none
  |.builtin .cap=>match fX tm c.args.toList,c.argTypes.toList with
   |some [x],t::_=>A3 T t x|_,_=>none
  |.builtin .max=>match fX tm c.args.toList with
   |some (x::l)=>pM KC x l|_=>none
  |.builtin .min=>match fX tm c.args.toList with
   |some (x::l)=>pM FE x l|_=>none
  |_=>none
 |_=>none
def kE(T:Tb)(kt:TypeId)(k:Value):List MapEntry->Nat->Option (Option (Nat×Value))
 |[],_=>some none|e::es,i=>match eqv T 50 kt k e.key with
  |some true=>some (some (i,e.val))|some false=>kE T kt k es (i+1)
  |none=>none
def U6(T:Tb)(K:TypeId->Value->Bool)(cs:List Value):List Field->Bool
 |[]=>true|f::fs=>
  if f.name ≠ "_" then
   match uX T f.type cs f.offset with
   |none=>false|some v=>cond (K f.type v) (U6 T K cs fs) false
  else U6 T K cs fs
def jX(T:Tb):Nat->TypeId->Value->Bool
 |0,_,_=>false|d+1,t,v=>match T.und t with
  |some (.int _)=>true|some .string=>true
  |some .bool=>true|some (.struct fs)=>match v with
   |.agg cs=>U6 T (jX T d) cs.toList fs.toList|_=>false
  |_=>false
def sY(E:Value->Value->Bool):List Value->List Value->Bool
 |[],[]=>true|a::x,b::y=>cond (E a b) (sY E x y) false
 |_,_=>false
def rO:Nat->Value->Value->Bool
 |0,_,_=>false|d+1,x,y=>match x,y with
  |.int k a,.int k' b=>cond (decide (k=k')) (decide (a=b)) false|.bool a,.bool b=>a==b
  |.string a,.string b=>gE a.data.toList b.data.toList|.agg a,.agg b=>sY (rO d) a.toList b.toList
  |_,_=>false
def bR(s:S)(i:Nat):Option Row:=match lk s.h i with
 |some (.inl (_,_,1))=>none|some (.inl (l,e,0))=>some (l,e,0)
 |some (.inl (l,e,n+2))=>some (l,e,n+2)|_=>none
def tJ(s:S)(i sz:Nat):Option (List Value):=match lk s.h i with
 |some (.inl (l,e,1))=>cond (Nat.beq e (sz+1)) (some l) none|some (.inl (l,_,n+2))=>cond (Nat.beq n sz) (some l) none
 |_=>none
def v6(T:Tb)(s:S)(t:TypeId)(x:Value)(lo hi mx:Option Value):Option Value :=
 match T.und t,x with
 |some (.slice e),.slice (some a) n c=>cond (Nat.blt c b7) none (match bJ T e with
  |none=>none|some sz=>match tJ s a.block sz with
   |some l=>(cond (Nat.beq a.off (aW c*sz)) (cond (Nat.blt 0 sz)
    (match mx with
     |some v=>match eS v ((l.length-a.off)/sz)with
      |none=>none|some m=>cond (Nat.ble (a.off+m*sz) l.length) (match dN n m lo hi (some v)with
       |some (l1,h,m)=>cond (Nat.blt m b7) (some (.slice (some (cond (Nat.beq m l1) ⟨a.block,a.off,none⟩ ⟨a.block,a.off+l1*sz,none⟩)) (h-l1) (m-l1))) none|none=>none) none
     |none=>match dN n ((l.length-a.off)/sz) lo hi none with
      |none=>none|some (l1,h,_)=>cond (Nat.ble (a.off+h*sz) l.length)
       (match l1 with
        |0=>some (.slice (some ⟨a.block,a.off,none⟩) h c)|l1+1=>cond (Nat.blt (l1+1) h) (some (.slice (some ⟨a.block,a.off+(l1+1)*sz,none⟩) (h-(l1+1)) (c+(l1+1)))) none) none) none) none)
   |none=>none)
 |_,_=>none
def iV(T:Tb)(tm:List Value)(s:S)(op:Op):Option Value :=
 match op with
 |.load t x=>match evalO tm x with
  |some (.pointer (some a))=>match lk s.h a.block with
   |some (.inl (l,_,_))=>match T.und t with
    |none=>none|some d=>cond (kQ d) (match bJ T t with
      |some n=>match nS l a.off n with
       |some cs=>some (.agg cs.toArray)|none=>none
      |none=>none) (nth l a.off)
   |_=>none
  |_=>none
 |.slice t x lo hi mx=>match evalO tm x,kP tm lo,kP tm hi,kP tm mx with
  |some a,some l,some h,some m=>v6 T s t a l h m|_,_,_,_=>none
 |.lookup t x k ok=>match T.und t,evalO tm x,evalO tm k with
  |some (.map kt et),some (.map r),some kv=>cond (jX T 50 kt kv)
   (match (match r with
     |none=>some []|some r=>match lk s.h r with
      |some (.inr (es,_))=>some es|_=>none)with
    |none=>none|some es=>match kE T kt kv es 0 with
     |none=>none|some (some (_,v))=>some (cond ok (.tuple #[v,.bool true]) v)
     |some none=>match T.inf et with
      |some (_,_,z)=>some (cond ok (.tuple #[z,.bool false]) z)|none=>none) none
  |_,_,_=>none
 |.call c=>match c.callee with
  |.builtin .len=>match fX tm c.args.toList,c.argTypes.toList with
   |some [.map r],t::_=>match T.und t with
    |some (.map _ _)=>match r with
     |none=>some (.int .i64 0)|some r=>match lk s.h r with
      |some (.inr (es,_))=>some (.int .i64 es.length)|_=>none
    |_=>none
   |_,_=>none
  |_=>none
 |_=>none
def newRow(s:S)(l:List Value)(e:TypeId)(md:Nat):S:=⟨(s.nx,.inl (l,e,md))::s.h,s.nx+1⟩
def bI(z:List Value):Nat->List Value
 |0=>[]|n+1=>z++bI z n
def lI:List Value->Bool
 |[]=>true|v::l=>cond v.oneCell' (lI l) false
def jQ(s:S)(b:Option Addr)(n:Nat):Option (List Value):=match n with
 |0=>some []|n+1=>match b with
  |none=>none|some a=>match lk s.h a.block with
   |some (.inl (l,_,_))=>nS l a.off (n+1)|_=>none
def oK(need by_:Nat):Bool:=cond (Nat.ble (need*by_) 140737488355328) (Nat.ble need 140737488355328) false
def KD(s:S)(e:TypeId)(sz by_:Nat)(z:Value)(base:Option Addr)(n c k:Nat)(new:List Value):Option (Value×S):=
 cond (Nat.blt c b7) (cond (Nat.ble (n+k) c)
   (match base with
    |none=>none|some a=>match bR s a.block with
     |some (l,e',md)=>match lV l (a.off+n*sz) new with
      |some l'=>some (.slice (some ⟨a.block,a.off,none⟩) (n+k) c,⟨up s.h a.block (.inl (l',e',md)),s.nx⟩)|none=>none
     |none=>none)
   (match jQ s base (n*sz)with
    |some old=>cond (oK (n+k) by_) (cond (Nat.beq z.cells.toList.length sz)
      (some (.slice (some ⟨s.nx,0,none⟩) (n+k) b7,newRow s (old++new) e (sz+2))) none) none
    |none=>none))
  (match base with
   |none=>none|some a=>match bR s a.block with
    |some (l,e',md)=>cond (Nat.beq md (sz+2)) (cond (Nat.beq e' e) (cond (Nat.beq a.off (aW c*sz)) (cond (oK (n+k) by_) (cond (Nat.beq z.cells.toList.length sz)
      (match nS l a.off (n*sz)with
       |some p=>some (.slice (some ⟨s.nx,0,none⟩) (n+k) b7,⟨(s.nx,.inl (p++new,e,sz+2))::rm s.h a.block,s.nx+1⟩)|none=>none) none) none) none) none) none
    |none=>none)
def o6(T:Tb)(s:S)(t xt:TypeId)(sv x:Value):Option (Value×S):=
 match T.und t,T.und xt,sv,x with
 |some (.slice e),some (.slice _),.slice base n c,.slice xb k _=>match T.inf e with
  |some (sz+1,by_,z)=>match jQ s xb (k*(sz+1))with
   |none=>none|some new=>cond (lI new)
    (match k with
     |0=>cond (Nat.blt c b7) (cond (Nat.ble n c) (some (.slice base n c,s)) none)
      (match base with
       |some a=>match bR s a.block with
        |some (l,_,md)=>cond (Nat.beq md (sz+3)) (cond (Nat.beq a.off (aW c*(sz+1))) (match nS l a.off (n*(sz+1))with
         |some _=>some (.slice base n c,s)|none=>none) none) none
        |none=>none
       |none=>none)
     |k+1=>KD s e (sz+1) by_ z base n c (k+1) new) none
  |_=>none
 |_,_,_,_=>none
def pX:Value->Bool
 |.chan (some _)=>true|_=>false
def oL(x:Value):Value:=cond (pX x) (.slice none 0 0) x
def mQ(T:Tb)(s:S)(t xt:TypeId)(sv x:Value):Option (Value×S):=
 cond (pX sv) (match o6 T s t xt (.slice none 0 0) (oL x)with
  |some (.slice none _ _,_)=>some (sv,s)|some (.slice (some a) n c,s')=>some (.slice (some a) n c,s')
  |_=>none) (o6 T s t xt sv (oL x))
def Dl(T:Tb)(s:S)(t xt:TypeId)(sv x:Value):Option (Value×S):=
 match T.und t,T.und xt,sv,x with
 |some (.slice e),some (.int _),.slice none 0 0,.int _ i=>match T.inf e with
  |some (sz+1,by_,z)=>match IntKind.i64.wrap i with
   |.ofNat (k+1)=>cond (oK (k+1) by_) (cond (Nat.beq z.cells.toList.length (sz+1)) (cond (lI (bI z.cells.toList (k+1)))
     (some (.slice (some ⟨s.nx,0,none⟩) (k+1) b7,newRow s (bI z.cells.toList (k+1)) e (sz+1+2))) none) none) none
   |_=>none
  |_=>none
 |_,_,_,_=>none
def KR(T:Tb)(s:S)(t xt:TypeId)(sv x:Value):Option (Value×S):=match mQ T s t xt sv x with
 |some r=>some r|none=>Dl T s t xt sv x
def U7(T:Tb)(s:S)(t:TypeId)(d x:Value):Option (Value×S):=
 match T.und t,d,x with
 |some (.slice e),.slice base n _,.slice xb k _=>match bJ T e with
  |none=>none|some sz=>match jQ s xb (Nat.min k n*sz)with
   |none=>none|some cs=>cond (lI cs) (match cs with
    |[]=>some (.int .i64 (Nat.min k n),s)|_::_=>match base with
     |none=>none|some a=>match bR s a.block with
      |some (l,e',md)=>match lV l a.off cs with
       |some l'=>some (.int .i64 (Nat.min k n),⟨up s.h a.block (.inl (l',e',md)),s.nx⟩)|none=>none
      |none=>none) none
 |_,_,_=>none
def PO(T:Tb)(s:S)(t:TypeId)(p v:Value):Option (Value×S):=
 match p with
 |.pointer (some a)=>match bJ T t with
  |none=>none|some n=>cond (Nat.beq v.cells.toList.length n) (cond (lI v.cells.toList) (match bR s a.block with
   |some (l,e,md)=>match lV l a.off v.cells.toList with
    |some l'=>some (undef,⟨up s.h a.block (.inl (l',e,md)),s.nx⟩)|none=>none
   |none=>none) none) none
 |_=>none
def KM(T:Tb)(s:S)(t:TypeId)(x:Value):Option (Value×S):=
 match T.und t,x with
 |some (.slice e),.slice base n _=>match n with
  |0=>some (undef,s)|n+1=>match base with
   |none=>some (undef,s)|some a=>match T.inf e with
    |none=>none|some (_,_,z)=>cond (lI (bI z.cells.toList (n+1))) (match bR s a.block with
     |some (l,e',md)=>match lV l a.off (bI z.cells.toList (n+1))with
      |some l'=>some (undef,⟨up s.h a.block (.inl (l',e',md)),s.nx⟩)|none=>none
     |none=>none) none
 |_,_=>none
def U4(T:Tb)(s:S)(t:TypeId)(l c:Value):Option (Value×S):=
 match T.und t,l,c with
 |some (.slice e),.int _ a,.int _ b=>match T.inf e with
  |some (sz,by_,z)=>match IntKind.i64.wrap a,IntKind.i64.wrap b with
   |.ofNat n,.ofNat k=>cond (Nat.ble n k) (cond (Nat.ble (by_*k) 281474976710656) (cond (Nat.beq z.cells.toList.length sz)
     (cond (Nat.blt k b7) (some (.slice (some ⟨s.nx,0,none⟩) n k,newRow s (bI z.cells.toList k) e 0)) none) none) none) none
   |_,_=>none
  |none=>none
 |_,_,_=>none
def VU(T:Tb)(s:S)(t:TypeId)(n:Nat)(ps:List (Nat×Value)):Option (Value×S):=
 match T.und t with
 |some (.slice e)=>match T.inf e with
  |some (sz,_,z)=>cond (Nat.ble (n*sz) 16777216) (cond (Nat.beq z.cells.toList.length sz) (match tH (fun i=>some (i*sz,sz)) (bI z.cells.toList n) ps with
   |some cs=>cond (Nat.blt n b7) (some (.slice (some ⟨s.nx,0,none⟩) n n,newRow s cs e 0)) none|none=>none) none) none
  |none=>none
 |_=>none
def PR(T:Tb)(s:S)(t:TypeId)(x:Value)(lo hi mx:Option Value):Option (Value×S):=
 match T.und t,x with
 |some (.slice e),.slice (some a) n c=>cond (Nat.blt c b7) none (match bJ T e with
  |none=>none|some sz=>match tJ s a.block sz with
   |some l=>(cond (Nat.beq a.off (aW c*sz)) (cond (Nat.blt 0 sz)
    (match mx with
     |some v=>match eS v ((l.length-a.off)/sz)with
      |none=>none|some m=>cond (Nat.ble (a.off+m*sz) l.length) (match dN n m lo hi (some v)with
       |some (l1,h,m)=>cond (Nat.blt m b7) (some (.slice (some (cond (Nat.beq m l1) ⟨a.block,a.off,none⟩ ⟨a.block,a.off+l1*sz,none⟩)) (h-l1) (m-l1),s)) none|none=>none) none
     |none=>match dN n ((l.length-a.off)/sz) lo hi none with
      |none=>none|some (l1,h,_)=>cond (Nat.ble (a.off+h*sz) l.length)
       (match l1 with
        |0=>some (.slice (some ⟨a.block,a.off,none⟩) h c,s)|l1+1=>cond (Nat.blt (l1+1) h) (some (.slice (some ⟨a.block,a.off+(l1+1)*sz,none⟩) (h-(l1+1)) (c+(l1+1)),s))
          (some (.slice (some ⟨s.nx,0,none⟩) 0 b7,⟨s.h,s.nx+1⟩))) none) none) none)
   |none=>none)
 |_,_=>none
def sA(s:S)(r:Nat):Option (List MapEntry×Nat):=match lk s.h r with
 |some (.inr x)=>some x|_=>none
def B8(s:S)(r:Nat)(es:List MapEntry)(cl:Nat):S:=⟨up s.h r (.inr (es,cl)),s.nx⟩
def CA(es:List MapEntry)(i:Nat)(f:MapEntry->MapEntry):List MapEntry:=match es,i with
 |[],_=>[]|e::es,0=>f e::es
 |e::es,i+1=>e::CA es i f
def FF(b:Int):List MapEntry->Nat->Option Nat
 |[],_=>none|e::es,i=>cond (decide ((e.born:Int)=b)) (some i) (FF b es (i+1))
def KI(T:Tb)(s:S)(t:TypeId)(m k v:Value):Option (Value×S):=
 match T.und t,m with
 |some (.map kt _),.map (some r)=>cond (jX T 50 kt k) (cond (plain k) (match sA s r with
  |none=>none|some (es,cl)=>match kE T kt k es 0 with
   |none=>none|some none=>some (undef,B8 s r (es++[{ key:=k,val:=v,born:=cl }]) (cl+1))
   |some (some (i,_))=>match nth es i with
    |none=>none|some e=>cond (rO 50 e.key k) (some (undef,B8 s r (CA es i fun e=>{ e with val:=v }) cl)) none) none) none
 |_,_=>none
def QB(T:Tb)(s:S)(t:TypeId)(m k:Value):Option (Value×S):=
 match T.und t,m with
 |some (.map kt et),.map (some r)=>cond (jX T 50 kt k) (cond (plain k) (match sA s r with
  |none=>none|some (es,cl)=>match kE T kt k es 0 with
   |none=>none|some none=>match T.inf et with
    |none=>none|some (_,_,z)=>some (.tuple #[z,.int .i64 cl],B8 s r (es++[{ key:=k,val:=z,born:=cl }]) (cl+1))
   |some (some (i,v))=>match nth es i with
    |none=>none|some e=>cond (rO 50 e.key k) (some (.tuple #[v,.int .i64 e.born],B8 s r es cl)) none) none) none
 |_,_=>none
def UN(s:S)(m st v:Value):Option (Value×S):=
 match m,st with
 |.map (some r),.int _ b=>match sA s r with
  |none=>none|some (es,cl)=>match FF b es 0 with
   |none=>none|some i=>some (undef,B8 s r (CA es i fun e=>{ e with val:=v }) cl)
 |_,_=>none
def KL(es:List MapEntry)(i:Nat):List MapEntry:=match es,i with
 |[],_=>[]|_::es,0=>es
 |e::es,i+1=>e::KL es i
def uG(T:Tb)(s:S)(t:TypeId)(m k:Value):Option (Value×S):=
 match T.und t,m with
 |some (.map kt _),.map none=>cond (jX T 50 kt k) (some (undef,s)) none|some (.map kt _),.map (some r)=>cond (jX T 50 kt k) (match sA s r with
  |none=>none|some (es,cl)=>match kE T kt k es 0 with
   |none=>none|some none=>some (undef,B8 s r es cl)
   |some (some (i,_))=>some (undef,B8 s r (KL es i) cl)) none
 |_,_=>none
def lW(T:Tb)(tm:List Value)(s:S)(op:Op):Option (Value×S):=
 match op with
 |.alloc e=>match T.inf e with
  |some (_,_,z)=>some (.pointer (some ⟨s.nx,0,none⟩),newRow s z.cells.toList e 0)|none=>none
 |.box e x=>match evalO tm x with
  |some v=>some (.pointer (some ⟨s.nx,0,none⟩),newRow s v.cells.toList e 0)|none=>none
 |.store t a x=>match evalO tm a,evalO tm x with
  |some p,some v=>PO T s t p v|_,_=>none
 |.buildSlice t n ps=>match wJ tm ps.toList with
  |some qs=>VU T s t n qs|none=>none
 |.makeSlice t l c=>match evalO tm l,evalO tm c with
  |some a,some b=>U4 T s t a b|_,_=>none
 |.makeMap _ none=>some (.map (some s.nx),⟨(s.nx,.inr ([],0))::s.h,s.nx+1⟩)|.slice t x lo hi mx=>match evalO tm x,kP tm lo,kP tm hi,kP tm mx with
  |some a,some l,some h,some m=>PR T s t a l h m|_,_,_,_=>none
 |.mapUpdate t m k x=>match evalO tm m,evalO tm k,evalO tm x with
  |some a,some b,some v=>KI T s t a b v|_,_,_=>none
 |.insert t m k x=>match evalO tm m,evalO tm k,evalO tm x with
  |some a,some b,some v=>KI T s t a b v|_,_,_=>none
 |.mapEntry t m k=>match evalO tm m,evalO tm k with
  |some a,some b=>QB T s t a b|_,_=>none
 |.entryStore _ m st x=>match evalO tm m,evalO tm st,evalO tm x with
  |some a,some b,some v=>UN s a b v|_,_,_=>none
 |.call c=>match c.callee with
  |.builtin .append=>match fX tm c.args.toList,c.argTypes.toList with
   |some [a,b],[t,xt]=>KR T s t xt a b|_,_=>none
  |.builtin .copy=>match fX tm c.args.toList,c.argTypes.toList with
   |some [a,b],t::_=>U7 T s t a b|_,_=>none
  |.builtin .delete=>match fX tm c.args.toList,c.argTypes.toList with
   |some [a,b],t::_=>uG T s t a b|_,_=>none
  |.builtin .clear=>match fX tm c.args.toList,c.argTypes.toList with
   |some [a],t::_=>KM T s t a|_,_=>none
  |_=>none
 |_=>none
def callOf(T:Tb)(tm:List Value)(op:Op):Option (FuncId×List Value):=
 match op with
 |.call c=>match c.callee with
  |.value f=>match evalO tm f with
   |some (.func (.func g) first cap)=>match T.fn g with
    |some fn=>cond fn.body.isSome (match fX tm c.args.toList with
     |some args=>some (g,first.toList++args++cap.toList)|none=>none) none
    |none=>none
   |_=>none
  |_=>none
 |_=>none
abbrev uZ:=FuncId->List Value->S->Option (Value×S)
def pV(T:Tb)(call:uZ)(tm:List Value)(s:S)(op:Op):Option (Value×S):=
 match eF T tm op with
 |some v=>some (v,s)|none=>match iV T tm s op with
  |some v=>some (v,s)|none=>match lW T tm s op with
   |some r=>some r|none=>match callOf T tm op with
    |some (f,args)=>call f args s|none=>none
def qO(ops:List Oper)(j:Nat):Option Tmp:=match nth ops j with
 |some o=>o.dst|none=>none
def UT(ops:List Oper)(tm:List Value)(o:Oper):Bool :=
 match o.guard with
 |none=>true|some (j,want)=>match qO ops j with
  |none=>false|some d=>match nth tm d with
   |some (.bool b)=>b==want|_=>false
def rQ(tm:List Value)(d:Option Tmp)(v:Value):List Value:=match d with
 |none=>tm|some d=>tm.set d v
def Az(a b:Addr):Bool:=match a.spot,b.spot with
 |none,none=>cond (Nat.beq a.block b.block) (Nat.beq a.off b.off) false|_,_=>false
def GJ:Option Addr->Option Addr->Bool
 |none,none=>true|some a,some b=>Az a b
 |_,_=>false
def TW:Option Nat->Option Nat->Bool
 |none,none=>true|some a,some b=>Nat.beq a b
 |_,_=>false
def ZI:Fn->Fn->Bool
 |.func f,.func g=>Nat.beq f g|_,_=>false
mutual
def EW:Value->Value->Bool
 |.bool a,y=>match y with
  |.bool b=>a==b|_=>false
 |.int k a,y=>match y with
  |.int k' b=>cond (decide (k=k')) (decide (a=b)) false|_=>false
 |.string a,y=>match y with
  |.string b=>gE a.data.toList b.data.toList|_=>false
 |.pointer p,y=>match y with
  |.pointer q=>GJ p q|_=>false
 |.slice p n c,y=>match y with
  |.slice q n' c'=>cond (GJ p q) (cond (Nat.beq n n') (Nat.beq c c') false) false|_=>false
 |.map p,y=>match y with
  |.map q=>TW p q|_=>false
 |.nilFunc,y=>match y with
  |.nilFunc=>true|_=>false
 |.nilIface,y=>match y with
  |.nilIface=>true|_=>false
 |.func f ⟨a⟩ ⟨b⟩,y=>match y with
  |.func g ⟨c⟩ ⟨d⟩=>cond (ZI f g) (cond (UC a c) (UC b d) false) false|_=>false
 |.agg ⟨a⟩,y=>match y with
  |.agg ⟨b⟩=>UC a b|_=>false
 |.tuple ⟨a⟩,y=>match y with
  |.tuple ⟨b⟩=>UC a b|_=>false
 |_,_=>false
def UC:List Value->List Value->Bool
 |[],y=>match y with
  |[]=>true|_=>false
 |a::x,y=>match y with
  |b::y=>cond (EW a b) (UC x y) false|_=>false
end
abbrev Rec:=List Value×Oper×Value×Nat×S×S
def Lm(T:Tb)(call:uZ)(ops:List Oper)(tm:List Value)(s:S)(o:Oper):Option (Value×Nat×S):=
 cond (UT ops tm o)
  (match eF T tm o.op with
   |some v=>some (v,0,s)|none=>match iV T tm s o.op with
    |some v=>some (v,1,s)|none=>match pV T call tm s o.op with
     |some (v,s')=>some (v,2,s')|none=>none)
  (some (undef,0,s))
def Us(T:Tb)(call:uZ)(ops:List Oper):List Oper->List Value->S->Option (List Rec×List Value×S)
 |[],tm,s=>some ([],tm,s)|o::r,tm,s=>match Lm T call ops tm s o with
  |none=>none|some (v,k,s')=>match Us T call ops r (rQ tm o.dst v) s' with
   |none=>none|some (l,tm',s'')=>some ((tm,o,v,k,s,s')::l,tm',s'')
def CP(acc:List Nat):List Edge->Nat
 |[]=>0|e::r=>cond (Region.binds .any e) ((2^e.on|||(match nth acc e.on with
  |some x=>x|none=>0))|||CP acc r) (CP acc r)
def cK:List Oper->List Nat->List Nat
 |[],acc=>acc|o::r,acc=>cK r (acc++[CP acc o.after.toList])
def tV(i:Nat):List Edge->Bool
 |[]=>true|e::r=>cond (Region.binds .any e) (cond (Nat.blt e.on i) (tV i r) false) (tV i r)
def tmpsOf:List Operand->List Tmp
 |[]=>[]|.tmp t::r=>t::tmpsOf r
 |_::r=>tmpsOf r
def CT(ops:List Oper)(o:Oper):List Tmp:=match o.guard with
 |none=>tmpsOf o.op.operands.toList|some (j,_)=>match qO ops j with
  |none=>tmpsOf o.op.operands.toList|some d=>d::tmpsOf o.op.operands.toList
def Lw(lk:List Tmp)(di:Option Tmp)(i mi k mk:Nat)(dk:Option Tmp):Bool:=match dk with
 |none=>true|some d=>cond (Nat.beq i k) true (cond (match di with |none=>false |some d'=>Nat.beq d d') false
   (cond (lk.any (Nat.beq d)) (cond (Nat.testBit mi k) true (Nat.testBit mk i)) true))
def rowOk(lk:List Tmp)(di:Option Tmp)(i mi:Nat):List Oper->List Nat->Nat->Bool
 |o::r,mk::ms,k=>cond (Lw lk di i mi k mk o.dst) (rowOk lk di i mi r ms (k+1)) false|[],_,_=>true
 |_::_,[],_=>false
def UA(ops:List Oper)(ms:List Nat):List Oper->List Nat->Nat->Bool
 |o::r,mi::mr,i=>cond (tV i o.after.toList) (cond (rowOk (CT ops o) o.dst i mi ops ms 0) (UA ops ms r mr (i+1)) false) false|[],_,_=>true
 |_::_,[],_=>false
def Zd(T:Tb)(tm:List Value)(op:Op)(v:Value)(s:S):Bool:=match iV T tm s op with
 |some u=>EW u v|none=>false
def Uv(T:Tb)(tm:List Value)(op:Op)(v:Value)(i mi:Nat):List Rec->List Nat->Nat->Bool
 |(_,_,_,kd,s,s')::r,mk::ms,k=>cond (Nat.beq kd 2)
   (cond (Nat.blt k i) (cond (Nat.testBit mi k) true (Zd T tm op v s)) (cond (Nat.testBit mk i) true (Zd T tm op v s')))
   true&&Uv T tm op v i mi r ms (k+1)
 |[],_,_=>true|_::_,[],_=>false
def Wm(i mi:Nat):List Rec->Nat->Bool
 |(_,_,_,kd,_,_)::r,k=>cond (Nat.blt k i) (cond (Nat.beq kd 2) (Nat.testBit mi k) true) true&&Wm i mi r (k+1)|[],_=>true
def Uy(T:Tb)(rs:List Rec)(ms:List Nat):List Rec->List Nat->Nat->Bool
 |(tm,o,v,kd,_,_)::r,mi::mr,i=>cond (Nat.beq kd 0) true (cond (Nat.beq kd 1) (Uv T tm o.op v i mi rs ms 0) (Wm i mi rs 0))&&Uy T rs ms r mr (i+1)|[],_,_=>true
 |_::_,[],_=>false
def KX(ops:List Oper):Bool:=UA ops (cK ops []) ops (cK ops []) 0
def uR(T:Tb)(tm:List Value)(s:S):List ResultVar->Option (List Value)
 |[]=>some []|.tmp t::r=>match nth tm t with
  |some v=>match uR T tm s r with
   |some l=>some (v::l)|none=>none
  |none=>none
 |.cell a t::r=>match iV T tm s (.load t (.tmp a))with
  |some v=>match uR T tm s r with
   |some l=>some (v::l)|none=>none
  |none=>none
def uU:List Value->Value
 |[v]=>v|l=>.tuple l.toArray
def pad:Nat->List Value->List Value
 |0,l=>l|n+1,[]=>undef::pad n []
 |n+1,v::l=>v::pad n l
def tA(P:Program)(eqs:List TypeId):Tb where
 und t:=match nth P.types.toList t with
  |none=>none|some i=>match i.desc with
   |.named _ u=>match nth P.types.toList u with
    |some j=>some j.desc|none=>none
   |d=>some d
 inf t:=match nth P.types.toList t with
  |none=>none|some i=>match i.zero with
   |some z=>cond (plain z) (some (i.size,i.bytes,z)) none|none=>none
 fn f:=nth P.funcs.toList f
 eqs t:=eqs.any (Nat.beq t)
end Go.Rx
