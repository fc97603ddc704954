import Derived.Calls
import Derived.Orders
import Derived.Below
import Derived.Laws.CopyRow
import Derived.KernelRfl
import Derived.Test.YtmflfedkfdkipaaGreatP1
set_option linter.all false
namespace Go.Rx
open Go
structure Nm where
 blk:Nat->Nat
 sh:Nat->Nat
 cp:Nat->Nat
def cV:Nat:=18446744073709551616
def cT(c:Nat):Nat:=c-cV
def dM(m:Nm)(i c:Nat):Nat:=if c<cV then c else m.cp i-cT c
mutual
def ren(m:Nm):Value->Value
 |.pointer (some a)=>.pointer (some ⟨m.blk a.block,m.sh a.block+a.off,none⟩)|.slice (some a) n c=>.slice (some ⟨m.blk a.block,m.sh a.block+a.off,none⟩) n (dM m a.block c)
 |.map (some r)=>.map (some (m.blk r))|.func fn first cap=>.func fn (uB m first) (uB m cap)
 |.iface t v=>.iface t (ren m v)|.agg cs=>.agg (uB m cs)
 |.tuple cs=>.tuple (uB m cs)|.bool b=>.bool b
 |.int k n=>.int k n|.float k n=>.float k n
 |.complex k a b=>.complex k a b|.string s=>.string s
 |.pointer none=>.pointer none|.slice none n c=>.slice none n c
 |.map none=>.map none|.chan (some r)=>.slice (some ⟨m.blk r,m.sh r,some (m.cp r)⟩) 0 0
 |.chan none=>.chan none|.nilFunc=>.nilFunc
 |.nilIface=>.nilIface
def uB(m:Nm):Zu Value->Zu Value
 |⟨l⟩=>⟨aJ m l⟩
def aJ(m:Nm):X Value->X Value
 |[]=>[]|v::l=>ren m v::aJ m l
end
def mD(m:Nm)(l:X Value):aJ m l=l.map (ren m):=by induction l with|nil=>simp[aJ]|cons v l ih=>simp[aJ,ih]
def zae(m:Nm)(a:Zu Value):uB m a=a.map (ren m):=by cases a;simp[uB,mD]
@[simp] def lY(m:Nm)(l:X Value):uB m ⟨l⟩=⟨aJ m l⟩:=by simp[uB]
@[simp] def wL(m:Nm)(l:X Value):(aJ m l).length=l.length:=by simp[mD]
@[simp] def v15(m:Nm)(a:Zu Value):(uB m a).size=a.size:=by simp[zae]
@[simp] def lM(m:Nm)(a:Zu Value):(uB m a).toList=aJ m a.toList:=by cases a;simp
def L7(m:Nm)(a b:X Value):aJ m (a++b)=aJ m a++aJ m b:=by simp[mD]
def qt8(m:Nm)(v:Value):(ren m v).oneCell'=v.oneCell':=by
 cases v with
 |pointer a=>cases a<;>rfl|slice a n c=>cases a<;>rfl
 |map r=>cases r<;>rfl|chan r=>cases r<;>rfl
 |_=>rfl
def kc(m:Nm)(v:Value):(ren m v).cells=uB m v.cells:=by
 cases v with
 |pointer a=>cases a<;>simp[ren,Value.cells,aJ]|slice a n c=>cases a<;>simp[ren,Value.cells,aJ]
 |map r=>cases r<;>simp[ren,Value.cells,aJ]|chan r=>cases r<;>simp[ren,Value.cells,aJ]
 |_=>simp[ren,Value.cells,aJ]
abbrev Row:=X Value×TypeId×Nat
abbrev mI:=Row ⊕ (X MapEntry×Nat)
abbrev Hp:=X (Nat×mI)
def lk:Hp->Nat->V mI
 |[],_=>none|(j,b)::h,i=>cond (Nat.beq j i) (some b) (lk h i)
def up:Hp->Nat->mI->Hp
 |[],_,_=>[]|(j,b)::h,i,c=>cond (Nat.beq j i) ((j,c)::h) ((j,b)::up h i c)
def rm:Hp->Nat->Hp
 |[],_=>[]|(j,b)::h,i=>cond (Nat.beq j i) (rm h i) ((j,b)::rm h i)
def beq_eq(j i:Nat):Nat.beq j i=decide (j=i):=by rw[Bool.eq_iff_iff];simp[Nat.beq_eq]
def mL(j:Nat)(b:mI)(h:Hp)(i:Nat):lk ((j,b)::h) i=if j=i then some b else lk h i:=by simp only[lk,beq_eq];by_cases e:j=i<;>simp[e]
def DH(h:Hp)(i:Nat)(c:mI)(j:Nat):lk (up h i c) j=if i=j then(lk h i).map (fun _=>c)else lk h j:=by induction h with|nil=>simp[up,lk]|cons x h ih=>obtain⟨k,b⟩:=x;simp only[up,beq_eq];by_cases e:k=i;subst e;simp only[yC,zC,mL];by_cases e2:k=j<;>simp[e2];simp only[e,yB,zD,mL,ih];by_cases e2:i=j;subst e2;simp[e];by_cases e3:k=j<;>simp[e2,e3]
def Gd(h:Hp)(i j:Nat):lk (rm h i) j=if i=j then none else lk h j:=by induction h with|nil=>simp[rm,lk]|cons x h ih=>obtain⟨k,b⟩:=x;simp only[rm,beq_eq];by_cases e:k=i;subst e;simp only[yC,zC,mL,ih];by_cases e2:k=j<;>simp[e2];simp only[e,yB,zD,mL,ih];by_cases e2:i=j;subst e2;simp[e];by_cases e3:k=j<;>simp[e2,e3]
structure S where
 h:Hp
 nx:Nat
def y8(m:Nm)(e:MapEntry):MapEntry:={ key:=ren m e.key,val:=ren m e.val,born:=e.born }
def yH(m:Nm)(i:Nat)(l:X Value)(e:TypeId)(w:Nr):Nat->Prop
 |0=>m.sh i=0/\w.heap[m.blk i]? = some (.cells (aJ m l).toArray e (0,0))|1=>∃c e' fr,w.heap[m.blk i]? = some (.cells c e' fr)/\(∀k v,l[k]? = some v->c[m.sh i+k]? = some (ren m v))/\∀n,e=n+1->l.length<=m.cp i*n
 |n+2=>∃pre rest,w.heap[m.blk i]? = some (.cells (pre++aJ m l++rest).toArray e (0,0))/\pre.length=m.sh i/\l.length+rest.length=m.cp i*n
def v8(m:Nm)(i:Nat)(w:Nr):mI->Prop
 |.inl (l,e,md)=>yH m i l e w md|.inr (es,clock)=>w.heap[m.blk i]? = some (.map (es.map (y8 m)).toArray clock)
def Own:mI->PE
 |.inl (_,_,1)=>false|_=>true
structure Fits(m:Nm)(s:S)(w:Nr):Prop where
 ok:∀i b,lk s.h i=some b->v8 m i w b
 inj:∀i j b c,lk s.h i=some b->lk s.h j=some c->i≠j->Own b=true->m.blk i≠m.blk j
 bd:∀i b,lk s.h i=some b->i<s.nx
def aN(n:Nat)(m m':Nm):Prop:=∀i,i<n->m'.blk i=m.blk i/\m'.sh i=m.sh i/\m'.cp i=m.cp i
def aN.refl(n:Nat)(m:Nm):aN n m m:=fun _ _=>⟨rfl,rfl,rfl⟩
def aN.trans{n k:Nat}{a b c:Nm}(h:aN n a b)(h':aN k b c)(hk:n<=k):aN n a c:=fun i hi=>by
 obtain⟨a1,a2,a3⟩:=h i hi;obtain⟨b1,b2,b3⟩:=h' i qq0;exact⟨b1.trans a1,b2.trans a2,b3.trans a3⟩
variable{n:Nat}
def aN.mono{k:Nat}{a b:Nm}(h:aN n a b)(hk:k<=n):aN k a b:=fun i hi=>h i qq0
def gD(m:Nm)(s:S)(w:Nr):Prop:=∀m',aN s.nx m m'->Fits m' s w
def iY(m:Nm)(n:Nat)(v cv:Value):Prop:=∀m',aN n m m'->ren m' v=cv
def nS(m:Nm)(n:Nat)(v cv:X Value):Prop:=∀m',aN n m m'->aJ m' v=cv
variable{m:Nm}
variable{s:S}
variable{w:Nr}
def gD.fits(h:gD m s w):Fits m s w:=h m (aN.refl _ _)
def iY.at{v cv:Value}(h:iY m n v cv):ren m v=cv:=h m (aN.refl _ _)
def nS.at{v cv:X Value}(h:nS m n v cv):aJ m v=cv:=h m (aN.refl _ _)
def iY.ext{m':Nm}{n':Nat}{v cv:Value}(h:iY m n v cv)(ha:aN n m m')(hn:n<=n'):iY m' n' v cv :=
 fun k hk=>h k (ha.trans hk hn)
def nS.ext{m':Nm}{n':Nat}{v cv:X Value}(h:nS m n v cv)(ha:aN n m m')(hn:n<=n'):nS m' n' v cv :=
 fun k hk=>h k (ha.trans hk hn)
def QB(m:Nm)(s:S)(b:Nat):Prop:=∃i c,lk s.h i=some c/\Own c=true/\m.blk i=b
structure bT(m:Nm)(s:S)(w:Nr)(aL:Nm)(bR:S)(w₁:Nr):Prop where
 agree:aN s.nx m aL
 nx:s.nx<=bR.nx
 fits:gD aL bR w₁
 own:∀b,QB aL bR b->QB m s b\/w.heap.size<=b
 same:∀b,b<w.heap.size->¬ QB m s b->w₁.heap[b]? = w.heap[b]?
 size:w.heap.size<=w₁.heap.size
 os:w₁.os=w.os
 tape:w₁.tape=w.tape
 output:w₁.output=w.output
def bT.refl{m:Nm}{s:S}{w:Nr}(h:gD m s w):bT m s w m s w :=
 ⟨aN.refl _ _,zF _,h,fun _ h=>.inl h,fun _ _ _=>rfl,zF _,rfl,rfl,rfl⟩
def bT.trans{m aL DX:Nm}{s bR Nl:S}{w w₁ vX:Nr}(h:bT m s w aL bR w₁)(k:bT aL bR w₁ DX Nl vX):bT m s w DX Nl vX:=by
 refine⟨h.agree.trans k.agree h.nx,Nat.le_trans h.nx k.nx,k.fits,fun b hb=>?_,fun b hb hn=>?_,Nat.le_trans h.size k.size,k.os.trans h.os,k.tape.trans h.tape,k.output.trans h.output⟩;rcases k.own b hb with h1 |h1;exact h.own b h1;exact .inr (Nat.le_trans h.size h1);have h1:¬ QB aL bR b:=fun ho=>by rcases h.own b ho with h2 |h2;exact hn h2;omega
 rw[k.same b (Nat.lt_of_lt_of_le hb h.size) h1,h.same b hb hn]
def bT.below{aL:Nm}{bR:S}{w₁:Nr}(h:bT m s w aL bR w₁)(hs:∀b,¬ QB m s b):RowKit.Below w.heap.size w w₁ :=
 ⟨h.os,h.tape,h.output,h.size,fun k hk=>h.same k hk (hs k)⟩
def Fits.size{m:Nm}{s:S}{w:Nr}(h:Fits m s w){i:Nat}{b:mI}(hb:lk s.h i=some b):m.blk i<w.heap.size:=by have:=h.ok i b hb;rcases Nat.lt_or_ge (m.blk i) w.heap.size with hl |hg;exact hl;exfalso;rcases b with⟨l,e,md⟩|⟨es,clock⟩;rcases md with _ |_ |n;simp[v8,yH,Array.getElem?_eq_none hg]at this;simp[v8,yH,Array.getElem?_eq_none hg]at this;simp[v8,yH,Array.getElem?_eq_none hg]at this;simp[v8,Array.getElem?_eq_none hg]at this
def h?(n:Nat)(h:gD m s w):gD m s { w with drawn:=n }:=fun m' ha=>by
 obtain⟨h1,h2,h3⟩:=h m' ha;refine⟨fun i b hb=>?_,h2,h3⟩;have:=h1 i b hb;rcases b with⟨l,e,md⟩|⟨es,clock⟩;rcases md with _ |_ |n<;>exact this;exact this
def bT.draw(n:Nat)(h:gD m s w):bT m s w m s { w with drawn:=n }:=
 ⟨aN.refl _ _,zF _,h? n h,fun _ h=>.inl h,fun _ _ _=>rfl,zF _,rfl,rfl,rfl⟩
def Nm.set(m:Nm)(i b sh cp:Nat):Nm :=
 { blk:=fun j=>if j=i then b else m.blk j,sh:=fun j=>if j=i then sh else m.sh j,cp:=fun j=>if j=i then cp else m.cp j }
def Nm.agree_set(m:Nm)(i b sh cp:Nat):aN i m (m.set i b sh cp):=fun j hj=>by
 simp[Nm.set,show j≠i by omega]
def v8.world{i:Nat}{w':Nr}{b:mI}(h:v8 m i w b)(hw:w'.heap[m.blk i]? = w.heap[m.blk i]?):v8 m i w' b:=by rcases b with⟨l,e,md⟩|⟨es,clock⟩;rcases md with _ |_ |n<;>(simp only[v8,yH]at*;rw[hw];exact h);simp only[v8]at*;rw[hw];exact h
def bT.alloc{m:Nm}{s:S}{w:Nr}(h:gD m s w)(o:Obj)(b:mI)(cp:Nat)
  (hb:∀m',aN (s.nx+1) (m.set s.nx w.heap.size 0 cp) m'->v8 m' s.nx (w.alloc o) b):
  bT m s w (m.set s.nx w.heap.size 0 cp) ⟨(s.nx,b)::s.h,s.nx+1⟩ (w.alloc o):=by
 have oR:∀k,k<w.heap.size->(w.alloc o).heap[k]? = w.heap[k]?:=fun k hk=>RowKit.Below.heap_alloc w o k hk;refine⟨Nm.agree_set m _ _ _ _,Nat.le_succ _,?_,?_,fun b hb _=>oR b hb,by simp,rfl,rfl,rfl⟩;intro m' ha;have mG:aN s.nx m m':=(Nm.agree_set m s.nx w.heap.size 0 cp).trans ha (Nat.le_succ _);have hf:=h m' mG;have gH:m'.blk s.nx=w.heap.size:=by have:=(ha s.nx (zN _)).1;simpa[Nm.set]using this
 refine⟨fun i c hc=>?_,fun i j c d hc hd nZ ho=>?_,fun i c hc=>?_⟩;simp only[mL]at hc;by_cases e:s.nx=i;subst e;simp only[if_true,zA]at hc;subst hc;exact hb m' ha;simp only[e,if_false]at hc;exact(hf.ok i c hc).world (oR _ (hf.size hc));simp only[mL]at hc hd;by_cases e:s.nx=i;subst e;have hj:s.nx≠j:=nZ;simp only[hj,if_false]at hd;have:=hf.size hd;omega;simp only[e,if_false]at hc;by_cases e2:s.nx=j;subst e2;have:=hf.size hc;omega;simp only[e2,if_false]at hd;exact hf.inj i j c d hc hd nZ ho;simp only[mL]at hc;by_cases e:s.nx=i;subst e;exact zN _;simp only[e,if_false]at hc;exact Nat.lt_succ_of_lt (hf.bd i c hc);rintro b ⟨i,c,hc,ho,rfl⟩;simp only[mL]at hc;by_cases e:s.nx=i;subst e;right;simp[Nm.set];simp only[e,if_false]at hc;left;refine⟨i,c,hc,ho,?_⟩;have:=h.fits.bd i c hc;simp[Nm.set,show i≠s.nx by omega]
def bT.write{w':Nr}(h:gD m s w){i:Nat}{b c:mI}(hb:lk s.h i=some b)(BD:Own b=true)
  (hw:∀k,k≠m.blk i->w'.heap[k]? = w.heap[k]?) (eY:w'.heap.size=w.heap.size) (h1:w'.os=w.os) (h2:w'.tape=w.tape) (h3:w'.output=w.output) (_h4:w.drawn<=w'.drawn) (hc:∀m',aN s.nx m m'->v8 m' i w' c):
  bT m s w m ⟨up s.h i c,s.nx⟩ w':=by
 refine⟨aN.refl _ _,zF _,?_,?_,?_,by omega,h1,h2,h3⟩;intro m' ha;have hf:=h m' ha;have xJ:m'.blk i=m.blk i:=(ha i (hf.bd i b hb)).1;refine⟨fun j d hd=>?_,fun j k d e hd he ED ho=>?_,fun j d hd=>?_⟩;simp only[DH]at hd;by_cases e:i=j;subst e;simp only[if_true,hb,zM,zA]at hd;subst hd;exact hc m' ha;simp only[e,if_false]at hd;refine(hf.ok j d hd).world (hw _ ?_);rw[<-xJ];exact fun x=>hf.inj i j b d hb hd e BD x.symm;have key:∀j d,lk (up s.h i c) j=some d->∃d',lk s.h j=some d'/\(Own d=true->Own d'=true):=fun j d hd=>by simp only[DH]at hd;by_cases e:i=j;subst e;exact⟨b,hb,fun _=>BD⟩;simp only[e,if_false]at hd;exact⟨d,hd,id⟩
 obtain⟨d',bH,od⟩:=key j d hd;obtain⟨e',zE,_⟩:=key k e he;exact hf.inj j k d' e' bH zE ED (od ho);simp only[DH]at hd;by_cases e:i=j;subst e;exact hf.bd i b hb;simp only[e,if_false]at hd;exact hf.bd j d hd;rintro k ⟨j,d,hd,ho,rfl⟩;left;simp only[DH]at hd;by_cases e:i=j;subst e;exact⟨i,b,hb,BD,rfl⟩;simp only[e,if_false]at hd;exact⟨j,d,hd,ho,rfl⟩;intro k hk hn;exact hw k fun e=>hn ⟨i,b,hb,BD,e.symm⟩
def bT.forget(h:gD m s w)(i:Nat):bT m s w m ⟨rm s.h i,s.nx⟩ w:=by
 have key:∀j d,lk (rm s.h i) j=some d->lk s.h j=some d:=fun j d hd=>by simp only[Gd]at hd;by_cases e:i=j;simp[e]at hd;simpa[e]using hd
 refine⟨aN.refl _ _,zF _,fun m' ha=>?_,?_,fun _ _ _=>rfl,zF _,rfl,rfl,rfl⟩;have hf:=h m' ha;exact⟨fun j d hd=>hf.ok j d (key j d hd),fun j k d e hd he=>hf.inj j k d e (key j d hd) (key k e he),fun j d hd=>hf.bd j d (key j d hd)⟩;rintro k ⟨j,d,hd,ho,rfl⟩;exact .inl ⟨j,d,key j d hd,ho,rfl⟩
structure Tb where
 und:TypeId->V TypeDesc
 inf:TypeId->V (Nat×Nat×Value)
 fn:FuncId->V Func
 eqs:TypeId->PE
mutual
def plain:Value->PE
 |.bool _=>true|.int _ _=>true
 |.string _=>true|.pointer none=>true
 |.slice none _ _=>true|.map none=>true
 |.nilFunc=>true|.nilIface=>true
 |.agg ⟨l⟩=>RC l|.tuple ⟨l⟩=>RC l
 |_=>false
def RC:X Value->PE
 |[]=>true|v::l=>cond (plain v) (RC l) false
end
def nth{v12:Type}:X v12->Nat->V v12
 |[],_=>none|a::_,0=>some a
 |_::l,n+1=>nth l n
def GT:X Value->Nat->V (X Value)
 |_,0=>some []|[],_+1=>none
 |v::l,n+1=>match GT l n with
  |some r=>some (v::r)|none=>none
def uV(l:X Value)(off n:Nat):V (X Value):=GT (l.drop off) n
def EZ:X Value->X Value->V (X Value)
 |l,[]=>some l|[],_::_=>none
 |_::l,v::vs=>match EZ l vs with
  |some r=>some (v::r)|none=>none
def y9:X Value->Nat->X Value->V (X Value)
 |l,0,vs=>EZ l vs|[],_+1,_=>none
 |x::l,n+1,vs=>match y9 l n vs with
  |some r=>some (x::r)|none=>none
def evalO(tm:X Value):Xt->V Value
 |.tmp t=>nth tm t|.const v=>cond (plain v) (some v) none
 |.func f=>some (.func (.func f) #[] #[])|.global _=>none
def oN(tm:X Value):X Xt->V (X Value)
 |[]=>some []|x::l=>match evalO tm x with
  |some v=>match oN tm l with
   |some r=>some (v::r)|none=>none
  |none=>none
def GY(tm:X Value):X (Nat×Xt)->V (X (Nat×Value))
 |[]=>some []|(i,x)::l=>match evalO tm x with
  |some v=>match GY tm l with
   |some r=>some ((i,v)::r)|none=>none
  |none=>none
def v7(tm:X Value):V Xt->V (V Value)
 |none=>some none|some x=>match evalO tm x with
  |some v=>some (some v)|none=>none
def qE:TypeDesc->PE
 |.struct _=>true|.array _ _=>true
 |_=>false
def cD(T:Tb)(t:TypeId):V Nat:=match T.inf t with
 |some (n,_,_)=>some n|none=>none
def MZ(T:Tb)(t:TypeId)(cs:X Value)(off:Nat):V Value :=
 match T.und t with
 |none=>none|some d=>cond (qE d) (match cD T t with
   |some n=>some (.agg ((cs.drop off).take n).toArray)|none=>none) (nth cs off)
def lO:X Yv->X Yv->PE
 |[],[]=>true|a::x,b::y=>cond (Nat.beq a.toNat b.toNat) (lO x y) false
 |_,_=>false
def kD:X Yv->X Yv->PE
 |_,[]=>false|[],_::_=>true
 |a::x,b::y=>cond (Nat.blt a.toNat b.toNat) true (cond (Nat.beq a.toNat b.toNat) (kD x y) false)
def Dx(T:Tb)(E:TypeId->Value->Value->V PE)(xs ys:X Value):X Field->V PE
 |[]=>some true|f::fs=>
  if f.name ≠ "_" then
   match MZ T f.type xs f.offset with
   |none=>none|some a=>match MZ T f.type ys f.offset with
    |none=>none|some b=>match E f.type a b with
     |none=>none|some false=>some false
     |some true=>Dx T E xs ys fs
  else Dx T E xs ys fs
def eqv(T:Tb):Nat->TypeId->Value->Value->V PE
 |0,_,_,_=>none|d+1,t,x,y=>
  match T.und t with
  |some .bool=>match x,y with
   |.bool a,.bool b=>some (a==b)|_,_=>none
  |some (.int _)=>match x,y with
   |.int k a,.int k' b=>if k=k' then some (a==b)else none|_,_=>none
  |some .string=>match x,y with
   |.string a,.string b=>some (lO a.data.toList b.data.toList)|_,_=>none
  |some (.pointer _)=>match x,y with
   |.pointer none,.pointer none=>some true|.pointer none,.pointer (some _)=>some false
   |.pointer (some _),.pointer none=>some false|_,_=>none
  |some (.slice _)=>match x,y with
   |.slice none _ _,.slice none _ _=>some true|.slice none _ _,.slice (some _) _ _=>some false
   |.slice (some _) _ _,.slice none _ _=>some false|.chan (some _),.slice none _ _=>some false
   |_,_=>none
  |some (.map _ _)=>match x,y with
   |.map none,.map none=>some true|.map none,.map (some _)=>some false
   |.map (some _),.map none=>some false|_,_=>none
  |some (.struct fs)=>match x,y with
   |.agg xs,.agg ys=>cond (T.eqs t) (Dx T (eqv T d) xs.toList ys.toList fs.toList) none|_,_=>none
  |_=>none
def kB(op:BinOp)(k:IntKind)(a:Int)(k':IntKind)(b:Int):V Value :=
 match op with
 |.shl=>if b<0 then none else some (.int k (k.wrap (a*2^(min b.toNat k.bits))))|.shr=>if b<0 then none else some (.int k (a.fdiv (2^(min b.toNat k.bits))))
 |_=>
  if k≠k' then none else
  match op with
  |.add=>some (.int k (k.wrap (a+b)))|.sub=>some (.int k (k.wrap (a-b)))
  |.mul=>some (.int k (k.wrap (a*b)))|.quo=>if b=0 then none else some (.int k (k.wrap (a.tdiv b)))
  |.rem=>if b=0 then none else some (.int k (a.tmod b))|.and=>some (.int k (k.wrap (BitVec.ofInt k.bits a&&&BitVec.ofInt k.bits b).toNat))
  |.or=>some (.int k (k.wrap (BitVec.ofInt k.bits a|||BitVec.ofInt k.bits b).toNat))|.xor=>some (.int k (k.wrap (BitVec.ofInt k.bits a^^^BitVec.ofInt k.bits b).toNat))
  |.andNot=>some (.int k (k.wrap (BitVec.ofInt k.bits a &&& ~~~ BitVec.ofInt k.bits b).toNat))|.eql=>some (.bool (a==b))
  |.neq=>some (.bool (a != b))|.lss=>some (.bool (decide (a<b)))
  |.leq=>some (.bool (decide (a<=b)))|.gtr=>some (.bool (decide (a>b)))
  |.geq=>some (.bool (decide (a>=b)))|_=>none
def GJ(op:BinOp)(x y:ByteArray):V Value :=
 let a:=x.data.toList
 let b:=y.data.toList
 match op with
 |.add=>if((a.length+b.length:Nat):Int)>9223372036854775807 then none else some (.string ⟨(a++b).toArray⟩)|.eql=>some (.bool (lO a b))
 |.neq=>some (.bool (!lO a b))|.lss=>some (.bool (kD a b))
 |.leq=>some (.bool (kD a b||lO a b))|.gtr=>some (.bool (!(kD a b||lO a b)))
 |.geq=>some (.bool (!kD a b))|_=>none
def FJ{v12 β:Type}:V v12->V β->V PE
 |none,none=>some true|some _,some _=>none
 |_,_=>some false
def M3(T:Tb)(t:TypeId)(x y:Value):V PE:=match T.und t,x,y with
 |some .bool,.bool a,.bool b=>some (a==b)|some (.pointer _),.pointer a,.pointer b=>FJ a b
 |some (.map _ _),.map a,.map b=>FJ a b|some (.slice _),.slice a _ _,.slice b _ _=>FJ a b
 |some (.slice _),.chan (some _),.slice none _ _=>some false|_,_,_=>none
def sF(T:Tb)(op:BinOp)(t:TypeId)(x y:Value):V Value :=
 match x,y with
 |.int k a,.int k' b=>kB op k a k' b|.string a,.string b=>GJ op a b
 |x,y=>match M3 T t x y with
  |some b=>(match op with
   |.eql=>some (.bool b)|.neq=>some (.bool (!b))
   |_=>none)
  |none=>none
def QL:UnOp->Value->V Value
 |.neg,.int k n=>some (.int k (k.wrap (0-n)))|.not,.bool b=>some (.bool (!b))
 |.xor,.int k n=>some (.int k (k.wrap (BitVec.ofInt k.bits (if k.signed then -1 else k.max)^^^BitVec.ofInt k.bits n).toNat))|_,_=>none
def XX(T:Tb)(src dst:TypeId)(x:Value):V Value :=
 match T.und src,T.und dst,x with
 |some _,some (.int k),.int _ n=>some (.int k (k.wrap n))|some _,some .string,.string s=>some (.string s)
 |_,_,_=>none
def DI(place:Nat->V (Nat×Nat))(cells:X Value):X (Nat×Value)->V (X Value)
 |[]=>some cells|(i,v)::rest=>match place i with
  |none=>none|some (off,size)=>cond (Nat.beq v.cells.toList.length size) (match y9 cells off v.cells.toList with
   |some c=>DI place c rest|none=>none) none
def KZ(T:Tb)(fs:X Field)(i:Nat):V (Nat×Nat):=
 match nth fs i with
 |none=>none|some f=>match cD T f.type with
  |none=>none|some n=>some (f.offset,n)
def H4(T:Tb):X Field->PE
 |[]=>true|f::fs=>match cD T f.type with
  |some _=>H4 T fs|none=>false
def Ok(T:Tb)(t:TypeId)(ps:X (Nat×Value)):V Value :=
 match T.inf t with
 |none=>none|some (_,_,z)=>match T.und t with
  |some (.struct fs)=>cond (H4 T fs.toList) (match DI (KZ T fs.toList) z.cells.toList ps with
   |some cs=>some (.agg cs.toArray)|none=>none) none
  |some (.array _ e)=>match cD T e with
   |none=>none|some n=>match DI (fun i=>some (i*n,n)) z.cells.toList ps with
    |some cs=>some (.agg cs.toArray)|none=>none
  |_=>none
def Pk(T:Tb)(st:TypeId)(x:Value)(f:Nat):V Value :=
 match T.und st with
 |some (.struct fs)=>match nth fs.toList f with
  |some fd=>match x with
   |.pointer (some a)=>match cD T fd.type with
    |some (_+1)=>some (.pointer (some ⟨a.block,a.off+fd.offset,none⟩))|_=>none
   |_=>none
  |none=>none
 |_=>none
def Og(T:Tb)(st:TypeId)(x:Value)(f:Nat):V Value :=
 match T.und st with
 |some (.struct fs)=>match nth fs.toList f with
  |some fd=>match x with
   |.agg cs=>MZ T fd.type cs.toList fd.offset|_=>none
  |none=>none
 |_=>none
def sL(i:Int)(n:Nat):PE:=match i with
 |.ofNat k=>Nat.blt k n|.negSucc _=>false
def Pg(T:Tb)(t:TypeId)(x ix:Value):V Value :=
 match ix with
 |.int _ i=>match T.und t,x with
  |some (.array n e),.pointer (some a)=>cond (sL i n) (match cD T e with
   |some sz=>some (.pointer (some ⟨a.block,a.off+i.toNat*sz,none⟩))|none=>none) none
  |some (.slice e),.slice (some a) n _=>cond (sL i n) (match cD T e with
   |some sz=>some (.pointer (some ⟨a.block,a.off+i.toNat*sz,none⟩))|none=>none) none
  |_,_=>none
 |_=>none
def Y4(T:Tb)(t:TypeId)(x ix:Value):V Value :=
 match ix with
 |.int _ i=>match T.und t,x with
  |some (.array n e),.agg cs=>cond (sL i n) (match cD T e with
   |some sz=>MZ T e cs.toList (i.toNat*sz)|none=>none) none
  |some .string,.string s=>cond (sL i s.data.toList.length) (match nth s.data.toList i.toNat with
   |some b=>some (.int .u8 b.toNat)|none=>none) none
  |_,_=>none
 |_=>none
def Hr(x:Value)(i:Nat):V Value:=match x with
 |.tuple vs=>nth vs.toList i|_=>none
def HK(T:Tb)(t:TypeId)(x:Value):V Value :=
 match T.und t,x with
 |some .string,.string s=>some (.int .i64 s.data.toList.length)|some (.slice _),.slice _ n _=>some (.int .i64 n)
 |some (.slice _),.chan (some _)=>some (.int .i64 0)|some (.array n _),_=>some (.int .i64 n)
 |_,_=>none
def capX(T:Tb)(t:TypeId)(x:Value):V Value :=
 match T.und t,x with
 |some (.slice _),.slice none _ c=>some (.int .i64 c)|some (.slice _),.slice (some _) _ c=>cond (Nat.blt c cV) (some (.int .i64 c)) none
 |some (.slice _),.chan (some _)=>some (.int .i64 0)|_,_=>none
def R8:Value->Value->V Value
 |.int k x,.int _ y=>some (.int k (if y>x then y else x))|_,_=>none
def R7:Value->Value->V Value
 |.int k x,.int _ y=>some (.int k (if y<x then y else x))|_,_=>none
def wC(f:Value->Value->V Value):Value->X Value->V Value
 |x,[]=>some x|x,y::l=>match f x y with
  |some z=>wC f z l|none=>none
def wE(v:Value)(y:Nat):V Nat:=match v with
 |.int _ i=>cond (sL i (y+1)) (some i.toNat) none|_=>none
def mV(len cap:Nat)(lo hi:V Value):V (Nat×Nat×Nat):=
 match (match hi with |some v=>wE v cap |none=>some len)with
 |none=>none|some h=>match (match lo with |some v=>wE v h |none=>some 0)with
  |none=>none|some l=>some (l,h,cap)
def emptyS(T:Tb)(e:TypeId)(a:V Addr)(n c:Nat)(lo hi:V Value):V Value:=match a with
 |none=>none|some a=>match n with
  |_+1=>none|0=>match mV 0 0 lo hi with
   |some (0,0,0)=>(match cD T e with
    |some _=>some (.slice (some a) 0 c)|none=>none)
   |_=>none
def tN(T:Tb)(t:TypeId)(x:Value)(lo hi:V Value):V Value :=
 match T.und t,x with
 |some (.slice e),.slice a n c=>cond (Nat.blt c cV) (match mV n c lo hi with
   |some (l,h,m)=>match cD T e with
    |some sz=>some (.slice (cond (Nat.beq m l) a (match a with
      |some a=>some ⟨a.block,a.off+l*sz,none⟩|none=>none)) (h-l) (m-l))
    |none=>none
   |none=>none) (emptyS T e a n c lo hi)
 |some (.slice e),.chan (some r)=>match mV 0 0 lo hi with
   |some _=>(match cD T e with
    |some _=>some (.chan (some r))|none=>none)
   |none=>none
 |_,_=>none
def jN(T:Tb)(tm:X Value)(op:Op):V Value :=
 match op with
 |.move x=>evalO tm x|.assign x=>evalO tm x
 |.pick c a b=>match evalO tm c with
  |some (.bool true)=>evalO tm a|some (.bool false)=>evalO tm b
  |_=>none
 |.build t ps=>match GY tm ps.toList with
  |some qs=>Ok T t qs|none=>none
 |.nilCheck x=>match evalO tm x with
  |some (.pointer (some a))=>some (.pointer (some a))|some (.func (.func f) a b)=>some (.func (.func f) a b)
  |_=>none
 |.binOp op t x y _=>match evalO tm x,evalO tm y with
  |some a,some b=>sF T op t a b|_,_=>none
 |.unOp op _ x=>match evalO tm x with
  |some a=>QL op a|none=>none
 |.convert s d x=>match evalO tm x with
  |some a=>XX T s d a|none=>none
 |.makeFunc fn first cap=>match oN tm first.toList,oN tm cap.toList with
  |some a,some b=>some (.func fn a.toArray b.toArray)|_,_=>none
 |.slice t x lo hi none=>match evalO tm x,v7 tm lo,v7 tm hi with
  |some a,some l,some h=>tN T t a l h|_,_,_=>none
 |.fieldAddr t x f=>match evalO tm x with
  |some a=>Pk T t a f|none=>none
 |.field t x f=>match evalO tm x with
  |some a=>Og T t a f|none=>none
 |.indexAddr t x i=>match evalO tm x,evalO tm i with
  |some a,some b=>Pg T t a b|_,_=>none
 |.index t x i=>match evalO tm x,evalO tm i with
  |some a,some b=>Y4 T t a b|_,_=>none
 |.extract x i=>match evalO tm x with
  |some a=>Hr a i|none=>none
 |.call c=>match c.callee with
  |.builtin .len=>match oN tm c.args.toList,c.argTypes.toList with
   |some [x],t::_=>HK T t x|_,_=>none
  |.builtin .max=>match oN tm c.args.toList with
   |some (x::l)=>wC R8 x l|_=>none
  |.builtin .min=>match oN tm c.args.toList with
   |some (x::l)=>wC R7 x l|_=>none
  |_=>none
 |_=>none
def tu(T:Tb)(K:TypeId->Value->PE)(cs:X Value):X Field->PE
 |[]=>true|f::fs=>
  if f.name ≠ "_" then
   match MZ T f.type cs f.offset with
   |none=>false|some v=>cond (K f.type v) (tu T K cs fs) false
  else tu T K cs fs
def Tw(T:Tb):Nat->TypeId->Value->PE
 |0,_,_=>false|d+1,t,v=>match T.und t with
  |some (.int _)=>true|some .string=>true
  |some .bool=>true|some (.struct fs)=>match v with
   |.agg cs=>tu T (Tw T d) cs.toList fs.toList|_=>false
  |_=>false
def Ly(E:Value->Value->PE):X Value->X Value->PE
 |[],[]=>true|a::x,b::y=>cond (E a b) (Ly E x y) false
 |_,_=>false
def veq:Nat->Value->Value->PE
 |0,_,_=>false|d+1,x,y=>match x,y with
  |.int k a,.int k' b=>cond (decide (k=k')) (decide (a=b)) false|.bool a,.bool b=>a==b
  |.string a,.string b=>lO a.data.toList b.data.toList|.agg a,.agg b=>Ly (veq d) a.toList b.toList
  |_,_=>false
def eR(s:S)(i:Nat):V Row:=match lk s.h i with
 |some (.inl (_,_,1))=>none|some (.inl (l,e,0))=>some (l,e,0)
 |some (.inl (l,e,n+2))=>some (l,e,n+2)|_=>none
def KT(s:S)(i sz:Nat):V (X Value):=match lk s.h i with
 |some (.inl (l,e,1))=>cond (Nat.beq e (sz+1)) (some l) none|some (.inl (l,_,n+2))=>cond (Nat.beq n sz) (some l) none
 |_=>none
def Y0(T:Tb)(s:S)(t:TypeId)(x:Value)(lo hi:V Value):V (Nat×Nat×Addr×Nat×Nat):=
 match T.und t,x with
 |some (.slice e),.slice (some a) n c=>cond (Nat.blt c cV) none (match cD T e with
  |none=>none|some sz=>match KT s a.block sz with
   |some l=>cond (Nat.beq a.off (cT c*sz)) (cond (Nat.blt 0 sz)
    (match mV n ((l.length-a.off)/sz) lo hi with
     |none=>none|some (l1,h,_)=>cond (Nat.ble (a.off+h*sz) l.length) (some (l1,h,a,c,sz)) none) none) none
   |none=>none)
 |_,_=>none
def KR(T:Tb)(s:S)(t:TypeId)(x:Value)(lo hi:V Value):V Value:=match Y0 T s t x lo hi with
 |some (0,h,a,c,_)=>some (.slice (some ⟨a.block,a.off,none⟩) h c)|some (l1+1,h,a,c,sz)=>cond (Nat.blt (l1+1) h) (some (.slice (some ⟨a.block,a.off+(l1+1)*sz,none⟩) (h-(l1+1)) (c+(l1+1)))) none
 |none=>none
def v6(T:Tb)(tm:X Value)(s:S)(op:Op):V Value :=
 match op with
 |.load t x=>match evalO tm x with
  |some (.pointer (some a))=>match lk s.h a.block with
   |some (.inl (l,_,_))=>match T.und t with
    |none=>none|some d=>cond (qE d) (match cD T t with
      |some n=>match uV l a.off n with
       |some cs=>some (.agg cs.toArray)|none=>none
      |none=>none) (nth l a.off)
   |_=>none
  |_=>none
 |.slice t x lo hi none=>match evalO tm x,v7 tm lo,v7 tm hi with
  |some a,some l,some h=>KR T s t a l h|_,_,_=>none
 |_=>none
def newRow(s:S)(l:X Value)(e:TypeId)(md:Nat):S:=⟨(s.nx,.inl (l,e,md))::s.h,s.nx+1⟩
def dD(z:X Value):Nat->X Value
 |0=>[]|n+1=>z++dD z n
def vD:X Value->PE
 |[]=>true|v::l=>cond v.oneCell' (vD l) false
def vB(s:S)(b:V Addr)(n:Nat):V (X Value):=match n with
 |0=>some []|n+1=>match b with
  |none=>none|some a=>match lk s.h a.block with
   |some (.inl (l,_,_))=>uV l a.off (n+1)|_=>none
def C0(need by_:Nat):PE:=cond (Nat.ble (need*by_) 140737488355328) (Nat.ble need 140737488355328) false
def Gf(s:S)(e:TypeId)(sz by_:Nat)(z:Value)(base:V Addr)(n c k:Nat)(new:X Value):V (Value×S):=
 cond (Nat.blt c cV)
  (match n,c with
   |0,0=>cond (C0 (0+k) by_) (cond (Nat.beq z.cells.toList.length sz)
     (some (.slice (some ⟨s.nx,0,none⟩) (0+k) cV,newRow s new e (sz+2))) none) none
   |_,_=>none)
  (match base with
   |none=>none|some a=>match eR s a.block with
    |some (l,e',md)=>cond (Nat.beq md (sz+2)) (cond (Nat.beq e' e) (cond (Nat.beq a.off (cT c*sz)) (cond (C0 (n+k) by_) (cond (Nat.beq z.cells.toList.length sz)
      (match uV l a.off (n*sz)with
       |some p=>some (.slice (some ⟨s.nx,0,none⟩) (n+k) cV,⟨(s.nx,.inl (p++new,e,sz+2))::rm s.h a.block,s.nx+1⟩)|none=>none) none) none) none) none) none
    |none=>none)
def yO(T:Tb)(s:S)(t xt:TypeId)(sv x:Value):V (Value×S):=
 match T.und t,T.und xt,sv,x with
 |some (.slice e),some (.slice _),.slice base n c,.slice xb k _=>match T.inf e with
  |some (sz+1,by_,z)=>match vB s xb (k*(sz+1))with
   |none=>none|some new=>cond (vD new)
    (match k with
     |0=>cond (Nat.blt c cV) (cond (Nat.ble n c) (some (.slice base n c,s)) none)
      (match base with
       |some a=>match eR s a.block with
        |some (l,_,md)=>cond (Nat.beq md (sz+3)) (cond (Nat.beq a.off (cT c*(sz+1))) (match uV l a.off (n*(sz+1))with
         |some _=>some (.slice base n c,s)|none=>none) none) none
        |none=>none
       |none=>none)
     |k+1=>Gf s e (sz+1) by_ z base n c (k+1) new) none
  |_=>none
 |_,_,_,_=>none
def C9:Value->PE
 |.chan (some _)=>true|_=>false
def AK(x:Value):Value:=cond (C9 x) (.slice none 0 0) x
def wJ(T:Tb)(s:S)(t xt:TypeId)(sv x:Value):V (Value×S):=
 cond (C9 sv) (match yO T s t xt (.slice none 0 0) (AK x)with
  |some (.slice none _ _,_)=>some (sv,s)|some (.slice (some a) n c,s')=>some (.slice (some a) n c,s')
  |_=>none) (yO T s t xt sv (AK x))
def cm(T:Tb)(s:S)(t xt:TypeId)(sv x:Value):V (Value×S):=
 match T.und t,T.und xt,sv,x with
 |some (.slice e),some (.int _),.slice none 0 0,.int _ i=>match T.inf e with
  |some (sz+1,by_,z)=>match IntKind.i64.wrap i with
   |.ofNat (k+1)=>cond (C0 (k+1) by_) (cond (Nat.beq z.cells.toList.length (sz+1)) (cond (vD (dD z.cells.toList (k+1)))
     (some (.slice (some ⟨s.nx,0,none⟩) (k+1) cV,newRow s (dD z.cells.toList (k+1)) e (sz+1+2))) none) none) none
   |_=>none
  |_=>none
 |_,_,_,_=>none
def Oz(T:Tb)(s:S)(t xt:TypeId)(sv x:Value):V (Value×S):=match wJ T s t xt sv x with
 |some r=>some r|none=>none
def Gj(T:Tb)(s:S)(t:TypeId)(p v:Value):V (Value×S):=
 match p with
 |.pointer (some a)=>match cD T t with
  |none=>none|some n=>cond (Nat.beq v.cells.toList.length n) (cond (vD v.cells.toList) (match eR s a.block with
   |some (l,e,md)=>match y9 l a.off v.cells.toList with
    |some l'=>some (undef,⟨up s.h a.block (.inl (l',e,md)),s.nx⟩)|none=>none
   |none=>none) none) none
 |_=>none
def Lq(T:Tb)(s:S)(t:TypeId)(l c:Value):V (Value×S):=
 match T.und t,l,c with
 |some (.slice e),.int _ a,.int _ b=>match T.inf e with
  |some (sz,by_,z)=>match IntKind.i64.wrap a,IntKind.i64.wrap b with
   |.ofNat n,.ofNat k=>cond (Nat.ble n k) (cond (Nat.ble (by_*k) 281474976710656) (cond (Nat.beq z.cells.toList.length sz)
     (cond (Nat.blt k cV) (some (.slice (some ⟨s.nx,0,none⟩) n k,newRow s (dD z.cells.toList k) e 0)) none) none) none) none
   |_,_=>none
  |none=>none
 |_,_,_=>none
def Po(T:Tb)(s:S)(t:TypeId)(n:Nat)(ps:X (Nat×Value)):V (Value×S):=
 match T.und t with
 |some (.slice e)=>match T.inf e with
  |some (sz,_,z)=>cond (Nat.ble (n*sz) 16777216) (cond (Nat.beq z.cells.toList.length sz) (match DI (fun i=>some (i*sz,sz)) (dD z.cells.toList n) ps with
   |some cs=>cond (Nat.blt n cV) (some (.slice (some ⟨s.nx,0,none⟩) n n,newRow s cs e 0)) none|none=>none) none) none
  |none=>none
 |_=>none
def Gk(T:Tb)(s:S)(t:TypeId)(x:Value)(lo hi:V Value):V (Value×S):=match Y0 T s t x lo hi with
 |some (l1+1,h,_)=>cond (Nat.blt (l1+1) h) none (some (.slice (some ⟨s.nx,0,none⟩) 0 cV,⟨s.h,s.nx+1⟩))|_=>none
def Gm(s:S)(r:Nat):V (X MapEntry×Nat):=match lk s.h r with
 |some (.inr x)=>some x|_=>none
def aj(s:S)(r:Nat)(es:X MapEntry)(cl:Nat):S:=⟨up s.h r (.inr (es,cl)),s.nx⟩
def AE(T:Tb)(tm:X Value)(s:S)(op:Op):V (Value×S):=
 match op with
 |.alloc e=>match T.inf e with
  |some (_,_,z)=>some (.pointer (some ⟨s.nx,0,none⟩),newRow s z.cells.toList e 0)|none=>none
 |.box e x=>match evalO tm x with
  |some v=>some (.pointer (some ⟨s.nx,0,none⟩),newRow s v.cells.toList e 0)|none=>none
 |.store t a x=>match evalO tm a,evalO tm x with
  |some p,some v=>Gj T s t p v|_,_=>none
 |.buildSlice t n ps=>match GY tm ps.toList with
  |some qs=>Po T s t n qs|none=>none
 |.makeSlice t l c=>match evalO tm l,evalO tm c with
  |some a,some b=>Lq T s t a b|_,_=>none
 |.makeMap _ none=>some (.map (some s.nx),⟨(s.nx,.inr ([],0))::s.h,s.nx+1⟩)|.slice t x lo hi none=>match evalO tm x,v7 tm lo,v7 tm hi with
  |some a,some l,some h=>Gk T s t a l h|_,_,_=>none
 |.call c=>match c.callee with
  |.builtin .append=>match oN tm c.args.toList,c.argTypes.toList with
   |some [a,b],[t,xt]=>Oz T s t xt a b|_,_=>none
  |_=>none
 |_=>none
def callOf(T:Tb)(tm:X Value)(op:Op):V (FuncId×X Value):=
 match op with
 |.call c=>match c.callee with
  |.value f=>match evalO tm f with
   |some (.func (.func g) first cap)=>match T.fn g with
    |some fn=>cond fn.body.isSome (match oN tm c.args.toList with
     |some args=>some (g,first.toList++args++cap.toList)|none=>none) none
    |none=>none
   |_=>none
  |_=>none
 |_=>none
abbrev F9:=FuncId->X Value->S->V (Value×S)
def yR(T:Tb)(call:F9)(tm:X Value)(s:S)(op:Op):V (Value×S):=
 match jN T tm op with
 |some v=>some (v,s)|none=>match v6 T tm s op with
  |some v=>some (v,s)|none=>match AE T tm s op with
   |some r=>some r|none=>match callOf T tm op with
    |some (f,args)=>call f args s|none=>none
def AM(aA:X Oper)(j:Nat):V Tmp:=match nth aA j with
 |some o=>o.dst|none=>none
def On(aA:X Oper)(tm:X Value)(o:Oper):PE :=
 match o.guard with
 |none=>true|some (j,want)=>match AM aA j with
  |none=>false|some d=>match nth tm d with
   |some (.bool b)=>b==want|_=>false
def BX(tm:X Value)(d:V Tmp)(v:Value):X Value:=match d with
 |none=>tm|some d=>tm.set d v
def v16(a b:Addr):PE:=match a.spot,b.spot with
 |none,none=>cond (Nat.beq a.block b.block) (Nat.beq a.off b.off) false|_,_=>false
def SV:V Addr->V Addr->PE
 |none,none=>true|some a,some b=>v16 a b
 |_,_=>false
def v17:V Nat->V Nat->PE
 |none,none=>true|some a,some b=>Nat.beq a b
 |_,_=>false
def v18:Fn->Fn->PE
 |.func f,.func g=>Nat.beq f g|_,_=>false
mutual
def QJ:Value->Value->PE
 |.bool a,y=>match y with
  |.bool b=>a==b|_=>false
 |.int k a,y=>match y with
  |.int k' b=>cond (decide (k=k')) (decide (a=b)) false|_=>false
 |.string a,y=>match y with
  |.string b=>lO a.data.toList b.data.toList|_=>false
 |.pointer p,y=>match y with
  |.pointer q=>SV p q|_=>false
 |.slice p n c,y=>match y with
  |.slice q n' c'=>cond (SV p q) (cond (Nat.beq n n') (Nat.beq c c') false) false|_=>false
 |.map p,y=>match y with
  |.map q=>v17 p q|_=>false
 |.nilFunc,y=>match y with
  |.nilFunc=>true|_=>false
 |.nilIface,y=>match y with
  |.nilIface=>true|_=>false
 |.func f ⟨a⟩ ⟨b⟩,y=>match y with
  |.func g ⟨c⟩ ⟨d⟩=>cond (v18 f g) (cond (Ob a c) (Ob b d) false) false|_=>false
 |.agg ⟨a⟩,y=>match y with
  |.agg ⟨b⟩=>Ob a b|_=>false
 |.tuple ⟨a⟩,y=>match y with
  |.tuple ⟨b⟩=>Ob a b|_=>false
 |_,_=>false
def Ob:X Value->X Value->PE
 |[],y=>match y with
  |[]=>true|_=>false
 |a::x,y=>match y with
  |b::y=>cond (QJ a b) (Ob x y) false|_=>false
end
abbrev Rec:=X Value×Oper×Value×Nat×S×S
def dy(T:Tb)(call:F9)(aA:X Oper)(tm:X Value)(s:S)(o:Oper):V (Value×Nat×S):=
 cond (On aA tm o)
  (match jN T tm o.op with
   |some v=>some (v,0,s)|none=>match v6 T tm s o.op with
    |some v=>some (v,1,s)|none=>match yR T call tm s o.op with
     |some (v,s')=>some (v,2,s')|none=>none)
  (some (undef,0,s))
def z8l(T:Tb)(call:F9)(aA:X Oper):X Oper->X Value->S->V (X Rec×X Value×S)
 |[],tm,s=>some ([],tm,s)|o::r,tm,s=>match dy T call aA tm s o with
  |none=>none|some (v,k,s')=>match z8l T call aA r (BX tm o.dst v) s' with
   |none=>none|some (l,tm',s'')=>some ((tm,o,v,k,s,s')::l,tm',s'')
def N0(aZ:X Nat):X Edge->Nat
 |[]=>0|e::r=>cond (Region.binds .any e) ((2^e.on|||(match nth aZ e.on with
  |some x=>x|none=>0))|||N0 aZ r) (N0 aZ r)
def dY:X Oper->X Nat->X Nat
 |[],aZ=>aZ|o::r,aZ=>dY r (aZ++[N0 aZ o.after.toList])
def DW(i:Nat):X Edge->PE
 |[]=>true|e::r=>cond (Region.binds .any e) (cond (Nat.blt e.on i) (DW i r) false) (DW i r)
def tmpsOf:X Xt->X Tmp
 |[]=>[]|.tmp t::r=>t::tmpsOf r
 |_::r=>tmpsOf r
def N5(aA:X Oper)(o:Oper):X Tmp:=match o.guard with
 |none=>tmpsOf o.op.operands.toList|some (j,_)=>match AM aA j with
  |none=>tmpsOf o.op.operands.toList|some d=>d::tmpsOf o.op.operands.toList
def O'(lk:X Tmp)(di:V Tmp)(i mi k mk:Nat)(dk:V Tmp):PE:=match dk with
 |none=>true|some d=>cond (Nat.beq i k) true (cond (match di with |none=>false |some d'=>Nat.beq d d') false
   (cond (lk.any (Nat.beq d)) (cond (Nat.testBit mi k) true (Nat.testBit mk i)) true))
def rowOk(lk:X Tmp)(di:V Tmp)(i mi:Nat):X Oper->X Nat->Nat->PE
 |o::r,mk::ms,k=>cond (O' lk di i mi k mk o.dst) (rowOk lk di i mi r ms (k+1)) false|[],_,_=>true
 |_::_,[],_=>false
def Ny(aA:X Oper)(ms:X Nat):X Oper->X Nat->Nat->PE
 |o::r,mi::mr,i=>cond (DW i o.after.toList) (cond (rowOk (N5 aA o) o.dst i mi aA ms 0) (Ny aA ms r mr (i+1)) false) false|[],_,_=>true
 |_::_,[],_=>false
def qwa(T:Tb)(tm:X Value)(op:Op)(v:Value)(s:S):PE:=match v6 T tm s op with
 |some u=>QJ u v|none=>false
def z8h(T:Tb)(tm:X Value)(op:Op)(v:Value)(i mi:Nat):X Rec->X Nat->Nat->PE
 |(_,_,_,kd,s,s')::r,mk::ms,k=>cond (Nat.beq kd 2)
   (cond (Nat.blt k i) (cond (Nat.testBit mi k) true (qwa T tm op v s)) (cond (Nat.testBit mk i) true (qwa T tm op v s')))
   true&&z8h T tm op v i mi r ms (k+1)
 |[],_,_=>true|_::_,[],_=>false
def z6u(i mi:Nat):X Rec->Nat->PE
 |(_,_,_,kd,_,_)::r,k=>cond (Nat.blt k i) (cond (Nat.beq kd 2) (Nat.testBit mi k) true) true&&z6u i mi r (k+1)|[],_=>true
def z8f(T:Tb)(rs:X Rec)(ms:X Nat):X Rec->X Nat->Nat->PE
 |(tm,o,v,kd,_,_)::r,mi::mr,i=>cond (Nat.beq kd 0) true (cond (Nat.beq kd 1) (z8h T tm o.op v i mi rs ms 0) (z6u i mi rs 0))&&z8f T rs ms r mr (i+1)|[],_,_=>true
 |_::_,[],_=>false
def YP(aA:X Oper):PE:=Ny aA (dY aA []) aA (dY aA []) 0
def EY(T:Tb)(tm:X Value)(s:S):X ResultVar->V (X Value)
 |[]=>some []|.tmp t::r=>match nth tm t with
  |some v=>match EY T tm s r with
   |some l=>some (v::l)|none=>none
  |none=>none
 |.cell a t::r=>match v6 T tm s (.load t (.tmp a))with
  |some v=>match EY T tm s r with
   |some l=>some (v::l)|none=>none
  |none=>none
def F3:X Value->Value
 |[v]=>v|l=>.tuple l.toArray
def pad:Nat->X Value->X Value
 |0,l=>l|n+1,[]=>undef::pad n []
 |n+1,v::l=>v::pad n l
def DB(P:DC)(eqs:X TypeId):Tb where
 und t:=match nth P.types.toList t with
  |none=>none|some i=>match i.desc with
   |.named _ u=>match nth P.types.toList u with
    |some j=>some j.desc|none=>none
   |d=>some d
 inf t:=match nth P.types.toList t with
  |none=>none|some i=>match i.zero with
   |some z=>cond (plain z) (some (i.size,i.bytes,z)) none|none=>none
 fn f:=nth P.funcs.toList f
 eqs t:=eqs.any (Nat.beq t)
end Go.Rx
