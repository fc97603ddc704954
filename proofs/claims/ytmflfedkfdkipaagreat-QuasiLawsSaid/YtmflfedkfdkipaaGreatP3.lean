import Derived.Laws.StructEq
import Derived.Test.YtmflfedkfdkipaaGreatP2
set_option linter.all false
namespace Go.Rx
open Go
structure iK(P:Uz)(T:Tb):Prop where
 und:∀t d,T.und t=some d->P.underlying t=some d
 inf:∀t a b z,T.inf t=some (a,b,z)->plain z=true/\∃i,P.info? t=some i/\i.size=a/\i.bytes=b/\i.zero=some z
 fn : ∀ f g, T.fn f = some g → P.funcs[f]? = some g ∧ (g.body.isSome = true → (g.name == "runtime.NumGoroutine") = false)
 eqs:∀t,T.eqs t=true->P.stoodInHeld t=false/\P.eqGuardType P.depth t=false
 mixed:P.follows .mixedOrders=true
def i9{v11:Type}(l:Z v11)(n:Nat):nth l n=l[n]?:=by induction l generalizing n with|nil=>simp[nth]|cons a l ih=>cases n<;>simp[nth,ih]
variable{l:Z A}
variable{n:Nat}
variable{r:Z A}
def qwg(h:FN l n=some r):r=l.take n/\n<=l.length:=by induction l generalizing n r with|nil=>cases n<;>simp_all[FN]|cons v l ih=>cases n with|zero=>simp_all[FN]|succ n=>simp only[FN]at h;rcases hl:FN l n with _|r';simp[hl]at h;simp[hl]at h;obtain⟨e,hn⟩:=ih hl;subst h;simp[e];exact hn
variable{off:Nat}
def Mp(h:u9 l off n=some r):r=(l.drop off).take n/\n<=l.length-off:=by have:=qwg h;simpa using this
def eo(h:u9 l off n=some r):r.length=n:=by obtain⟨rfl,hn⟩:=Mp h;simp;omega
def z06(h:u9 l off n=some r){j:Nat}{v:A}(hj:r[j]? = some v):l[off+j]? = some v:=by obtain⟨rfl,hn⟩:=Mp h;rw[List.getElem?_take]at hj;split at hj;simpa using hj;cases hj
def qzk{vs:Z A}(h:DT l vs=some r):vs.length<=l.length/\r=vs++l.drop vs.length:=by induction vs generalizing l r with|nil=>simp[DT]at h;simp[h]|cons v vs ih=>rcases l with _|⟨x,l⟩;simp[DT]at h;simp only[DT]at h;rcases hp:DT l vs with _|r';simp[hp]at h;simp[hp]at h;obtain⟨e1,e2⟩:=ih hp;subst h;simp[e2];exact e1
def qqb{vs:Z A}(h:qR l off vs=some r):off+vs.length<=l.length/\r=l.take off++vs++l.drop (off+vs.length):=by
 induction off generalizing l r with
 |zero=>
  have h':DT l vs=some r:=by cases l<;>simpa[qR]using h
  obtain⟨e1,e2⟩:=qzk h';simp[e2];exact e1
 |succ n ih=>
  rcases l with _|⟨x,l⟩;simp[qR]at h;simp only[qR]at h;rcases hp:qR l n vs with _|r';simp[hp]at h;simp[hp]at h;obtain⟨e1,e2⟩:=ih hp;subst h;simp only[zO,List.take_succ_cons,List.cons_append,e2];refine⟨by omega,?_⟩;have:n+1+vs.length=(n+vs.length)+1:=by omega
  rw[this,List.drop_succ_cons]
def qve(h:pU l=true):∀v∈l,v.oneCell'=true:=by induction l with|nil=>simp|cons v l ih=>simp only[pU]at h;rcases hv:v.oneCell' with _|_;simp[hv]at h;simp[hv]at h;intro u hu;rcases zI.1 hu with rfl |hu;exact hv;exact ih h u hu
def qls{m:Nm}(h:pU l=true):∀v∈aE m l,v.oneCell'=true:=by intro v hv;rw[lD]at hv;obtain⟨u,hu,rfl⟩:=List.mem_map.1 hv;rw[qs6];exact qve h u hu
mutual
def yI(m:Nm):(v:A)->plain v=true->ren m v=v
 |.bool _,_=>by simp[ren]
 |.int _ _,_=>by simp[ren]
 |.string _,_=>by simp[ren]
 |.pointer none,_=>by simp[ren]
 |.slice none _ _,_=>by simp[ren]
 |.map none,_=>by simp[ren]
 |.nilFunc,_=>by simp[ren]
 |.nilIface,_=>by simp[ren]
 |.agg ⟨l⟩,h=>by simp only[plain]at h;simp[ren,io m l h]
 |.tuple ⟨l⟩,h=>by simp only[plain]at h;simp[ren,io m l h]
 |.float _ _,h=>by simp[plain]at h
 |.complex _ _ _,h=>by simp[plain]at h
 |.pointer (some _),h=>by simp[plain]at h
 |.slice (some _) _ _,h=>by simp[plain]at h
 |.map (some _),h=>by simp[plain]at h
 |.chan _,h=>by simp[plain]at h
 |.func _ _ _,h=>by simp[plain]at h
 |.iface _ _,h=>by simp[plain]at h
def io(m:Nm):(l:Z A)->PX l=true->aE m l=l
 |[],_=>by simp[aE]
 |v::l,h=>by simp only[PX]at h;rcases hv:plain v with _|_;simp[hv]at h;simp[hv]at h;simp[aE,yI m v hv,io m l h]
end
def ze(a b:Z O8):jZ a b=(a==b):=by
 induction a generalizing b with
 |nil=>cases b<;>simp[jZ]|cons x a ih=>
  rcases b with _|⟨y,b⟩;simp[jZ];simp only[jZ,beq_eq,ih];by_cases e:x=y;subst e;simp;have:x.toNat≠y.toNat:=fun h=>e (UInt8.toNat_inj.1 h)
  simp[this,e]
def qvk(a b:Z O8):jH a b=Op.bytesLess a b:=by
 induction a generalizing b with
 |nil=>cases b<;>simp[jH,Op.bytesLess]|cons x a ih=>
  rcases b with _|⟨y,b⟩;simp[jH,Op.bytesLess];simp only[jH,Op.bytesLess,ih,beq_eq];have aH:Nat.blt x.toNat y.toNat=decide (x<y):=by rw[Bool.eq_iff_iff];simp[Nat.blt_eq,UInt8.lt_iff_toNat_lt]
  rw[aH];by_cases h1:x<y;simp[h1];by_cases e:x=y;subst e;simp;have:x.toNat≠y.toNat:=fun h=>e (UInt8.toNat_inj.1 h);simp[h1,e,this]
section
variable{P:Uz}{T:Tb}(hT:iK P T)(m:Nm){tm:Z A}{a:Act}(w:Tz)
include hT
variable{t:O}
def eU{d:TypeDesc}(h:T.und t=some d):(underlying t).run P w=.ok d w:=run_underlying (hT.und t d h) w
def lG(h:c6 T t=some n):(sizeOf t).run P w=.ok n w:=by unfold c6 at h;rcases hi:T.inf t with _|x;simp[hi]at h;obtain⟨a,b,z⟩:=x;simp[hi]at h;obtain⟨_,i,h1,h2,_,_⟩:=hT.inf t a b z hi;simp[sizeOf,typeInfo,h1,h2,h]
def C3{x:Nat×Nat×A}(h:T.inf t=some x):(zeroValue t).run P w=.ok x.2.2 w/\ren m x.2.2=x.2.2:=by obtain⟨a,b,z⟩:=x;obtain⟨hp,i,h1,_,_,h4⟩:=hT.inf t a b z h;exact⟨by simp[zeroValue,typeInfo,h1,h4],yI m z hp⟩
def qqt{d:TypeDesc}(h:T.und t=some d):(isAgg t).run P w=.ok (p9 d) w:=by unfold isAgg;simp only[zK,eU hT w h,zJ];cases d<;>rfl
def Mq{cs:Z A}{v:A}(h:DY T t cs off=some v):
  (part t ⟨aE m cs⟩ off).run P w=.ok (ren m v) w:=by
 unfold DY at h;rcases hd:T.und t with _|d;simp[hd]at h;simp only[hd]at h;unfold part;simp only[zK,qqt hT w hd,zJ];cases Aw:p9 d with
 |true=>simp only[Aw,zC]at h;rcases hs:c6 T t with _|n;simp[hs]at h;simp[hs]at h;subst h;simp only[if_true,zK,lG hT w hs,zJ,zL,ren];simp[lD,List.map_drop,List.map_take]
 |false=>simp only[Aw,zD,i9]at h;simp[lD,h]
def z73{E:O->A->A->I BQ}{d:Nat}(hE:∀t x y b w,E t x y=some b->(Op.equalIn d t (ren m x) (ren m y)).run P w=.ok b w)
  (xs ys:Z A) (fs:Z Field) {b:BQ} (w:Tz) (h:DA T E xs ys fs=some b):
  (Op.eqFields d ⟨aE m xs⟩ ⟨aE m ys⟩ fs).run P w=.ok b w:=by induction fs generalizing w with|nil=>simp[DA]at h;simp[Op.eqFields,h]|cons f fs ih=>simp only[DA]at h;simp only[Op.eqFields];split at h;rename_i hn;simp only[hn,ne_eq,not_false_eq_true,if_true];rcases h1:DY T f.type xs f.offset with _|x;simp[h1]at h;simp only[h1]at h;rcases h2:DY T f.type ys f.offset with _|y;simp[h2]at h;simp only[h2]at h;rcases h3:E f.type x y with _|r;simp[h3]at h;simp only[zK,Mq hT m w h1,zJ,Mq hT m w h2,hE _ _ _ _ w h3];rcases r with _|_;simp[h3]at h;simp[h];simp only[h3]at h;simpa using ih w h;rename_i hn;simp only[hn,if_false];exact ih w h
def v15(d k:Nat){x y:A}{b:BQ}(w:Tz)(h:eqv T d t x y=some b):
  (Op.equalIn (d+k) t (ren m x) (ren m y)).run P w=.ok b w:=by
 induction d generalizing t x y b w with
 |zero=>simp[eqv]at h|succ d ih=>
  have GX:d+1+k=(d+k)+1:=by omega
  rw[GX];simp only[eqv]at h;rcases hd:T.und t with _|ty;simp[hd]at h;have hu:=eU hT w hd;cases ty with
  |bool=>simp only[hd]at h;cases x<;>cases y<;>simp at h;subst h;simp[Op.equalIn,hu,ren]|int kk=>simp only[hd]at h;cases x<;>cases y<;>simp at h;obtain⟨rfl,h⟩:=h;simp[Op.equalIn,hu,ren,h]
  |string=>simp only[hd]at h;cases x<;>cases y<;>simp at h;subst h;rename_i s1 s2;simp only[Op.equalIn,zK,hu,ren,zJ,zL,ze];rw[beq_toListBytes,ByteArray.toList_eq,ByteArray.toList_eq]|pointer e=>
   simp only[hd]at h;cases x<;>cases y<;>try simp at h
   rename_i p q;cases p<;>cases q<;>simp at h<;>subst h<;>simp[Op.equalIn,hu,ren]
  |slice e=>
   simp only[hd]at h;cases x<;>cases y<;>try simp at h
   rename_i p _ _ q _ _;cases p<;>cases q<;>simp at h<;>subst h<;>simp[Op.equalIn,hu,ren];rename_i p q _ _;cases p<;>cases q<;>simp at h<;>subst h<;>simp[Op.equalIn,hu,ren]
  |map e e'=>
   simp only[hd]at h;cases x<;>cases y<;>try simp at h
   rename_i p q;cases p<;>cases q<;>simp at h<;>subst h<;>simp[Op.equalIn,hu,ren]
  |struct fs=>
   simp only[hd]at h;cases x<;>cases y<;>simp at h;rename_i xs ys;obtain⟨xs⟩:=xs;obtain⟨ys⟩:=ys;rcases he:T.eqs t with _|_;simp[he]at h;simp only[he,zC]at h;have CQ:=hT.und t _ hd;have yx:P.fieldsOf t=fs:=by simp[Program.fieldsOf,CQ]
   simp only[ren,kS];rw[run_equalIn_struct w (d+k) t _ _ (by rw[yx];exact CQ) (hT.eqs t he).1,yx];exact z73 hT m (fun t x y b w hh=>ih w hh) xs ys fs.toList w h
  |_=>simp[hd]at h
end
end Go.Rx
namespace Go.Rx
open Go
variable{m:Nm}
variable{tm:Z A}
variable{a:Act}
variable{v:A}
def kJ(ha:a.tmps=⟨aE m tm⟩){x:Jp}(h:evalO tm x=some v):a.eval x=ren m v:=by
 cases x with
 |tmp t=>simp only[evalO,i9]at h;simp[Act.eval,ha,lD,h]|const c=>simp only[evalO]at h;rcases hp:plain c with _|_;simp[hp]at h;simp[hp]at h;subst h;simp[Act.eval,yI m c hp]
 |func f=>simp[evalO]at h;subst h;simp[Act.eval,ren,aE]|global g=>simp[evalO]at h
def z2m(ha:a.tmps=⟨aE m tm⟩){l:Z Jp}{vs:Z A}(h:jP tm l=some vs):l.map a.eval=aE m vs:=by induction l generalizing vs with|nil=>simp[jP]at h;subst h;simp[aE]|cons x l ih=>simp only[jP]at h;rcases hx:evalO tm x with _|v;simp[hx]at h;rcases hl:jP tm l with _|r;simp[hx,hl]at h;simp[hx,hl]at h;subst h;simp[aE,kJ ha hx,ih hl]
def sO(ha:a.tmps=⟨aE m tm⟩){l:Bo Jp}{vs:Z A}(h:jP tm l.toList=some vs):l.map a.eval=⟨aE m vs⟩:=by rw[<-z2m ha h];cases l;simp
def dp(ha:a.tmps=⟨aE m tm⟩){l:Z (Nat×Jp)}{vs:Z (Nat×A)}(h:FR tm l=some vs):
  l.map (fun p=>(p.1,a.eval p.2))=vs.map (fun p=>(p.1,ren m p.2)):=by induction l generalizing vs with|nil=>simp[FR]at h;subst h;simp|cons x l ih=>obtain⟨i,x⟩:=x;simp only[FR]at h;rcases hx:evalO tm x with _|v;simp[hx]at h;rcases hl:FR tm l with _|r;simp[hx,hl]at h;simp[hx,hl]at h;subst h;simp[kJ ha hx,ih hl]
def MC(ha:a.tmps=⟨aE m tm⟩){x:I Jp}{v:I A}(h:oZ tm x=some v):x.map a.eval=v.map (ren m):=by rcases x with _|x;simp[oZ]at h;subst h;rfl;simp only[oZ]at h;rcases hx:evalO tm x with _|u;simp[hx]at h;simp[hx]at h;subst h;simp[kJ ha hx]
def qp8(op:BinOp)(t:O)(x y:Jp)(u v:A)(h1 : ∀a b, ¬ (u=.agg a/\v=.agg b))(h2 : ¬ (u=.nilIface/\v=.nilIface)): eqGuard op t x y u v=pure ():=by
  cases op<;>simp only[eqGuard]<;>first
    |rfl
    | (simp only [Bool.not_true, Bool.false_eq_true, if_false]
       split;simp_all;simp_all;rfl)
def qzz{c:Bo A}(h:ren m v=.agg c):∃d,v=.agg d:=by
 cases v with
 |pointer a=>cases a<;>simp[ren]at h|slice a n c=>cases a<;>simp[ren]at h
 |map r=>cases r<;>simp[ren]at h|chan r=>cases r<;>simp[ren]at h
 |agg d=>exact⟨d,rfl⟩|_=>simp[ren]at h
def qiq(h:ren m v=.nilIface):v=.nilIface:=by
 cases v with
 |pointer a=>cases a<;>simp[ren]at h|slice a n c=>cases a<;>simp[ren]at h
 |map r=>cases r<;>simp[ren]at h|chan r=>cases r<;>simp[ren]at h
 |nilIface=>rfl|_=>simp[ren]at h
def qxy(off:Nat):∀(vs:Z A)(k:Nat)(cells:Z A),off+k+vs.length<=cells.length->
  (vs.zipIdx k).foldl (fun(cs:Bo A) (p:A×Nat)=>cs.setIfInBounds (off+p.2) p.1) ⟨cells⟩=⟨cells.take (off+k)++vs++cells.drop (off+k+vs.length)⟩
 |[],k,cells,_=>by simp
 |v::vs,k,cells,h=>by
  simp only[zO]at h;simp only[List.zipIdx_cons,List.foldl_cons,List.setIfInBounds_toArray];rw[qxy off vs (k+1) (cells.set (off+k) v) (by simp;omega)];congr 1;have e1:(cells.set (off+k) v).take (off+(k+1))=cells.take (off+k)++[v]:=by rw[show off+(k+1)=off+k+1 by omega,List.take_set,List.take_succ_eq_append_getElem (by omega)];rw[List.set_append_right _ _ (by simp;omega)];simp[Nat.min_eq_left (show off+k<=cells.length by omega)]
  have e2:(cells.set (off+k) v).drop (off+(k+1)+vs.length)=cells.drop (off+k+(v::vs).length):=by rw[List.drop_set_of_lt (by omega)];congr 1;simp;omega
  rw[e1,e2];simp
def Mk(m:Nm)(place:Nat->I (Nat×Nat)):∀(ps:Z (Nat×A))(cells r:Z A),BX place cells ps=some r->
  Instr.fill place ⟨aE m cells⟩ (ps.map fun p=>(p.1,ren m p.2))=some ⟨aE m r⟩
 |[],cells,r,h=>by simp[BX]at h;simp[Instr.fill,h]
 |(i,v)::ps,cells,r,h=>by
  simp only[BX]at h;rcases hp:place i with _|x;simp[hp]at h;obtain⟨off,size⟩:=x;simp only[hp,beq_eq]at h;by_cases hs:v.cells.toList.length=size;simp only[hs,yC,zC]at h;rcases hq:qR cells off v.cells.toList with _|c;simp[hq]at h;simp only[hq]at h;obtain⟨h1,h2⟩:=qqb hq;have eA:v.cells.size=size:=by simpa using hs
  simp only[zQ,Instr.fill,hp,qp,v13,eA];have fF:(decide (size≠size)||decide (off+size>(⟨aE m cells⟩:Bo A).size))=false:=by simp;simp[eA]at h1;omega
  rw[fF];simp only[Bool.false_eq_true,if_false];have v16:((tH m v.cells).zipIdx.foldl (fun(cs:Bo A) (p:A×Nat)=>cs.setIfInBounds (off+p.2) p.1) ⟨aE m cells⟩)=⟨aE m c⟩:=by rw[<-Array.foldl_toList,Array.toList_zipIdx,kF,qxy off _ 0 _ (by simp;simpa using h1)];rw[h2];simp[lD,List.map_drop,List.map_take]
  exact(congrArg (fun z=>Instr.fill place z (ps.map fun p=>(p.1,ren m p.2))) v16).trans (Mk m place ps c r h);simp only[hs,yB,zD]at h;cases h
variable{t:O}
variable{x:A}
variable{y:A}
def qp9{T:Tb}{d:Nat}{r:BQ}(h:eqv T d t x y=some r):
  (∃a b,x=.bool a/\y=.bool b)\/(∃k a k' b,x=.int k a/\y=.int k' b)\/(∃a b,x=.string a/\y=.string b)\/(∃a b,x=.pointer a/\y=.pointer b)\/
  (∃a n c b n' c',x=.slice a n c/\y=.slice b n' c')\/(∃a b,x=.map a/\y=.map b)\/(∃a b,x=.agg a/\y=.agg b)\/(∃r n c,x=.chan (some r)/\y=.slice none n c):=by
 cases d with
 |zero=>simp[eqv]at h|succ d=>
  simp only[eqv]at h;rcases hd:T.und t with _|ty;simp[hd]at h;cases ty<;>simp only[hd]at h<;>first
   |(simp at h;done)
   |(cases x<;>cases y<;>first |(simp at h;done)|(simp;done)|(rename_i p q _ _;cases p<;>cases q<;>simp at h ⊢))
section
variable{P:Uz}{T:Tb}(hT:iK P T)(m:Nm)(w:Tz)
include hT
def z2v(op:BinOp)(ox oy:Jp)(h:AF T t x y=true):(eqGuard op t ox oy (ren m x) (ren m y)).run P w=.ok () w:=by by_cases ha:∃c d,x=.agg c/\y=.agg d;obtain⟨c,d,rfl,rfl⟩:=ha;simp only[AF]at h;simp only[ren];exact run_eqGuard_agg w op t ox oy _ _ (hT.eqs t h).2;rw[qp8 op t ox oy];rfl;rintro a b ⟨h1,h2⟩;obtain⟨c,rfl⟩:=qzz h1;obtain⟨d,rfl⟩:=qzz h2;exact ha ⟨c,d,rfl,rfl⟩;rintro⟨h1,h2⟩;rw[qiq h1,qiq h2]at h;simp[AF]at h
def Zz{b:BQ}(h:eqv T 50 t x y=some b):(Op.equal t (ren m x) (ren m y)).run P w=.ok b w :=
 v15 hT m 50 9950 w h
def Cn(op:BinOp)(ox oy:Jp)(h:sJ T op t x y=some v):
  (do eqGuard op t ox oy (ren m x) (ren m y);binOp op t (ren m x) (ren m y):Sem A).run P w=.ok (ren m v) w:=by
 by_cases hi:∃k a k' b,x=.int k a/\y=.int k' b
 ·obtain⟨k,a,k',b,rfl,rfl⟩:=hi;simp only[sJ]at h;simp only[ren,eqGuard_at_int,zK,zL,zJ];by_cases hk:k=k'
  ·subst hk;cases op<;>simp[jF]at h<;>first
    |(subst h;simp[binOp,Op.intArith,Op.intBits,Op.intCmp,ren];done)
    |(obtain⟨h1,rfl⟩:=h;simp[binOp,Op.intDiv,Op.shift,ren,h1];done)
    |(obtain⟨h1,rfl⟩:=h;simp[binOp,Op.shift,ren];omega)
  cases op<;>simp[jF,hk]at h<;>first
   |(obtain⟨h1,rfl⟩:=h;simp[binOp,Op.shift,ren];omega)
 ·by_cases hs:∃a b,x=.string a/\y=.string b
  ·obtain⟨a,b,rfl,rfl⟩:=hs;simp only[sJ]at h;simp only[ren,eqGuard_at_string,zK,zL,zJ];have e1:a.toList=a.data.toList:=ByteArray.toList_eq a;have e2:b.toList=b.data.toList:=ByteArray.toList_eq b;cases op<;>simp[FA]at h<;>first
    |(subst h;simp[binOp,Op.stringOp,ren,e1,e2,ze,qvk];done)
    |skip
   obtain⟨h1,rfl⟩:=h;have h2:¬ ((a.size+b.size:Nat):Int)>9223372036854775807:=by have ea:a.size=a.data.size:=rfl;have eb:b.size=b.data.size:=rfl;rw[ea,eb];omega
   simp only[binOp,Op.stringOp,IntKind.max_i64,if_neg h2,zL,ren];have e3:a++b=⟨(a.data.toList++b.data.toList).toArray⟩:=by apply ByteArray.ext;simp
   rw[e3]
  have hb:(op=.eql\/op=.neq)/\AF T t x y=true/\∃r,eqv T 50 t x y=some r/\v=.bool (if op=.eql then r else !r):=by unfold sJ at h;split at h;exact absurd ⟨_,_,_,_,rfl,rfl⟩ hi;exact absurd ⟨_,_,rfl,rfl⟩ hs;cases op<;>simp at h;rcases hg:AF T t x y with _|_;simp[hg]at h;rcases he:eqv T 50 t x y with _|r;simp[hg,he]at h;simp[hg,he]at h;subst h;simp;rcases hg:AF T t x y with _|_;simp[hg]at h;rcases he:eqv T 50 t x y with _|r;simp[hg,he]at h;simp[hg,he]at h;subst h;simp
  obtain⟨pF,hg,r,he,rfl⟩:=hb;have hq:=Zz hT m w he;simp only[zK,z2v hT m w op ox oy hg,zJ];have yi:=qp9 he;rcases pF with rfl |rfl;have key:binOp .eql t (ren m x) (ren m y)=(do pure (.bool (<-Op.equal t (ren m x) (ren m y))):Sem A):=by rcases yi with⟨a,b,rfl,rfl⟩|⟨k,a,k',b,rfl,rfl⟩|⟨a,b,rfl,rfl⟩|⟨a,b,rfl,rfl⟩|⟨a,n,c,b,n',c',rfl,rfl⟩|⟨a,b,rfl,rfl⟩|⟨a,b,rfl,rfl⟩|⟨r,n,c,rfl,rfl⟩;simp[ren,binOp];exact absurd ⟨_,_,_,_,rfl,rfl⟩ hi;exact absurd ⟨_,_,rfl,rfl⟩ hs;cases a<;>cases b<;>simp[ren,binOp];cases a<;>cases b<;>simp[ren,binOp];cases a<;>cases b<;>simp[ren,binOp];simp[ren,binOp];simp[ren,binOp]
  rw[key];simp[hq,ren];have key:binOp .neq t (ren m x) (ren m y)=(do pure (.bool (!(<-Op.equal t (ren m x) (ren m y)))):Sem A):=by rcases yi with⟨a,b,rfl,rfl⟩|⟨k,a,k',b,rfl,rfl⟩|⟨a,b,rfl,rfl⟩|⟨a,b,rfl,rfl⟩|⟨a,n,c,b,n',c',rfl,rfl⟩|⟨a,b,rfl,rfl⟩|⟨a,b,rfl,rfl⟩|⟨r,n,c,rfl,rfl⟩;simp[ren,binOp];exact absurd ⟨_,_,_,_,rfl,rfl⟩ hi;exact absurd ⟨_,_,rfl,rfl⟩ hs;cases a<;>cases b<;>simp[ren,binOp];cases a<;>cases b<;>simp[ren,binOp];cases a<;>cases b<;>simp[ren,binOp];simp[ren,binOp];simp[ren,binOp]
  rw[key];simp[hq,ren]
omit hT in
def v17{op:UnOp}{x v:A}(h:P0 op x=some v):(Op.unary op (ren m x)).run P w=.ok (ren m v) w:=by cases op<;>cases x<;>simp[P0]at h<;>subst h<;>simp[Op.unary,ren,Op.intArith,Op.intBits]
def z6x{src dst:O}(h:WB T src dst x=some v):(convert src dst (ren m x)).run P w=.ok (ren m v) w:=by unfold WB at h;rcases h1:T.und src with _|d1;simp[h1]at h;rcases h2:T.und dst with _|d2;simp[h1,h2]at h;simp only[h1,h2]at h;unfold convert;simp only[zK,eU hT w h1,eU hT w h2,zJ];cases d2<;>cases x<;>simp at h<;>subst h<;>cases d1<;>simp[ren,Conv.intToInt]
def qvz(fs:Z Field)(hs:FU T fs=true):(fs.mapM (fun f=>do pure (f.offset,<-sizeOf f.type):Field->Sem (Nat×Nat))).run P w=.ok (fs.map fun f=>(f.offset,(c6 T f.type).getD 0)) w:=by induction fs with|nil=>simp|cons f fs ih=>simp only[FU]at hs;rcases hf:c6 T f.type with _|n;simp[hf]at hs;simp only[hf]at hs;have vn:=ih hs;simp only[List.mapM_cons,zK,lG hT w hf,zJ,zL,vn,zQ,hf,Option.getD_some]
omit hT in
def qwd{fs:Z Field}(hs:FU T fs=true){i:Nat}{f:Field}(hf:fs[i]? = some f):∃n,c6 T f.type=some n:=by
 induction fs generalizing i with
 |nil=>simp at hf|cons g fs ih=>
  simp only[FU]at hs;rcases hg:c6 T g.type with _|n;simp[hg]at hs;simp only[hg]at hs;cases i with
  |zero=>simp at hf;subst hf;exact⟨n,hg⟩|succ i=>exact ih hs (by simpa using hf)
def z1u{ps:Z (Nat×A)}(h:Lu T t ps=some v):
  (Instr.build t (ps.map fun p=>(p.1,ren m p.2)).toArray).run P w=.ok (ren m v) w:=by
 unfold Lu at h;rcases hi:T.inf t with _|x;simp[hi]at h;obtain⟨a,b,z⟩:=x;obtain⟨hz,oN⟩:=C3 hT m w hi;simp only at hz oN;have sQ:z.cells=⟨aE m z.cells.toList⟩:=by
  conv=>lhs;rw[<-oN,qp]
  cases z.cells;simp
 simp only[hi]at h;unfold Instr.build;simp only[zK,hz,zJ];rcases hd:T.und t with _|d;simp[hd]at h;simp only[eU hT w hd,zJ];cases d with
 |struct fs=>
  simp only[hd]at h;rcases hs:FU T fs.toList with _|_;simp[hs]at h;simp only[hs,zC]at h;rcases hf:BX (JT T fs.toList) z.cells.toList ps with _|cs;simp[hf]at h;simp[hf]at h;subst h;have hm:=qvz hT w fs.toList hs;have fS:(fs.mapM (fun f=>do pure (f.offset,<-sizeOf f.type):Field->Sem (Nat×Nat))).run P w=.ok ⟨fs.toList.map fun f=>(f.offset,(c6 T f.type).getD 0)⟩ w:=by rw[Array.mapM_eq_mapM_toList];simp only[Sem.run_map,hm,zJ]
  have kZ:(fun i=>(⟨fs.toList.map fun f=>(f.offset,(c6 T f.type).getD 0)⟩:Bo (Nat×Nat))[i]?)=JT T fs.toList:=by
   funext i;simp only[JT,i9];rcases rW:fs.toList[i]? with _|f;simp at rW;simp[rW];obtain⟨n,hn⟩:=qwd hs rW;have:fs[i]? = some f:=by simpa using rW
   simp[this,hn]
  have kP:=Mk m (JT T fs.toList) ps z.cells.toList cs hf;simp only[zK,fS,zJ,kZ];rw[sQ];simp only[kP,zL,ren,kS]
 |array n e=>simp only[hd]at h;rcases hs:c6 T e with _|k;simp[hs]at h;simp only[hs]at h;rcases hf:BX (fun i=>some (i*k,k)) z.cells.toList ps with _|cs;simp[hf]at h;simp[hf]at h;subst h;have kP:=Mk m (fun i=>some (i*k,k)) ps z.cells.toList cs hf;simp only[zK,lG hT w hs,zJ];rw[sQ];simp only[kP,zL,ren,kS]
 |_=>simp[hd]at h
omit hT in
def uH(b o n:Nat):(⟨b,o,none⟩:Addr).add n=⟨b,o+n,none⟩:=Addr.add_lit b o n
def qvs{st:O}{f:Nat}(h:Ng T st x f=some v):(Instr.fieldAt st (ren m x) f).run P w=.ok (ren m v) w:=by
 unfold Ng at h;rcases hd:T.und st with _|d;simp[hd]at h;cases d with
 |struct fs=>
  simp only[hd,i9]at h;rcases hf:fs.toList[f]? with _|fd;simp at hf;simp[hf]at h;have O0:fs[f]? = some fd:=by simpa using hf
  simp only[hf]at h;cases x with
  |pointer p=>rcases p with _|a;simp at h;simp only at h;rcases hs:c6 T fd.type with _|n;simp[hs]at h;cases n with|zero=>simp[hs]at h|succ n=>simp[hs]at h;subst h;simp[Instr.fieldAt,eU hT w hd,O0,ren,Instr.sureAddr,fieldPlace,lG hT w hs,uH,Nat.add_assoc]
  |_=>simp at h
 |_=>simp[hd]at h
def z2o{st:O}{f:Nat}(h:Lo T st x f=some v):(Instr.field st (ren m x) f).run P w=.ok (ren m v) w:=by
 unfold Lo at h;rcases hd:T.und st with _|d;simp[hd]at h;cases d with
 |struct fs=>
  simp only[hd,i9]at h;rcases hf:fs.toList[f]? with _|fd;simp at hf;simp[hf]at h;have O0:fs[f]? = some fd:=by simpa using hf
  simp only[hf]at h;cases x with
  |agg cs=>obtain⟨cs⟩:=cs;simp only at h;simp[Instr.field,eU hT w hd,O0,ren,asAgg,Mq hT m w h]
  |_=>simp at h
 |_=>simp[hd]at h
omit hT in
def WV{i:Int}{n:Nat}(h:oM i n=true):0<=i/\i<n:=by cases i with|ofNat k=>simp only[oM,Nat.blt_eq]at h;exact⟨Int.natCast_nonneg k,Int.ofNat_lt.2 h⟩|negSucc k=>simp[oM]at h
def qvu{ix:A}(h:My T t x ix=some v):(Instr.indexAt t (ren m x) (ren m ix)).run P w=.ok (ren m v) w:=by
 unfold My at h;cases ix with
 |int k i=>
  simp only at h;rcases hd:T.und t with _|d;simp[hd]at h;cases d with
  |array n e=>
   simp only[hd]at h;cases x with
   |pointer p=>rcases p with _|a;simp at h;simp only at h;rcases hr:oM i n with _|_;simp[hr]at h;rcases hs:c6 T e with _|sz;simp[hr,hs]at h;simp[hr,hs]at h;subst h;have:=WV hr;simp[Instr.indexAt,asIntOf,ren,eU hT w hd,Instr.sureAddr,this,lG hT w hs,uH,Nat.add_assoc]
   |_=>simp at h
  |slice e=>
   simp only[hd]at h;cases x with
   |slice p n c=>rcases p with _|a;simp at h;simp only at h;rcases hr:oM i n with _|_;simp[hr]at h;rcases hs:c6 T e with _|sz;simp[hr,hs]at h;simp[hr,hs]at h;subst h;have:=WV hr;simp[Instr.indexAt,asIntOf,ren,eU hT w hd,this,lG hT w hs,uH,Nat.add_assoc]
   |_=>simp at h
  |_=>simp[hd]at h
 |_=>simp at h
def z2x{ix:A}(h:WI T t x ix=some v):(Instr.index t (ren m x) (ren m ix)).run P w=.ok (ren m v) w:=by
 unfold WI at h;cases ix with
 |int k i=>
  simp only at h;rcases hd:T.und t with _|d;simp[hd]at h;cases d with
  |array n e=>
   simp only[hd]at h;cases x with
   |agg cs=>obtain⟨cs⟩:=cs;simp only at h;rcases hr:oM i n with _|_;simp[hr]at h;rcases hs:c6 T e with _|sz;simp[hr,hs]at h;simp only[hr,hs,zC]at h;have:=WV hr;simp[Instr.index,asIntOf,ren,eU hT w hd,this,lG hT w hs,Mq hT m w h]
   |_=>simp at h
  |string=>
   simp only[hd]at h;cases x with
   |string s=>
    simp only[i9]at h;rcases hr:oM i s.data.toList.length with _|_;simp only[hr,zD]at h;cases h;simp only[hr,zC]at h;have hi:=WV hr;rcases hb:s.data.toList[i.toNat]? with _|b;simp[hb]at h;simp[hb]at h;subst h;have bV:s[i.toNat]? = some b:=by
     have:s.data[i.toNat]? = some b:=by simpa using hb
     obtain⟨aH,e⟩:=Array.getElem?_eq_some_iff.1 this;have tQ:i.toNat<s.size:=aH;rw[getElem?_pos s i.toNat tQ];exact congrArg some e
    simp[Instr.index,asIntOf,ren,eU hT w hd,hi.1,bV]
   |_=>simp at h
  |_=>simp[hd]at h
 |_=>simp at h
omit hT in
def qvq{x v:A}{i:Nat}(h:Fo x i=some v):(Instr.extract (ren m x) i).run P w=.ok (ren m v) w:=by
 cases x with
 |tuple vs=>obtain⟨vs⟩:=vs;simp only[Fo,i9]at h;simp[Instr.extract,ren,lD,h]
 |_=>simp[Fo]at h
end
section
variable{P:Uz}{T:Tb}(hT:iK P T)(m:Nm)(w:Tz)
include hT
variable{t:O}
variable{x:A}
variable{v:A}
def YF{ty:O}{ts:Z O}(h:CH T t x=some v):(Builtin.len_ (t::ts).toArray ty #[ren m x]).run P w=.ok (ren m v) w:=by
 unfold CH at h;rcases hd:T.und t with _|d;simp[hd]at h;simp only[hd]at h;have hu:=eU hT w hd;cases d with
 |string=>cases x<;>simp at h;subst h;rename_i s;simp only[Builtin.len_,List.getElem?_toArray,List.getElem?_cons_zero,zK,hu,zJ,ren,goInt,zL]|slice e=>
  cases x with
  |slice a _ _=>simp only[zA]at h;subst h;cases a<;>simp[Builtin.len_,hu,ren,goInt]|chan r=>rcases r with _|r;simp at h;simp only[zA]at h;subst h;simp[Builtin.len_,hu,ren,goInt]
  |_=>simp at h
 |array n e=>simp at h;subst h;simp[Builtin.len_,hu,ren,goInt]|_=>simp at h
def Ch{ty:O}{ts:Z O}(h:IE T t x=some v):(Builtin.cap_ (t::ts).toArray ty #[ren m x]).run P w=.ok (ren m v) w:=by
 unfold IE at h;rcases hd:T.und t with _|d;simp[hd]at h;simp only[hd]at h;have hu:=eU hT w hd;cases d with
 |slice e=>
  cases x with
  |slice a _ c=>
   cases a with
   |none=>simp only[zA]at h;subst h;simp[Builtin.cap_,hu,ren,goInt]|some a=>
    simp only at h;rcases hc:Nat.blt c bP with _|_;simp[hc]at h;simp only[hc,zC,zA]at h;subst h;have lI:c<bP:=by simpa[Nat.blt_eq]using hc
    simp[Builtin.cap_,hu,ren,goInt,bU,lI]
  |chan r=>rcases r with _|r;simp at h;simp only[zA]at h;subst h;simp[Builtin.cap_,hu,ren,goInt]
  |_=>simp at h
 |_=>simp at h
omit hT in
def YB{x v:A}{l:Z A}(h:wV W8 x l=some v):((aE m l).foldlM Builtin.max2 (ren m x)).run P w=.ok (ren m v) w:=by
 induction l generalizing x with
 |nil=>simp[wV]at h;simp[aE,h]|cons y l ih=>
  simp only[wV]at h;rcases kM:W8 x y with _|z;simp[kM]at h;simp only[kM]at h;have:(Builtin.max2 (ren m x) (ren m y)).run P w=.ok (ren m z) w:=by cases x<;>cases y<;>simp[W8]at kM;subst kM;simp[ren,Builtin.max2]
  simp only[aE,List.foldlM_cons,zK,this,zJ];exact ih h
omit hT in
def YA{x v:A}{l:Z A}(h:wV PU x l=some v):((aE m l).foldlM Builtin.min2 (ren m x)).run P w=.ok (ren m v) w:=by
 induction l generalizing x with
 |nil=>simp[wV]at h;simp[aE,h]|cons y l ih=>
  simp only[wV]at h;rcases kM:PU x y with _|z;simp[kM]at h;simp only[kM]at h;have:(Builtin.min2 (ren m x) (ren m y)).run P w=.ok (ren m z) w:=by cases x<;>cases y<;>simp[PU]at kM;subst kM;simp[ren,Builtin.min2]
  simp only[aE,List.foldlM_cons,zK,this,zJ];exact ih h
omit hT in
def QH{v:A}{y n:Nat}(h:iA v y=some n)(v05:Nat)(hY:y<=v05)(code:BoundsCode):(Instr.sliceBound (ren m v) v05 code).run P w=.ok n w/\n<=y:=by
 cases v with
 |int k i=>
  simp only[iA]at h;rcases hr:oM i (y+1)with _|_;simp[hr]at h;simp[hr]at h;subst h;have:=WV hr;refine⟨?_,by omega⟩;have h2:0<=i/\i<=(v05:Int):=by omega
  simp[Instr.sliceBound,ren,asIntOf,h2]
 |_=>simp[iA]at h
omit hT in
def JZ{isS:BQ}{n c v05:Nat}{lo hi mx:I A}{l h M:Nat}(hb:fD n c lo hi mx=some (l,h,M))(hY:c<=v05):
  (Instr.sliceBounds isS n v05 (lo.map (ren m)) (hi.map (ren m)) (mx.map (ren m))).run P w=.ok (l,h,if mx.isSome then M else v05) w/\l<=h/\(mx.isSome=true->h<=M/\M<=c)/\(mx=none->M=c/\(hi.isSome=true->h<=c)/\(hi=none->h=n)):=by
 unfold fD at hb;cases mx with
 |some v=>
  simp only at hb;rcases h1:iA v c with _|M';simp[h1]at hb;simp only[h1]at hb;rcases hi with _|u;simp at hb;simp only at hb;rcases h2:iA u M' with _|h';simp[h2]at hb;simp only[h2]at hb;have b1:=fun code=>QH (P:=P) m w h1 v05 hY code
  have b2:=fun code=>QH (P:=P) m w h2 M' (zF _) code;cases lo with
  |none=>simp at hb;obtain⟨rfl,rfl,rfl⟩:=hb;have q1:=(b1 .index).2;have q2:=(b2 .index).2;refine⟨?_,by omega,fun _=>⟨q2,q1⟩,by simp⟩;simp[Instr.sliceBounds,(b1 _).1,(b2 _).1]
  |some x=>
   simp only at hb;rcases h3:iA x h' with _|l';simp[h3]at hb;simp[h3]at hb;obtain⟨rfl,rfl,rfl⟩:=hb;have b3:=fun code=>QH (P:=P) m w h3 h' (zF _) code
   have q1:=(b1 .index).2;have q2:=(b2 .index).2;have q3:=(b3 .index).2;refine⟨?_,q3,fun _=>⟨q2,q1⟩,by simp⟩;simp[Instr.sliceBounds,(b1 _).1,(b2 _).1,(b3 _).1]
 |none=>
  simp only at hb;cases hi with
  |some u=>
   simp only at hb;rcases h2:iA u c with _|h';simp[h2]at hb;simp only[h2]at hb;have b2:=fun code=>QH (P:=P) m w h2 v05 hY code
   have q2:=(b2 .index).2;cases lo with
   |none=>simp at hb;obtain⟨rfl,rfl,rfl⟩:=hb;refine⟨?_,by omega,by simp,fun _=>⟨rfl,fun _=>q2,by simp⟩⟩;simp[Instr.sliceBounds,(b2 _).1]
   |some x=>
    simp only at hb;rcases h3:iA x h' with _|l';simp[h3]at hb;simp[h3]at hb;obtain⟨rfl,rfl,rfl⟩:=hb;have b3:=fun code=>QH (P:=P) m w h3 h' (zF _) code
    have q3:=(b3 .index).2;refine⟨?_,q3,by simp,fun _=>⟨rfl,fun _=>q2,by simp⟩⟩;simp[Instr.sliceBounds,(b2 _).1,(b3 _).1]
  |none=>
   simp only at hb;cases lo with
   |none=>simp at hb;obtain⟨rfl,rfl,rfl⟩:=hb;refine⟨?_,by omega,by simp,by simp⟩;simp[Instr.sliceBounds]
   |some x=>
    simp only at hb;rcases h3:iA x n with _|l';simp[h3]at hb;simp[h3]at hb;obtain⟨rfl,rfl,rfl⟩:=hb;have b3:=fun code=>QH (P:=P) m w h3 n (zF _) code
    have q3:=(b3 .index).2;refine⟨?_,q3,by simp,by simp⟩;simp[Instr.sliceBounds,(b3 _).1]
def z4a{lo hi mx:I A}(h:mN T t x lo hi mx=some v):
  (Instr.sliceAt t (ren m x) (lo.map (ren m)) (hi.map (ren m)) (mx.map (ren m))).run P w=.ok (ren m v) w:=by
 unfold mN at h;rcases hd:T.und t with _|d;simp[hd]at h;simp only[hd]at h;have hu:=eU hT w hd;cases d with
 |string=>
  cases x with
  |string s=>
   simp only at h;cases mx with
   |some _=>simp at h|none=>
    simp only at h;rcases hb:fD s.data.toList.length s.data.toList.length lo hi none with _|r;simp only[hb]at h;cases h;obtain⟨l,hh,M⟩:=r;simp only[hb,zA]at h;subst h;obtain⟨h1,_,_,_⟩:=JZ (P:=P) (isS:=false) m w hb (zF _);have eA:s.size=s.data.toList.length:=rfl;simp only[Option.map_none]at h1;simp only[Instr.sliceAt,zK,hu,zJ,Instr.slice,ren,Option.map_none,Option.isSome_none,Bool.false_eq_true,if_false,eA,h1,zL];have e3:s.extract l hh=⟨((s.data.toList.take hh).drop l).toArray⟩:=by apply ByteArray.ext;rw[ByteArray.data_extract];apply Array.ext';simp[List.drop_take]
    rw[e3]
  |_=>simp at h
 |slice e=>
  cases x with
  |slice a n c=>
   simp only at h;cases hc:Nat.blt c bP with
   |false=>
    simp only[hc,zD]at h;unfold emptyS at h;rcases a with _|a;simp at h;cases n with
    |succ n=>simp at h|zero=>
     simp only at h;rcases hb:fD 0 0 lo hi mx with _|r;simp[hb]at h;obtain⟨l,hh,M⟩:=r;simp only[hb]at h;cases l with
     |succ l=>simp at h|zero=>
      cases hh with
      |succ l=>simp at h|zero=>
       cases M with
       |succ l=>simp at h|zero=>
        simp only at h;rcases hs:c6 T e with _|sz;simp[hs]at h;simp only[hs,zA]at h;subst h;obtain⟨h1,_,_,_⟩:=JZ (P:=P) (isS:=true) (v05:=bU m a.block c) m w hb (Nat.zero_le _);cases mx with
        |none=>simp only[Option.isSome_none,Bool.false_eq_true,if_false]at h1;simp only[Instr.sliceAt,zK,hu,zJ,Instr.slice,ren,h1,lG hT w hs,zL,zM,Nat.zero_mul,Nat.sub_zero,uH,Nat.add_zero,ite_self]|some vm=>
         simp only[Option.isSome_some,if_true,zM]at h1;have h0:bU m a.block 0=0:=by simp[bU,bP]
         simp only[Instr.sliceAt,zK,hu,zJ,Instr.slice,ren,h1,lG hT w hs,zL,zM,Nat.zero_mul,Nat.sub_zero,uH,Nat.add_zero,ite_self,h0]
   |true=>
    simp only[hc,zC]at h;have lI:c<bP:=by simpa[Nat.blt_eq]using hc
    rcases hb:fD n c lo hi mx with _|r;simp[hb]at h;obtain⟨l,hh,M⟩:=r;simp only[hb]at h;rcases hs:c6 T e with _|sz;simp[hs]at h;simp only[hs,zA]at h;subst h;have gH:∀i,bU m i c=c:=fun i=>by simp[bU,lI]
    obtain⟨h1,h2,h3,h4⟩:=JZ (P:=P) (isS:=true) (v05:=c) m w hb (zF _);have hM:(if mx.isSome then M else c)=M:=by rcases mx with _|v;simp[(h4 rfl).1];simp
    rw[hM]at h1;have HN:M-l<bP:=by rcases mx with _|v;have:=(h4 rfl).1;omega;have:=(h3 rfl).2;omega
    cases a with|none=>simp only[Instr.sliceAt,zK,hu,zJ,Instr.slice,ren,h1,lG hT w hs,zL,beq_eq];by_cases e:M=l<;>simp[e,ren]|some a=>simp only[Instr.sliceAt,zK,hu,zJ,Instr.slice,ren,gH,h1,lG hT w hs,zL,beq_eq];by_cases e:M=l;simp[e,ren,bU,bP];simp[e,ren,bU,HN,uH,Nat.add_assoc]
  |chan r=>
   rcases r with _|r;simp at h;simp only at h;rcases hb:fD 0 0 lo hi mx with _|q;simp[hb]at h;obtain⟨l,hh,M⟩:=q;simp only[hb]at h;rcases hs:c6 T e with _|sz;simp[hs]at h;simp only[hs,zA]at h;subst h;obtain⟨h1,h2,h3,h4⟩:=JZ (P:=P) (isS:=true) (v05:=0) m w hb (zF _);have hz:l=0/\hh=0/\M=0:=by
    cases mx with
    |none=>obtain⟨q1,q2,q3⟩:=h4 rfl;rcases hi with _|v;have:=q3 rfl;omega;have:=q2 rfl;omega
    |some v=>have:=h3 rfl;omega
   obtain⟨rfl,rfl,rfl⟩:=hz;simp only[ite_self]at h1;simp only[Instr.sliceAt,zK,hu,zJ,Instr.slice,ren,h1,lG hT w hs,zL,if_true,Nat.sub_zero]
  |_=>simp at h
 |array n e=>
  cases x with
  |pointer p=>
   rcases p with _|a;simp at h;simp only at h;rcases hb:fD n n lo hi mx with _|r;simp only[hb]at h;cases h;obtain⟨l,hh,M⟩:=r;simp only[hb]at h;rcases hs:c6 T e with _|sz;simp[hs]at h;simp only[hs]at h;rcases hn:Nat.blt n bP with _|_;simp[hn]at h;simp only[hn,zC,zA]at h;subst h;have AT:n<bP:=by simpa[Nat.blt_eq]using hn
   obtain⟨h1,h2,h3,h4⟩:=JZ (P:=P) (isS:=false) (v05:=n) m w hb (zF _);have hM:(if mx.isSome then M else n)=M:=by rcases mx with _|v;simp[(h4 rfl).1];simp
   rw[hM]at h1;have HN:M-l<bP:=by rcases mx with _|v;have:=(h4 rfl).1;omega;have:=(h3 rfl).2;omega
   simp only[Instr.sliceAt,zK,hu,zJ,Instr.sureAddr,ren,h1,lG hT w hs,zL,beq_eq];by_cases e:M=l;simp[e,bU,bP];simp[e,bU,HN,uH,Nat.add_assoc]
  |_=>simp at h
 |_=>simp at h
def z84{tm:Z A}{a:Act}(ha:a.tmps=⟨aE m tm⟩)(o:Oper)(h:gT T tm o.op=some v):(execOp a.eval o).run P w=.ok (.value (ren m v)) w:=by
 obtain⟨dst,op,type,pos,after,guard⟩:=o;simp only at h;unfold gT at h;cases op with
 |move x=>simp only at h;simp[execOp,kJ ha h]|assign x=>simp only at h;simp[execOp,kJ ha h]
 |pick c x y=>
  simp only at h;rcases hc:evalO tm c with _|cv;simp[hc]at h;cases cv with
  |bool b=>rcases b with _|_;simp only[hc]at h;simp[execOp,kJ ha hc,kJ ha h,ren,asBool];simp only[hc]at h;simp[execOp,kJ ha hc,kJ ha h,ren,asBool]
  |_=>simp[hc]at h
 |build t ps=>
  simp only at h;rcases hp:FR tm ps.toList with _|qs;simp[hp]at h;simp only[hp]at h;have e1:(ps.map fun x=>(x.1,a.eval x.2))=(qs.map fun p=>(p.1,ren m p.2)).toArray:=by rw[<-dp ha hp];cases ps;simp
  have:=z1u hT m w h;rw[<-e1]at this;simp only[execOp,zK];rw[this];rfl
 |nilCheck x=>
  simp only at h;rcases hx:evalO tm x with _|u;simp[hx]at h;have he:=kJ ha hx;cases u with
  |pointer p=>rcases p with _|q;simp[hx]at h;simp[hx]at h;subst h;simp[execOp,he,ren]
  |func fn x y=>cases fn with|func f=>simp[hx]at h;subst h;simp[execOp,he,ren]|_=>simp[hx]at h
  |_=>simp[hx]at h
 |binOp op t x y ty=>simp only at h;rcases hx:evalO tm x with _|u;simp[hx]at h;rcases hy:evalO tm y with _|u';simp[hx,hy]at h;simp only[hx,hy]at h;have:=Cn hT m w op x y h;simp only[execOp,kJ ha hx,kJ ha hy];rw[zK,this];rfl
 |unOp op t x=>simp only at h;rcases hx:evalO tm x with _|u;simp[hx]at h;simp only[hx]at h;simp[execOp,kJ ha hx,v17 m w h]
 |convert s d x=>simp only at h;rcases hx:evalO tm x with _|u;simp[hx]at h;simp only[hx]at h;simp[execOp,kJ ha hx,z6x hT m w h]
 |makeFunc fn first cap=>
  simp only at h;rcases hx:jP tm first.toList with _|u
  simp[hx]at h;rcases hy:jP tm cap.toList with _|u';simp[hx,hy]at h;simp only[hx,hy,zA]at h;subst h;simp[execOp,sO ha hx,sO ha hy,Instr.makeFunc,ren]
 |slice t x lo hi mx=>simp only at h;rcases hx:evalO tm x with _|u;simp[hx]at h;rcases h1:oZ tm lo with _|l;simp[hx,h1]at h;rcases h2:oZ tm hi with _|hh;simp[hx,h1,h2]at h;rcases h3:oZ tm mx with _|mm;simp[hx,h1,h2,h3]at h;simp only[hx,h1,h2,h3]at h;have:=z4a hT m w h;simp only[execOp,kJ ha hx,MC ha h1,MC ha h2,MC ha h3];rw[zK,this];rfl
 |fieldAddr t x f=>simp only at h;rcases hx:evalO tm x with _|u;simp[hx]at h;simp only[hx]at h;simp[execOp,kJ ha hx,qvs hT m w h]
 |field t x f=>simp only at h;rcases hx:evalO tm x with _|u;simp[hx]at h;simp only[hx]at h;simp[execOp,kJ ha hx,z2o hT m w h]
 |indexAddr t x i=>simp only at h;rcases hx:evalO tm x with _|u;simp[hx]at h;rcases hy:evalO tm i with _|u';simp[hx,hy]at h;simp only[hx,hy]at h;simp[execOp,kJ ha hx,kJ ha hy,qvu hT m w h]
 |index t x i=>simp only at h;rcases hx:evalO tm x with _|u;simp[hx]at h;rcases hy:evalO tm i with _|u';simp[hx,hy]at h;simp only[hx,hy]at h;simp[execOp,kJ ha hx,kJ ha hy,z2x hT m w h]
 |extract x i=>simp only at h;rcases hx:evalO tm x with _|u;simp[hx]at h;simp only[hx]at h;simp[execOp,kJ ha hx,qvq m w h]
 |call c=>
  obtain⟨callee,args,ats⟩:=c;simp only at h;cases callee with
  |builtin b=>
   cases b with
   |len=>simp only at h;rcases hx:jP tm args.toList with _|vs;simp[hx]at h;rcases vs with _ |⟨x,_ |⟨y,l⟩⟩;simp[hx]at h;obtain⟨ats⟩:=ats;rcases ats with _|⟨t,ts⟩;simp[hx]at h;simp only[hx]at h;have e1:=sO ha hx;simp only[aE]at e1;have:=YF hT m w (ty:=type) (ts:=ts) h;simp only[execOp,zK,resolve,zL,zJ,invoke,builtin,e1];rw[this];rfl;simp[hx]at h
   |cap=>simp only at h;rcases hx:jP tm args.toList with _|vs;simp[hx]at h;rcases vs with _ |⟨x,_ |⟨y,l⟩⟩;simp[hx]at h;obtain⟨ats⟩:=ats;rcases ats with _|⟨t,ts⟩;simp[hx]at h;simp only[hx]at h;have e1:=sO ha hx;simp only[aE]at e1;have:=Ch hT m w (ty:=type) (ts:=ts) h;simp only[execOp,zK,resolve,zL,zJ,invoke,builtin,e1];rw[this];rfl;simp[hx]at h
   |max=>simp only at h;rcases hx:jP tm args.toList with _|vs;simp[hx]at h;rcases vs with _|⟨x,l⟩;simp[hx]at h;simp only[hx]at h;have e1:=sO ha hx;simp only[aE]at e1;have:=YB (P:=P) m w h;simp only[execOp,zK,resolve,zL,zJ,invoke,builtin,e1,Builtin.max_];rw[this];rfl
   |min=>simp only at h;rcases hx:jP tm args.toList with _|vs;simp[hx]at h;rcases vs with _|⟨x,l⟩;simp[hx]at h;simp only[hx]at h;have e1:=sO ha hx;simp only[aE]at e1;have:=YA (P:=P) m w h;simp only[execOp,zK,resolve,zL,zJ,invoke,builtin,e1,Builtin.min_];rw[this];rfl
   |_=>simp at h
  |_=>simp at h
 |_=>simp at h
end
def wW.cell{m:Nm}{i:Nat}{l:Z A}{e:O}{w:Tz}{md:Nat}(h:wW m i l e w md){j:Nat}{v:A}(hj:l[j]? = some v):
  w.cell? ⟨m.blk i,m.sh i+j,none⟩=some (ren m v):=by have aH:j<l.length:=(zG.1 hj).1;rcases md with _ |_ |n;obtain⟨h0,h1⟩:=h;simp[World.cell?,h1,h0,lD,hj];obtain⟨c,e',fr,h1,h2,_⟩:=h;simp[World.cell?,h1,h2 j v hj];obtain⟨pr,rest,h1,h2,_⟩:=h;simp only[World.cell?,h1,Option.isSome_none,Bool.false_eq_true,if_false,List.getElem?_toArray,zT,<-h2];rw[List.getElem?_append_right (by omega),Nat.add_sub_cancel_left,List.getElem?_append_left (by simpa using aH)];simp[lD,hj]
def run_getObj_map{P:Uz}{w:Tz}{r:Nat}{es:Bo MapEntry}{c:Nat}(h:w.heap[r]? = some (.map es c)):(getObj r).run P w=.ok (.map es c) w:=by simp[getObj,Sem.run,h]
variable{s:S}
def zl{i:Nat}{l:Z A}{e:O}{md:Nat}(h:cE s i=some (l,e,md)):lk s.h i=some (.inl (l,e,md))/\md≠1:=by unfold cE at h;rcases hl:lk s.h i with _|b;simp[hl]at h;rcases b with⟨l',e',md'⟩|⟨es,c⟩;rcases md' with _ |_ |n<;>simp[hl]at h<;>obtain⟨rfl,rfl,rfl⟩:=h<;>simp;simp[hl]at h
def Nw{a b:Nat}(h:Nat.blt a b=false):¬ a<b:=fun aH=>by
 have:Nat.blt a b=true:=Nat.ble_eq_true_of_le aH;rw[this]at h;cases h
def G1{a b:Nat}(h:Nat.blt a b=true):a<b:=zY h
def qwe(c b k:Nat)(h:b<=c):c+k-b=c-b+k:=by omega
def qtb{c:Nat}(h:bP<=c)(k:Nat):bI (c+k)=bI c+k:=qwe c bP k h
section
variable{P:Uz}{T:Tb}(hT:iK P T)(m:Nm)(w:Tz)
include hT
variable{t:O}
variable{v:A}
def qyk(hf:Fits m s w){i off:Nat}{l:Z A}{e:O}{md:Nat}(hl:lk s.h i=some (.inl (l,e,md)))
  (h:(match T.und t with
    |none=>none|some d=>cond (p9 d) (match c6 T t with
      |some n=>match u9 l off n with
       |some cs=>some (Value.agg cs.toArray)|none=>none
      |none=>none) (nth l off))=some v):
  (loadVar t ⟨m.blk i,m.sh i+off,none⟩).run P w=.ok (ren m v) w:=by
 have hr:wW m i l e w md:=hf.ok i _ hl;rcases hd:T.und t with _|d;simp[hd]at h;simp only[hd]at h;unfold loadVar;simp only[zK,qqt hT w hd,zJ];cases Aw:p9 d with
 |true=>
  simp only[Aw,zC]at h;rcases hs:c6 T t with _|n;simp[hs]at h;simp only[hs]at h;rcases hg:u9 l off n with _|cs;simp[hg]at h;simp only[hg,zA]at h;subst h;have aN:(aE m cs).length=n:=by rw[vI];exact eo hg
  have:=run_loadCells_list (P:=P) w ⟨m.blk i,m.sh i+off,none⟩ (aE m cs) (fun j u hu=>by rw[lD,List.getElem?_map]at hu;rcases hc:cs[j]? with _|u';simp[hc]at hu;simp[hc]at hu;subst hu;rw[uH,Nat.add_assoc];exact hr.cell (z06 hg hc));rw[aN]at this;simp[lG hT w hs,this,ren]
 |false=>simp only[Aw,zD,i9]at h;have:=hr.cell h;simp[this]
def z2y{K:O->A->BQ}{d:Nat}{b:BQ}(hK:∀t v w,K t v=true->(Instr.checkKey b d t (ren m v)).run P w=.ok () w)(cs:Z A)(fs:Z Field)(h:Ky T K cs fs=true):
  (forIn fs PUnit.unit (fun f _=>
    if f.name ≠ "_" then (do
     let x <-part f.type ⟨aE m cs⟩ f.offset
     Instr.checkKey b d f.type x
     pure (ForInStep.yield PUnit.unit))
    else pure (ForInStep.yield PUnit.unit)):Sem PUnit).run P w=.ok PUnit.unit w:=by induction fs with|nil=>simp|cons f fs ih=>simp only[Ky]at h;simp only[List.forIn_cons];split at h;rename_i hn;rcases hp:DY T f.type cs f.offset with _|v;simp[hp]at h;simp only[hp]at h;rcases hk:K f.type v with _|_;simp[hk]at h;simp only[hk,zC]at h;have h1:=Mq hT m w hp;have h2:=hK f.type v w hk;simp only[hn,ne_eq,not_false_eq_true,if_true,zK,h1,zJ,h2,zL];exact ih h;rename_i hn;simp only[hn,if_false,zK,zL,zJ];exact ih h
def Lm(b:BQ)(d k:Nat)(w:Tz)(h:o7 T d t v=true):(Instr.checkKey b (d+k) t (ren m v)).run P w=.ok () w:=by
 induction d generalizing t v w with
 |zero=>simp[o7]at h|succ d ih=>
  have GX:d+1+k=(d+k)+1:=by omega
  rw[GX];simp only[o7]at h;rcases hd:T.und t with _|ty;simp[hd]at h;have hu:=eU hT w hd;cases ty with
  |int kk=>simp[Instr.checkKey,hu]|string=>simp[Instr.checkKey,hu]
  |bool=>simp[Instr.checkKey,hu]|struct fs=>
   simp only[hd]at h;cases v with
   |agg cs=>obtain⟨cs⟩:=cs;simp only at h;have:=z2y hT m w (b:=b) (d:=d+k) (fun t v w hk=>ih w hk) cs fs.toList h;simp only[Instr.checkKey,zK,hu,zJ,ren,kS];rw[<-Array.forIn_toList,this];rfl
   |_=>simp at h
  |_=>simp[hd]at h
def qx1{kt:O}{k:A}(es:Z MapEntry)(i:Nat){r:I (Nat×A)}(h:oK T kt k es i=some r):
  (Instr.findAsking kt (ren m k) (es.map (dM m)) i).run P w=.ok (r.map fun p=>(p.1,ren m p.2)) w:=by induction es generalizing i with|nil=>simp[oK]at h;subst h;simp[Instr.findAsking]|cons e es ih=>simp only[oK]at h;rcases he:eqv T 50 kt k e.key with _|b;simp[he]at h;have hq:=Zz hT m w he;rcases b with _|_;simp only[he]at h;simpa[Instr.findAsking,dM,hq]using ih (i+1) h;simp[he]at h;subst h;simp[Instr.findAsking,dM,hq]
omit hT in
def Y8{kt:O}{d:TypeDesc}(hd:T.und kt=some d){k:A}(es:Z MapEntry)(i:Nat){r r':I (Nat×A)}(h:oK T kt k es i=some r)
  (h':Instr.findNow d (ren m k) (es.map (dM m)) i=some r'):r'=r.map fun p=>(p.1,ren m p.2):=by
 induction es generalizing i with
 |nil=>simp[oK]at h;subst h;simp[Instr.findNow]at h';simp[<-h']|cons e es ih=>
  simp only[oK]at h;simp only[zQ,Instr.findNow]at h';rcases he:eqv T 50 kt k e.key with _|b;simp[he]at h;have key:∀b',Instr.sameNow d (ren m k) (dM m e).key=some b'->b'=b:=by intro b' bV;simp only[dM]at bV;rcases qp9 he with⟨x,y,hx,hy⟩|⟨kk,x,k',y,hx,hy⟩|⟨x,y,hx,hy⟩|⟨x,y,hx,hy⟩|⟨x,n,c,y,n',c',hx,hy⟩|⟨x,y,hx,hy⟩|⟨x,y,hx,hy⟩|⟨x,n,c,hx,hy⟩;rw[hx,hy]at bV he;cases d<;>simp[Instr.sameNow,ren]at bV;simp[eqv,hd]at he;exact bV.symm.trans he;rw[hx,hy]at bV he;cases d<;>simp[Instr.sameNow,ren]at bV;simp[eqv,hd]at he;exact bV.2.symm.trans he.2;rw[hx,hy]at bV he;cases d<;>simp[Instr.sameNow,ren]at bV;simp[eqv,hd]at he;rw[<-bV,<-he,ze,beq_toListBytes,ByteArray.toList_eq,ByteArray.toList_eq];rw[hx,hy]at bV;cases x<;>cases y<;>cases d<;>simp[Instr.sameNow,ren]at bV;rw[hx,hy]at bV;cases x<;>cases y<;>cases d<;>simp[Instr.sameNow,ren]at bV;rw[hx,hy]at bV;cases x<;>cases y<;>cases d<;>simp[Instr.sameNow,ren]at bV;rw[hx,hy]at bV;cases d<;>simp[Instr.sameNow,ren]at bV;rw[hx,hy]at bV;cases d<;>simp[Instr.sameNow,ren]at bV
  rcases hsn:Instr.sameNow d (ren m k) (dM m e).key with _|b';simp[hsn]at h';have:=key b' hsn;subst this;rcases b' with _|_;simp only[he]at h;simp only[hsn]at h';exact ih (i+1) h h';simp[he]at h;subst h;simp[hsn]at h';simp[<-h',dM]
def JS{kt:O}{d:TypeDesc}(hd:T.und kt=some d){k:A}{es:Z MapEntry}{r:I (Nat×A)}(h:oK T kt k es 0=some r):
  (Instr.findKey kt (ren m k) (es.map (dM m))).run P w=.ok (r.map fun p=>(p.1,ren m p.2)) w:=by unfold Instr.findKey;simp only[zK,eU hT w hd,zJ];rcases hn:Instr.findNow d (ren m k) (es.map (dM m)) 0 with _|r';exact qx1 hT m w es 0 h;simp[Y8 m hd es 0 h hn]
omit hT in
def Zv{d:Nat}{kt:O}{v:A}(h:o7 T d kt v=true):∃ty,T.und kt=some ty:=by cases d with|zero=>simp[o7]at h|succ d=>simp only[o7]at h;rcases hd:T.und kt with _|ty;simp[hd]at h;exact⟨ty,rfl⟩
omit hT in
def nj{s:S}{i sz:Nat}{l:Z A}(h:BZ s i sz=some l):∃e md,lk s.h i=some (.inl (l,e,md))/\(md=1/\e=sz+1\/md=sz+2):=by unfold BZ at h;rcases hl:lk s.h i with _|b;simp[hl]at h;rcases b with⟨l',e',md'⟩|⟨es,c⟩;rcases md' with _ |_ |n;simp[hl]at h;simp only[hl,beq_eq]at h;by_cases he:e'=sz+1;simp only[he,yC,zC,zA]at h;subst h;exact⟨_,_,rfl,.inl ⟨rfl,he⟩⟩;simp[he]at h;simp only[hl,beq_eq]at h;by_cases he:n=sz;simp only[he,yC,zC,zA]at h;subst h;exact⟨_,_,rfl,.inr (by rw[he])⟩;simp[he]at h;simp[hl]at h
omit hT in
def Zm{s:S}(hf:Fits m s w){i c sz:Nat}{l:Z A}(hl:BZ s i (sz+1)=some l){off n:Nat}(ho:off=bI c*(sz+1))(hn:off+n*(sz+1)<=l.length):n+bI c<=m.cp i:=by
 obtain⟨e,md,hl,oD⟩:=nj hl;have h3:l.length<=m.cp i*(sz+1):=by rcases oD with⟨rfl,rfl⟩|rfl;obtain⟨_,_,_,_,_,h3⟩:=hf.ok i _ hl;exact h3 _ rfl;obtain⟨pr,rest,_,_,h3⟩:=hf.ok i _ hl;omega
 have:(n+bI c)*(sz+1)<=m.cp i*(sz+1):=by rw[Nat.add_mul];omega
 exact Nat.le_of_mul_le_mul_right this (by omega)
def z0b(hf:Fits m s w){x:A}{lo hi mx:I A}(h:E5 T s t x lo hi mx=some v):
  (Instr.sliceAt t (ren m x) (lo.map (ren m)) (hi.map (ren m)) (mx.map (ren m))).run P w=.ok (ren m v) w:=by
 unfold E5 at h;rcases hd:T.und t with _|dd;simp[hd]at h;cases dd with
 |slice e=>
  cases x with
  |slice p n c=>
   rcases p with _|a;simp[hd]at h;simp only[hd]at h;cases hc:Nat.blt c bP with
   |true=>simp[hc]at h|false=>
    have lI:¬ c<bP:=Nw hc;simp only[hc,zD]at h;rcases hs:c6 T e with _|sz;simp[hs]at h;simp only[hs]at h;rcases hr:BZ s a.block sz with _|l;simp[hr]at h;simp only[hr,beq_eq]at h;by_cases dO:a.off=bI c*sz;rw[decide_eq_true dO]at h;simp only[zC]at h;rcases eX:Nat.blt 0 sz with _|_;simp[eX]at h;have qC:0<sz:=G1 eX;simp only[eX,zC]at h;obtain⟨sz,rfl⟩:∃q,sz=q+1:=⟨sz-1,by omega⟩;obtain⟨_,_,AW,_⟩:=nj hr;have hl:=hr;have fU:=hf.bd _ _ AW;have rD:ren m (.slice (some a) n c)=.slice (some ⟨m.blk a.block,m.sh a.block+a.off,none⟩) n (m.cp a.block-bI c):=by simp[ren,bU,lI]
    have yV:(l.length-a.off)/(sz+1)<=m.cp a.block-bI c:=by
     rcases Nat.eq_zero_or_pos ((l.length-a.off)/(sz+1))with h0 |hp;omega;have pG:=Nat.div_mul_le_self (l.length-a.off) (sz+1);have AY:a.off<=l.length:=by rcases Nat.lt_or_ge l.length a.off with aH |AY;rw[show l.length-a.off=0 by omega]at hp;simp at hp;exact AY
     have:=Zm m w hf (c:=c) (n:=(l.length-a.off)/(sz+1)) (off:=a.off) hl dO (by omega);omega
    have hu:=eU hT w hd;cases mx with
    |some vm=>
     simp only at h;rcases hb1:iA vm ((l.length-a.off)/(sz+1))with _|M0;simp[hb1]at h;simp only[hb1]at h;rcases nX:Nat.ble (a.off+M0*(sz+1)) l.length with _|_;simp[nX]at h;simp only[nX,zC]at h;rcases hb:fD n M0 lo hi (some vm)with _|q;simp[hb]at h;obtain⟨l1,hh,M⟩:=q;simp only[hb]at h;rcases hMc:Nat.blt M bP with _|_;simp[hMc]at h;simp only[hMc,zC,zA]at h;subst h;have Ax:M<bP:=G1 hMc;have W?:M0<=m.cp a.block-bI c:=by have:=(QH (P:=P) m w hb1 _ (zF _) .index).2;omega
     obtain⟨b1,b2,b3,_⟩:=JZ (P:=P) (isS:=true) m w hb W?;simp only[Option.isSome_some,if_true,zM]at b1;have HN:M-l1<bP:=Nat.lt_of_le_of_lt (Nat.sub_le _ _) Ax;have cG:(Instr.sliceAt t (ren m (.slice (some a) n c)) (lo.map (ren m)) (hi.map (ren m)) ((some vm).map (ren m))).run P w=.ok (.slice (if M=l1 then some ⟨m.blk a.block,m.sh a.block+a.off,none⟩else some ⟨m.blk a.block,m.sh a.block+a.off+l1*(sz+1),none⟩) (hh-l1) (M-l1)) w:=by rw[rD];simp only[Instr.sliceAt,zK,hu,zJ,Instr.slice,b1,lG hT w hs,zL,zM,uH]
     rw[cG];by_cases yY:M=l1;rw[yY]at HN ⊢;simp only[yC,zC,ren,if_true,bU,if_pos HN];simp only[decide_eq_false yY,zD,ren,if_neg yY,bU,if_pos HN,Nat.add_assoc]
    |none=>
     simp only at h;rcases hb:fD n ((l.length-a.off)/(sz+1)) lo hi none with _|q;simp[hb]at h;obtain⟨l1,hh,M⟩:=q;simp only[hb]at h;rcases nX:Nat.ble (a.off+hh*(sz+1)) l.length with _|_;simp[nX]at h;simp only[nX,zC]at h;have ZZ:a.off+hh*(sz+1)<=l.length:=zY nX;have hhC:=Zm m w hf (c:=c) (n:=hh) (off:=a.off) hl dO ZZ;obtain⟨b1,b2,_,b4⟩:=JZ (P:=P) (isS:=true) m w hb yV;simp only[Option.isSome_none,Bool.false_eq_true,if_false]at b1;have cG:(Instr.sliceAt t (ren m (.slice (some a) n c)) (lo.map (ren m)) (hi.map (ren m)) ((none:I A).map (ren m))).run P w=.ok (.slice (if m.cp a.block-bI c=l1 then some ⟨m.blk a.block,m.sh a.block+a.off,none⟩else some ⟨m.blk a.block,m.sh a.block+a.off+l1*(sz+1),none⟩) (hh-l1) (m.cp a.block-bI c-l1)) w:=by rw[rD];simp only[Instr.sliceAt,zK,hu,zJ,Instr.slice,b1,lG hT w hs,zL,zM,uH]
     cases l1 with
     |zero=>simp only[zA]at h;subst h;rw[Nat.sub_zero,Nat.sub_zero,Nat.zero_mul,Nat.add_zero]at cG;by_cases hC:m.cp a.block-bI c=0;rw[if_pos hC]at cG;rw[cG];simp only[ren,bU,if_neg lI];rw[if_neg hC]at cG;rw[cG];simp only[ren,bU,if_neg lI]|succ l1=>
      simp only at h;rcases aH:Nat.blt (l1+1) hh with _|_;simp[aH]at h;have tQ:l1+1<hh:=G1 aH;simp only[aH,zC,zA]at h;subst h;have cT:¬ m.cp a.block-bI c=l1+1:=by omega
      have sT:¬ c+(l1+1)<bP:=fun hh=>lI (Nat.lt_of_le_of_lt (Nat.le_add_right _ _) hh);have B1:bI (c+(l1+1))=bI c+(l1+1):=qtb (Nat.le_of_not_lt lI) _;rw[cG];simp only[ren,bU,if_neg sT,if_neg cT,B1,Nat.add_assoc,Nat.sub_sub]
    rw[decide_eq_false dO]at h;simp at h
  |_=>simp[hd]at h
 |_=>simp[hd]at h
def tf(hf:Fits m s w){tm:Z A}{a:Act}(ha:a.tmps=⟨aE m tm⟩)(o:Oper)(h:mL T tm s o.op=some v): (execOp a.eval o).run P w=.ok (.value (ren m v)) w:=by
  obtain⟨dst,op,type,pos,after,guard⟩:=o;simp only at h;unfold mL at h;cases op with
  |load t x=>
    simp only at h;rcases hx:evalO tm x with _|u;simp[hx]at h;cases u with
    |pointer p=>rcases p with _|b;simp[hx]at h;simp only[hx]at h;rcases hl:lk s.h b.block with _|blk;simp[hl]at h;rcases blk with⟨l,e,md⟩|⟨es,c⟩;simp only[hl]at h;have:=qyk hT m w hf hl h;simp[execOp,kJ ha hx,ren,Instr.loadAt,Instr.sureAddr,this];simp[hl]at h
    |_=> simp[hx]at h
  |slice t x lo hi mx=>simp only at h;rcases hx:evalO tm x with _|u;simp[hx]at h;rcases h1:oZ tm lo with _|l;simp[hx,h1]at h;rcases h2:oZ tm hi with _|hh;simp[hx,h1,h2]at h;rcases h3:oZ tm mx with _|mm;simp[hx,h1,h2,h3]at h;simp only[hx,h1,h2,h3]at h;have:=z0b hT m w hf h;simp only[execOp,kJ ha hx,MC ha h1,MC ha h2,MC ha h3];rw[zK,this];rfl
  |lookup t x k ok=>
    simp only at h;rcases hd:T.und t with _|d;simp[hd]at h;cases d with
    |map kt et=>
      simp only[hd]at h;rcases hx:evalO tm x with _|u;simp[hx]at h;cases u with
      |map r=>
        simp only[hx]at h;rcases hk:evalO tm k with _|kv;simp[hk]at h;simp only[hk]at h;rcases qF:o7 T 50 kt kv with _|_;simp[qF]at h;simp only[qF,zC]at h;obtain⟨ty,qA⟩:=Zv qF;have main : ∀ es : Z MapEntry, (match oK T kt kv es 0 with
              |none=> none|some (some (_,v))=> some (cond ok (.tuple #[v, .bool true]) v)
              |some none=> match T.inf et with
                |some (_,_,z)=> some (cond ok (.tuple #[z, .bool false]) z)|none=> none)=some v->
            (Instr.checkKey (es.map (dM m)).toArray.isEmpty 10000 kt (ren m kv)).run P w=.ok () w/\
            ((∃pi pv,(Instr.findKey kt (ren m kv) (es.map (dM m))).run P w=.ok (some (pi,pv)) w/\ren m v=if ok=true then Value.tuple #[pv, .bool true]else pv)\/
             (∃z,(Instr.findKey kt (ren m kv) (es.map (dM m))).run P w=.ok none w/\(zeroValue et).run P w=.ok z w/\ren m v=if ok=true then Value.tuple #[z, .bool false]else z)):=by
          intro es he;refine⟨Lm hT m _ 50 9950 w qF, ?_⟩;rcases hfx:oK T kt kv es 0 with _|fr;simp[hfx]at he;have h2:=JS hT m w qA hfx;cases fr with
          |none=>simp only[hfx]at he;rcases hi:T.inf et with _|y;simp[hi]at he;obtain⟨y1,y2,z⟩:=y;obtain⟨hz,oN⟩:=C3 hT m w hi;simp only at hz oN;simp[hi]at he;subst he;refine .inr ⟨z,h2,hz, ?_⟩;cases ok<;>simp[ren,aE,oN]
          |some p=>obtain⟨pi,pv⟩:=p;simp[hfx]at he;subst he;refine .inl ⟨pi,ren m pv,h2, ?_⟩;cases ok<;>simp[ren,aE]
        cases r with
        |none=>simp only at h;obtain⟨h1,⟨pi,pv,h2,h3⟩|⟨z,h2,xT,h3⟩⟩:=main [] h;simp only[List.map_nil]at h1 h2;simp only[execOp,kJ ha hx,kJ ha hk,zK,Instr.lookup,eU hT w hd,zJ,ren,zL,h1,h2,h3];simp only[List.map_nil]at h1 h2;simp only[execOp,kJ ha hx,kJ ha hk,zK,Instr.lookup,eU hT w hd,zJ,ren,zL,h1,h2,xT,h3]
        |some r=>simp only at h;rcases hl:lk s.h r with _|blk;simp[hl]at h;rcases blk with x |⟨es,c⟩;simp[hl]at h;simp only[hl]at h;have hb:w.heap[m.blk r]? = some (.map (es.map (dM m)).toArray c):=hf.ok r _ hl;obtain⟨h1,⟨pi,pv,h2,h3⟩|⟨z,h2,xT,h3⟩⟩:=main es h;simp only[execOp,kJ ha hx,kJ ha hk,zK,Instr.lookup,eU hT w hd,zJ,ren,zL,run_getObj_map hb,h1,h2,h3];simp only[execOp,kJ ha hx,kJ ha hk,zK,Instr.lookup,eU hT w hd,zJ,ren,zL,run_getObj_map hb,h1,h2,xT,h3]
      |_=> simp[hx]at h
    |_=> simp[hd]at h
  |call c=>
    obtain⟨callee,args,ats⟩:=c;simp only at h;cases callee with
    |builtin b=>
      cases b with
      |len=>
        simp only at h;rcases hx:jP tm args.toList with _|vs;simp[hx]at h;rcases vs with _ |⟨x,_ |⟨y,l⟩⟩;simp[hx]at h;cases x with
        |map r=>
          obtain⟨ats⟩:=ats;rcases ats with _|⟨t,ts⟩;simp[hx]at h;simp only[hx]at h;have e1:=sO ha hx;simp only[aE]at e1;rcases hd:T.und t with _|d;simp[hd]at h;cases d with
          |map kt et=>
            simp only[hd]at h;simp only[execOp,zK,resolve,zL,zJ,invoke,builtin,e1];cases r with
            |none=>simp at h;subst h;simp[Builtin.len_,eU hT w hd,ren,goInt]|some r=>simp only at h;rcases hl:lk s.h r with _|blk;simp[hl]at h;rcases blk with x |⟨es,c⟩;simp[hl]at h;simp only[hl,zA]at h;subst h;have hb:w.heap[m.blk r]? = some (.map (es.map (dM m)).toArray c):=hf.ok r _ hl;simp[Builtin.len_,eU hT w hd,ren,goInt,run_getObj_map hb]
          |_=> simp[hd]at h
        |_=> simp[hx]at h
        simp[hx]at h
      |_=> simp at h
    |_=> simp at h
  |_=> simp at h
end
end Go.Rx
