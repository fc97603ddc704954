import Derived.Laws.StructEq
import Derived.Test.YtldlchbgolpkaaaGreatP2
set_option linter.all false
namespace Go.Rx
open Go
structure kT(P:H0)(T:Tb):Prop where
 und:∀t d,T.und t=some d->P.underlying t=some d
 inf:∀t a b z,T.inf t=some (a,b,z)->plain z=true/\∃i,P.info? t=some i/\i.size=a/\i.bytes=b/\i.zero=some z
 fn : ∀ f g, T.fn f = some g → P.funcs[f]? = some g ∧ (g.body.isSome = true → (g.name == "runtime.NumGoroutine") = false)
 eqs:∀t,T.eqs t=true->P.stoodInHeld t=false/\P.eqGuardType P.depth t=false
 mixed:P.follows .mixedOrders=true
def jD{v11:Type}(l:V v11)(n:Nat):nth l n=l[n]?:=by induction l generalizing n with|nil=>simp[nth]|cons a l ih=>cases n<;>simp[nth,ih]
variable{l:V O}
variable{n:Nat}
variable{r:V O}
def z3f(h:IV l n=some r):r=l.take n/\n<=l.length:=by induction l generalizing n r with|nil=>cases n<;>simp_all[IV]|cons v l ih=>cases n with|zero=>simp_all[IV]|succ n=>simp[IV]at h;rcases hl:IV l n with _|r';simp[hl]at h;simp[hl]at h;have⟨e,hn⟩:=ih hl;subst h;simp[e];exact hn
variable{off:Nat}
def Nk(h:xS l off n=some r):r=(l.drop off).take n/\n<=l.length-off:=by have:=z3f h;simpa using this
def G'(h:xS l off n=some r):r.length=n:=by obtain⟨rfl,hn⟩:=Nk h;simp;omega
def z7k(h:xS l off n=some r){j:Nat}{v:O}(hj:r[j]? = some v):l[off+j]? = some v:=by obtain⟨rfl,hn⟩:=Nk h;rw[List.getElem?_take]at hj;split at hj;simpa using hj;cases hj
def z6x{vs:V O}(h:GJ l vs=some r):vs.length<=l.length/\r=vs++l.drop vs.length:=by induction vs generalizing l r with|nil=>simp[GJ]at h;simp[h]|cons v vs ih=>rcases l with _|⟨x,l⟩;simp[GJ]at h;simp[GJ]at h;rcases hp:GJ l vs with _|r';simp[hp]at h;simp[hp]at h;have⟨e1,e2⟩:=ih hp;subst h;simp[e2];exact e1
def qwt{vs:V O}(h:uC l off vs=some r):off+vs.length<=l.length/\r=l.take off++vs++l.drop (off+vs.length):=by
 induction off generalizing l r with
 |zero=>
  have h':GJ l vs=some r:=by cases l<;>simpa[uC]using h
  have⟨e1,e2⟩:=z6x h';simp[e2];exact e1
 |succ n ih=>
  rcases l with _|⟨x,l⟩;simp[uC]at h;simp[uC]at h;rcases hp:uC l n vs with _|r';simp[hp]at h;simp[hp]at h;have⟨e1,e2⟩:=ih hp;subst h;simp[zO,List.take_succ_cons,List.cons_append,e2];refine⟨by omega,?_⟩;have:n+1+vs.length=(n+vs.length)+1:=by omega
  rw[this,List.drop_succ_cons]
def z2b(h:tI l=true):∀v∈l,v.oneCell'=true:=by induction l with|nil=>simp|cons v l ih=>simp[tI]at h;rcases hv:v.oneCell' with _|_;simp[hv]at h;simp[hv]at h;intro u hu;rcases zI.1 hu with rfl |hu;exact hv;exact ih h u hu
def qsd{m:Nm}(h:tI l=true):∀v∈aE m l,v.oneCell'=true:=by intro v hv;rw[kE]at hv;obtain⟨u,hu,rfl⟩:=List.mem_map.1 hv;rw[qyq];exact z2b h u hu
mutual
def C6(m:Nm):(v:O)->plain v=true->ren m v=v
 |.bool _,_=>by simp[ren]
 |.int _ _,_=>by simp[ren]
 |.string _,_=>by simp[ren]
 |.pointer none,_=>by simp[ren]
 |.slice none _ _,_=>by simp[ren]
 |.map none,_=>by simp[ren]
 |.nilFunc,_=>by simp[ren]
 |.nilIface,_=>by simp[ren]
 |.agg ⟨l⟩,h=>by simp[plain]at h;simp[ren,iu m l h]
 |.tuple ⟨l⟩,h=>by simp[plain]at h;simp[ren,iu m l h]
 |.float _ _,h=>by simp[plain]at h
 |.complex _ _ _,h=>by simp[plain]at h
 |.pointer (some _),h=>by simp[plain]at h
 |.slice (some _) _ _,h=>by simp[plain]at h
 |.map (some _),h=>by simp[plain]at h
 |.chan _,h=>by simp[plain]at h
 |.func _ _ _,h=>by simp[plain]at h
 |.iface _ _,h=>by simp[plain]at h
def iu(m:Nm):(l:V O)->RJ l=true->aE m l=l
 |[],_=>by simp[aE]
 |v::l,h=>by simp[RJ]at h;rcases hv:plain v with _|_;simp[hv]at h;simp[hv]at h;simp[aE,C6 m v hv,iu m l h]
end
def kj(a b:V Xv):lW a b=(a==b):=by
 induction a generalizing b with
 |nil=>cases b<;>simp[lW]|cons x a ih=>
  rcases b with _|⟨y,b⟩;simp[lW];simp[lW,beq_eq,ih];by_cases e:x=y;subst e;simp;have:x.toNat≠y.toNat:=fun h=>e (UInt8.toNat_inj.1 h)
  simp[this,e]
def z2k(a b:V Xv):kX a b=Op.bytesLess a b:=by
 induction a generalizing b with
 |nil=>cases b<;>simp[kX,Op.bytesLess]|cons x a ih=>
  rcases b with _|⟨y,b⟩;simp[kX,Op.bytesLess];simp[kX,Op.bytesLess,ih,beq_eq];have aF:Nat.blt x.toNat y.toNat=decide (x<y):=by rw[Bool.eq_iff_iff];simp[Nat.blt_eq,UInt8.lt_iff_toNat_lt]
  rw[aF];by_cases h1:x<y;simp[h1];by_cases e:x=y;subst e;simp;have:x.toNat≠y.toNat:=fun h=>e (UInt8.toNat_inj.1 h);simp[h1,e,this]
section
variable{P:H0}{T:Tb}(hT:kT P T)(m:Nm){tm:V O}{a:Act}(w:PL)
include hT
variable{t:TypeId}
def iK{d:TypeDesc}(h:T.und t=some d):(underlying t).run P w=.ok d w:=run_underlying (hT.und t d h) w
def o8(h:cT T t=some n):(sizeOf t).run P w=.ok n w:=by unfold cT at h;rcases hi:T.inf t with _|x;simp[hi]at h;have⟨a,b,z⟩:=x;simp[hi]at h;have⟨_,i,h1,h2,_,_⟩:=hT.inf t a b z hi;simp[sizeOf,typeInfo,h1,h2,h]
def J4{x:Nat×Nat×O}(h:T.inf t=some x):(zeroValue t).run P w=.ok x.2.2 w/\ren m x.2.2=x.2.2:=by have⟨a,b,z⟩:=x;have⟨hp,i,h1,_,_,h4⟩:=hT.inf t a b z h;exact⟨by simp[zeroValue,typeInfo,h1,h4],C6 m z hp⟩
def qxi{d:TypeDesc}(h:T.und t=some d):(isAgg t).run P w=.ok (sF d) w:=by unfold isAgg;simp[zK,iK hT w h,zJ];cases d<;>rfl
def Nl{cs:V O}{v:O}(h:GW T t cs off=some v):
  (part t ⟨aE m cs⟩ off).run P w=.ok (ren m v) w:=by
 unfold GW at h;rcases hd:T.und t with _|d;simp[hd]at h;simp[hd]at h;unfold part;simp[zK,qxi hT w hd,zJ];cases Bj:sF d with
 |true=>simp[Bj,zC]at h;rcases hs:cT T t with _|n;simp[hs]at h;simp[hs]at h;subst h;simp[if_true,zK,o8 hT w hs,zJ,zL,ren];simp[kE,List.map_drop,List.map_take]
 |false=>simp[Bj,zD,jD]at h;simp[kE,h]
def zcz{E:TypeId->O->O->M D1}{d:Nat}(hE:∀t x y b w,E t x y=some b->(Op.equalIn d t (ren m x) (ren m y)).run P w=.ok b w)
  (xs ys:V O) (fs:V Field) {b:D1} (w:PL) (h:GA T E xs ys fs=some b):
  (Op.eqFields d ⟨aE m xs⟩ ⟨aE m ys⟩ fs).run P w=.ok b w:=by induction fs generalizing w with|nil=>simp[GA]at h;simp[Op.eqFields,h]|cons f fs ih=>simp only[GA]at h;simp only[Op.eqFields];split at h;rename_i hn;simp only[hn,ne_eq,not_false_eq_true,if_true];rcases h1:GW T f.type xs f.offset with _|x;simp[h1]at h;simp[h1]at h;rcases h2:GW T f.type ys f.offset with _|y;simp[h2]at h;simp[h2]at h;rcases h3:E f.type x y with _|r;simp[h3]at h;simp[zK,Nl hT m w h1,zJ,Nl hT m w h2,hE _ _ _ _ w h3];rcases r with _|_;simp[h3]at h;simp[h];simp[h3]at h;simpa using ih w h;rename_i hn;simp[hn,if_false];exact ih w h
def Co(d k:Nat){x y:O}{b:D1}(w:PL)(h:eqv T d t x y=some b):
  (Op.equalIn (d+k) t (ren m x) (ren m y)).run P w=.ok b w:=by
 induction d generalizing t x y b w with
 |zero=>simp[eqv]at h|succ d ih=>
  have JZ:d+1+k=(d+k)+1:=by omega
  rw[JZ];simp only[eqv]at h;rcases hd:T.und t with _|ty;simp[hd]at h;have hu:=iK hT w hd;cases ty with
  |bool=>simp only[hd]at h;cases x<;>cases y<;>simp at h;subst h;simp[Op.equalIn,hu,ren]|int kk=>simp only[hd]at h;cases x<;>cases y<;>simp at h;obtain⟨rfl,h⟩:=h;simp[Op.equalIn,hu,ren,h]
  |string=>simp only[hd]at h;cases x<;>cases y<;>simp at h;subst h;rename_i s1 s2;simp only[Op.equalIn,zK,hu,ren,zJ,zL,kj];rw[beq_toListBytes,ByteArray.toList_eq,ByteArray.toList_eq]|pointer e=>
   simp only[hd]at h;cases x<;>cases y<;>try simp at h
   rename_i p q;cases p<;>cases q<;>simp at h<;>subst h<;>simp[Op.equalIn,hu,ren]
  |slice e=>
   simp only[hd]at h;cases x<;>cases y<;>try simp at h
   rename_i p _ _ q _ _;cases p<;>cases q<;>simp at h<;>subst h<;>simp[Op.equalIn,hu,ren];rename_i p q _ _;cases p<;>cases q<;>simp at h<;>subst h<;>simp[Op.equalIn,hu,ren]
  |map e e'=>
   simp only[hd]at h;cases x<;>cases y<;>try simp at h
   rename_i p q;cases p<;>cases q<;>simp at h<;>subst h<;>simp[Op.equalIn,hu,ren]
  |struct fs=>
   simp only[hd]at h;cases x<;>cases y<;>simp at h;rename_i xs ys;obtain⟨xs⟩:=xs;obtain⟨ys⟩:=ys;rcases he:T.eqs t with _|_;simp[he]at h;simp only[he,zC]at h;have zR:=hT.und t _ hd;have hfo:P.fieldsOf t=fs:=by simp[Program.fieldsOf,zR]
   simp only[ren,fF];rw[run_equalIn_struct w (d+k) t _ _ (by rw[hfo];exact zR) (hT.eqs t he).1,hfo];exact zcz hT m (fun t x y b w hh=>ih w hh) xs ys fs.toList w h
  |_=>simp[hd]at h
end
end Go.Rx
namespace Go.Rx
open Go
variable{m:Nm}
variable{tm:V O}
variable{a:Act}
variable{v:O}
def kF(ha:a.tmps=⟨aE m tm⟩){x:EW}(h:evalO tm x=some v):a.eval x=ren m v:=by
 cases x with
 |tmp t=>simp[evalO,jD]at h;simp[Act.eval,ha,kE,h]|const c=>simp[evalO]at h;rcases hp:plain c with _|_;simp[hp]at h;simp[hp]at h;subst h;simp[Act.eval,C6 m c hp]
 |func f=>simp[evalO]at h;subst h;simp[Act.eval,ren,aE]|global g=>simp[evalO]at h
def z9f(ha:a.tmps=⟨aE m tm⟩){l:V EW}{vs:V O}(h:kW tm l=some vs):l.map a.eval=aE m vs:=by induction l generalizing vs with|nil=>simp[kW]at h;subst h;simp[aE]|cons x l ih=>simp[kW]at h;rcases hx:evalO tm x with _|v;simp[hx]at h;rcases hl:kW tm l with _|r;simp[hx,hl]at h;simp[hx,hl]at h;subst h;simp[aE,kF ha hx,ih hl]
def sH(ha:a.tmps=⟨aE m tm⟩){l:H2 EW}{vs:V O}(h:kW tm l.toList=some vs):l.map a.eval=⟨aE m vs⟩:=by rw[<-z9f ha h];cases l;simp
def dz(ha:a.tmps=⟨aE m tm⟩){l:V (Nat×EW)}{vs:V (Nat×O)}(h:IY tm l=some vs):
  l.map (fun p=>(p.1,a.eval p.2))=vs.map (fun p=>(p.1,ren m p.2)):=by induction l generalizing vs with|nil=>simp[IY]at h;subst h;simp|cons x l ih=>have⟨i,x⟩:=x;simp[IY]at h;rcases hx:evalO tm x with _|v;simp[hx]at h;rcases hl:IY tm l with _|r;simp[hx,hl]at h;simp[hx,hl]at h;subst h;simp[kF ha hx,ih hl]
def O8(ha:a.tmps=⟨aE m tm⟩){x:M EW}{v:M O}(h:sD tm x=some v):x.map a.eval=v.map (ren m):=by rcases x with _|x;simp[sD]at h;subst h;rfl;simp[sD]at h;rcases hx:evalO tm x with _|u;simp[hx]at h;simp[hx]at h;subst h;simp[kF ha hx]
def qvq(op:BinOp)(t:TypeId)(x y:EW)(u v:O)(h1 : ∀a b, ¬ (u=.agg a/\v=.agg b))(h2 : ¬ (u=.nilIface/\v=.nilIface)): eqGuard op t x y u v=pure ():=by
  cases op<;>simp only[eqGuard]<;>first
    |rfl
    | (simp only [Bool.not_true, Bool.false_eq_true, if_false]
       split;simp_all;simp_all;rfl)
def z7b{c:H2 O}(h:ren m v=.agg c):∃d,v=.agg d:=by
 cases v with
 |pointer a=>cases a<;>simp[ren]at h|slice a n c=>cases a<;>simp[ren]at h
 |map r=>cases r<;>simp[ren]at h|chan r=>cases r<;>simp[ren]at h
 |agg d=>exact⟨d,rfl⟩|_=>simp[ren]at h
def qp0(h:ren m v=.nilIface):v=.nilIface:=by
 cases v with
 |pointer a=>cases a<;>simp[ren]at h|slice a n c=>cases a<;>simp[ren]at h
 |map r=>cases r<;>simp[ren]at h|chan r=>cases r<;>simp[ren]at h
 |nilIface=>rfl|_=>simp[ren]at h
def z5b(off:Nat):∀(vs:V O)(k:Nat)(cells:V O),off+k+vs.length<=cells.length->
  (vs.zipIdx k).foldl (fun(cs:H2 O) (p:O×Nat)=>cs.setIfInBounds (off+p.2) p.1) ⟨cells⟩=⟨cells.take (off+k)++vs++cells.drop (off+k+vs.length)⟩
 |[],k,cells,_=>by simp
 |v::vs,k,cells,h=>by
  simp[zO]at h;simp[List.zipIdx_cons,List.foldl_cons,List.setIfInBounds_toArray];rw[z5b off vs (k+1) (cells.set (off+k) v) (by simp;omega)];congr 1;have e1:(cells.set (off+k) v).take (off+(k+1))=cells.take (off+k)++[v]:=by rw[show off+(k+1)=off+k+1 by omega,List.take_set,List.take_succ_eq_append_getElem (by omega)];rw[List.set_append_right _ _ (by simp;omega)];simp[Nat.min_eq_left (show off+k<=cells.length by omega)]
  have e2:(cells.set (off+k) v).drop (off+(k+1)+vs.length)=cells.drop (off+k+(v::vs).length):=by rw[List.drop_set_of_lt (by omega)];congr 1;simp;omega
  rw[e1,e2];simp
def Nh(m:Nm)(place:Nat->M (Nat×Nat)):∀(ps:V (Nat×O))(cells r:V O),F4 place cells ps=some r->
  Instr.fill place ⟨aE m cells⟩ (ps.map fun p=>(p.1,ren m p.2))=some ⟨aE m r⟩
 |[],cells,r,h=>by simp[F4]at h;simp[Instr.fill,h]
 |(i,v)::ps,cells,r,h=>by
  simp only[F4]at h;rcases hp:place i with _|x;simp[hp]at h;obtain⟨off,size⟩:=x;simp only[hp,beq_eq]at h;by_cases hs:v.cells.toList.length=size;simp only[hs,yC,zC]at h;rcases hq:uC cells off v.cells.toList with _|c;simp[hq]at h;simp only[hq]at h;obtain⟨h1,h2⟩:=qwt hq;have dU:v.cells.size=size:=by simpa using hs
  simp only[zQ,Instr.fill,hp,jp,v17,dU];have fD:(decide (size≠size)||decide (off+size>(⟨aE m cells⟩:H2 O).size))=false:=by simp;simp[dU]at h1;omega
  rw[fD];simp only[Bool.false_eq_true,if_false];have Vo:((wW m v.cells).zipIdx.foldl (fun(cs:H2 O) (p:O×Nat)=>cs.setIfInBounds (off+p.2) p.1) ⟨aE m cells⟩)=⟨aE m c⟩:=by rw[<-Array.foldl_toList,Array.toList_zipIdx,lZ,z5b off _ 0 _ (by simp;simpa using h1)];rw[h2];simp[kE,List.map_drop,List.map_take]
  exact(congrArg (fun z=>Instr.fill place z (ps.map fun p=>(p.1,ren m p.2))) Vo).trans (Nh m place ps c r h);simp only[hs,yB,zD]at h;cases h
variable{t:TypeId}
variable{x:O}
variable{y:O}
def qvr{T:Tb}{d:Nat}{r:D1}(h:eqv T d t x y=some r):
  (∃a b,x=.bool a/\y=.bool b)\/(∃k a k' b,x=.int k a/\y=.int k' b)\/(∃a b,x=.string a/\y=.string b)\/(∃a b,x=.pointer a/\y=.pointer b)\/
  (∃a n c b n' c',x=.slice a n c/\y=.slice b n' c')\/(∃a b,x=.map a/\y=.map b)\/(∃a b,x=.agg a/\y=.agg b)\/(∃r n c,x=.chan (some r)/\y=.slice none n c):=by
 cases d with
 |zero=>simp[eqv]at h|succ d=>
  simp[eqv]at h;rcases hd:T.und t with _|ty;simp[hd]at h;cases ty<;>simp[hd]at h<;>first
   |(simp at h;done)
   |(cases x<;>cases y<;>first |(simp at h;done)|(simp;done)|(rename_i p q _ _;cases p<;>cases q<;>simp at h ⊢))
section
variable{P:H0}{T:Tb}(hT:kT P T)(m:Nm)(w:PL)
include hT
def z9n(op:BinOp)(ox oy:EW)(h:wY T t x y=true):(eqGuard op t ox oy (ren m x) (ren m y)).run P w=.ok () w:=by by_cases ha:∃c d,x=.agg c/\y=.agg d;obtain⟨c,d,rfl,rfl⟩:=ha;simp only[wY]at h;simp only[ren];exact run_eqGuard_agg w op t ox oy _ _ (hT.eqs t h).2;rw[qvq op t ox oy];rfl;rintro a b ⟨h1,h2⟩;obtain⟨c,rfl⟩:=z7b h1;obtain⟨d,rfl⟩:=z7b h2;exact ha ⟨c,d,rfl,rfl⟩;rintro⟨h1,h2⟩;rw[qp0 h1,qp0 h2]at h;simp[wY]at h
def xw{b:D1}(h:eqv T 50 t x y=some b):(Op.equal t (ren m x) (ren m y)).run P w=.ok b w :=
 Co hT m 50 9950 w h
def Dn(op:BinOp)(ox oy:EW)(h:rD T op t x y=some v):
  (do eqGuard op t ox oy (ren m x) (ren m y);binOp op t (ren m x) (ren m y):Sem O).run P w=.ok (ren m v) w:=by
 by_cases hi:∃k a k' b,x=.int k a/\y=.int k' b
 ·obtain⟨k,a,k',b,rfl,rfl⟩:=hi;simp only[rD]at h;simp only[ren,eqGuard_at_int,zK,zL,zJ];by_cases hk:k=k'
  ·subst hk;cases op<;>simp[kS]at h<;>first
    |(subst h;simp[binOp,Op.intArith,Op.intBits,Op.intCmp,ren];done)
    |(obtain⟨h1,rfl⟩:=h;simp[binOp,Op.intDiv,Op.shift,ren,h1];done)
    |(obtain⟨h1,rfl⟩:=h;simp[binOp,Op.shift,ren];omega)
  cases op<;>simp[kS,hk]at h<;>first
   |(obtain⟨h1,rfl⟩:=h;simp[binOp,Op.shift,ren];omega)
 ·by_cases hs:∃a b,x=.string a/\y=.string b
  ·obtain⟨a,b,rfl,rfl⟩:=hs;simp only[rD]at h;simp only[ren,eqGuard_at_string,zK,zL,zJ];have e1:a.toList=a.data.toList:=ByteArray.toList_eq a;have e2:b.toList=b.data.toList:=ByteArray.toList_eq b;cases op<;>simp[IP]at h<;>first
    |(subst h;simp[binOp,Op.stringOp,ren,e1,e2,kj,z2k];done)
    |skip
   obtain⟨h1,rfl⟩:=h;have h2:¬ ((a.size+b.size:Nat):Int)>9223372036854775807:=by have ea:a.size=a.data.size:=rfl;have eb:b.size=b.data.size:=rfl;rw[ea,eb];omega
   simp only[binOp,Op.stringOp,IntKind.max_i64,if_neg h2,zL,ren];have e3:a++b=⟨(a.data.toList++b.data.toList).toArray⟩:=by apply ByteArray.ext;simp
   rw[e3]
  have hb:(op=.eql\/op=.neq)/\wY T t x y=true/\∃r,eqv T 50 t x y=some r/\v=.bool (if op=.eql then r else !r):=by unfold rD at h;split at h;exact absurd ⟨_,_,_,_,rfl,rfl⟩ hi;exact absurd ⟨_,_,rfl,rfl⟩ hs;cases op<;>simp at h;rcases hg:wY T t x y with _|_;simp[hg]at h;rcases he:eqv T 50 t x y with _|r;simp[hg,he]at h;simp[hg,he]at h;subst h;simp;rcases hg:wY T t x y with _|_;simp[hg]at h;rcases he:eqv T 50 t x y with _|r;simp[hg,he]at h;simp[hg,he]at h;subst h;simp
  obtain⟨rL,hg,r,he,rfl⟩:=hb;have hq:=xw hT m w he;simp only[zK,z9n hT m w op ox oy hg,zJ];have pc:=qvr he;rcases rL with rfl |rfl;have key:binOp .eql t (ren m x) (ren m y)=(do pure (.bool (<-Op.equal t (ren m x) (ren m y))):Sem O):=by rcases pc with⟨a,b,rfl,rfl⟩|⟨k,a,k',b,rfl,rfl⟩|⟨a,b,rfl,rfl⟩|⟨a,b,rfl,rfl⟩|⟨a,n,c,b,n',c',rfl,rfl⟩|⟨a,b,rfl,rfl⟩|⟨a,b,rfl,rfl⟩|⟨r,n,c,rfl,rfl⟩;simp[ren,binOp];exact absurd ⟨_,_,_,_,rfl,rfl⟩ hi;exact absurd ⟨_,_,rfl,rfl⟩ hs;cases a<;>cases b<;>simp[ren,binOp];cases a<;>cases b<;>simp[ren,binOp];cases a<;>cases b<;>simp[ren,binOp];simp[ren,binOp];simp[ren,binOp]
  rw[key];simp[hq,ren];have key:binOp .neq t (ren m x) (ren m y)=(do pure (.bool (!(<-Op.equal t (ren m x) (ren m y)))):Sem O):=by rcases pc with⟨a,b,rfl,rfl⟩|⟨k,a,k',b,rfl,rfl⟩|⟨a,b,rfl,rfl⟩|⟨a,b,rfl,rfl⟩|⟨a,n,c,b,n',c',rfl,rfl⟩|⟨a,b,rfl,rfl⟩|⟨a,b,rfl,rfl⟩|⟨r,n,c,rfl,rfl⟩;simp[ren,binOp];exact absurd ⟨_,_,_,_,rfl,rfl⟩ hi;exact absurd ⟨_,_,rfl,rfl⟩ hs;cases a<;>cases b<;>simp[ren,binOp];cases a<;>cases b<;>simp[ren,binOp];cases a<;>cases b<;>simp[ren,binOp];simp[ren,binOp];simp[ren,binOp]
  rw[key];simp[hq,ren]
omit hT in
def Ll{op:UnOp}{x v:O}(h:QK op x=some v):(Op.unary op (ren m x)).run P w=.ok (ren m v) w:=by cases op<;>cases x<;>simp[QK]at h<;>subst h<;>simp[Op.unary,ren,Op.intArith,Op.intBits]
def zcu{src dst:TypeId}(h:convX T src dst x=some v):(convert src dst (ren m x)).run P w=.ok (ren m v) w:=by unfold convX at h;rcases h1:T.und src with _|d1;simp[h1]at h;rcases h2:T.und dst with _|d2;simp[h1,h2]at h;simp[h1,h2]at h;unfold convert;simp[zK,iK hT w h1,iK hT w h2,zJ];cases d2<;>cases x<;>simp at h<;>subst h<;>cases d1<;>simp[ren,Conv.intToInt]
def z2w(fs:V Field)(hs:J1 T fs=true):(fs.mapM (fun f=>do pure (f.offset,<-sizeOf f.type):Field->Sem (Nat×Nat))).run P w=.ok (fs.map fun f=>(f.offset,(cT T f.type).getD 0)) w:=by induction fs with|nil=>simp|cons f fs ih=>simp only[J1]at hs;rcases hf:cT T f.type with _|n;simp[hf]at hs;simp only[hf]at hs;have sr:=ih hs;simp only[List.mapM_cons,zK,o8 hT w hf,zJ,zL,sr,zQ,hf,Option.getD_some]
omit hT in
def z3b{fs:V Field}(hs:J1 T fs=true){i:Nat}{f:Field}(hf:fs[i]? = some f):∃n,cT T f.type=some n:=by
 induction fs generalizing i with
 |nil=>simp at hf|cons g fs ih=>
  simp[J1]at hs;rcases hg:cT T g.type with _|n;simp[hg]at hs;simp[hg]at hs;cases i with
  |zero=>simp at hf;subst hf;exact⟨n,hg⟩|succ i=>exact ih hs (by simpa using hf)
def z90{ps:V (Nat×O)}(h:Mv T t ps=some v):
  (Instr.build t (ps.map fun p=>(p.1,ren m p.2)).toArray).run P w=.ok (ren m v) w:=by
 unfold Mv at h;rcases hi:T.inf t with _|x;simp[hi]at h;obtain⟨a,b,z⟩:=x;obtain⟨hz,uI⟩:=J4 hT m w hi;simp only at hz uI;have w9:z.cells=⟨aE m z.cells.toList⟩:=by
  conv=>lhs;rw[<-uI,jp]
  cases z.cells;simp
 simp only[hi]at h;unfold Instr.build;simp only[zK,hz,zJ];rcases hd:T.und t with _|d;simp[hd]at h;simp only[iK hT w hd,zJ];cases d with
 |struct fs=>
  simp only[hd]at h;rcases hs:J1 T fs.toList with _|_;simp[hs]at h;simp only[hs,zC]at h;rcases hf:F4 (MB T fs.toList) z.cells.toList ps with _|cs;simp[hf]at h;simp[hf]at h;subst h;have hm:=z2w hT w fs.toList hs;have eF:(fs.mapM (fun f=>do pure (f.offset,<-sizeOf f.type):Field->Sem (Nat×Nat))).run P w=.ok ⟨fs.toList.map fun f=>(f.offset,(cT T f.type).getD 0)⟩ w:=by rw[Array.mapM_eq_mapM_toList];simp only[Sem.run_map,hm,zJ]
  have kI:(fun i=>(⟨fs.toList.map fun f=>(f.offset,(cT T f.type).getD 0)⟩:H2 (Nat×Nat))[i]?)=MB T fs.toList:=by
   funext i;simp only[MB,jD];rcases vG:fs.toList[i]? with _|f;simp at vG;simp[vG];obtain⟨n,hn⟩:=z3b hs vG;have:fs[i]? = some f:=by simpa using vG
   simp[this,hn]
  have mF:=Nh m (MB T fs.toList) ps z.cells.toList cs hf;simp only[zK,eF,zJ,kI];rw[w9];simp only[mF,zL,ren,fF]
 |array n e=>simp only[hd]at h;rcases hs:cT T e with _|k;simp[hs]at h;simp only[hs]at h;rcases hf:F4 (fun i=>some (i*k,k)) z.cells.toList ps with _|cs;simp[hf]at h;simp[hf]at h;subst h;have mF:=Nh m (fun i=>some (i*k,k)) ps z.cells.toList cs hf;simp only[zK,o8 hT w hs,zJ];rw[w9];simp only[mF,zL,ren,fF]
 |_=>simp[hd]at h
omit hT in
def yU(b o n:Nat):(⟨b,o,none⟩:Addr).add n=⟨b,o+n,none⟩:=Addr.add_lit b o n
def z2r{st:TypeId}{f:Nat}(h:Oa T st x f=some v):(Instr.fieldAt st (ren m x) f).run P w=.ok (ren m v) w:=by
 unfold Oa at h;rcases hd:T.und st with _|d;simp[hd]at h;cases d with
 |struct fs=>
  simp only[hd,jD]at h;rcases hf:fs.toList[f]? with _|fd;simp at hf;simp[hf]at h;have PC:fs[f]? = some fd:=by simpa using hf
  simp only[hf]at h;cases x with
  |pointer p=>rcases p with _|a;simp at h;simp only at h;rcases hs:cT T fd.type with _|n;simp[hs]at h;cases n with|zero=>simp[hs]at h|succ n=>simp[hs]at h;subst h;simp[Instr.fieldAt,iK hT w hd,PC,ren,Instr.sureAddr,fieldPlace,o8 hT w hs,yU,Nat.add_assoc]
  |_=>simp at h
 |_=>simp[hd]at h
def z9h{st:TypeId}{f:Nat}(h:Mr T st x f=some v):(Instr.field st (ren m x) f).run P w=.ok (ren m v) w:=by
 unfold Mr at h;rcases hd:T.und st with _|d;simp[hd]at h;cases d with
 |struct fs=>
  simp only[hd,jD]at h;rcases hf:fs.toList[f]? with _|fd;simp at hf;simp[hf]at h;have PC:fs[f]? = some fd:=by simpa using hf
  simp only[hf]at h;cases x with
  |agg cs=>have⟨cs⟩:=cs;simp only at h;simp[Instr.field,iK hT w hd,PC,ren,asAgg,Nl hT m w h]
  |_=>simp at h
 |_=>simp[hd]at h
omit hT in
def Y1{i:Int}{n:Nat}(h:sK i n=true):0<=i/\i<n:=by cases i with|ofNat k=>simp[sK,Nat.blt_eq]at h;exact⟨Int.natCast_nonneg k,Int.ofNat_lt.2 h⟩|negSucc k=>simp[sK]at h
def z2s{ix:O}(h:Nu T t x ix=some v):(Instr.indexAt t (ren m x) (ren m ix)).run P w=.ok (ren m v) w:=by
 unfold Nu at h;cases ix with
 |int k i=>
  simp only at h;rcases hd:T.und t with _|d;simp[hd]at h;cases d with
  |array n e=>
   simp[hd]at h;cases x with
   |pointer p=>rcases p with _|a;simp at h;simp only at h;rcases hr:sK i n with _|_;simp[hr]at h;rcases hs:cT T e with _|sz;simp[hr,hs]at h;simp[hr,hs]at h;subst h;have:=Y1 hr;simp[Instr.indexAt,asIntOf,ren,iK hT w hd,Instr.sureAddr,this,o8 hT w hs,yU,Nat.add_assoc]
   |_=>simp at h
  |slice e=>
   simp[hd]at h;cases x with
   |slice p n c=>rcases p with _|a;simp at h;simp only at h;rcases hr:sK i n with _|_;simp[hr]at h;rcases hs:cT T e with _|sz;simp[hr,hs]at h;simp[hr,hs]at h;subst h;have:=Y1 hr;simp[Instr.indexAt,asIntOf,ren,iK hT w hd,this,o8 hT w hs,yU,Nat.add_assoc]
   |_=>simp at h
  |_=>simp[hd]at h
 |_=>simp at h
def z9o{ix:O}(h:XK T t x ix=some v):(Instr.index t (ren m x) (ren m ix)).run P w=.ok (ren m v) w:=by
 unfold XK at h;cases ix with
 |int k i=>
  simp only at h;rcases hd:T.und t with _|d;simp[hd]at h;cases d with
  |array n e=>
   simp only[hd]at h;cases x with
   |agg cs=>obtain⟨cs⟩:=cs;simp only at h;rcases hr:sK i n with _|_;simp[hr]at h;rcases hs:cT T e with _|sz;simp[hr,hs]at h;simp only[hr,hs,zC]at h;have:=Y1 hr;simp[Instr.index,asIntOf,ren,iK hT w hd,this,o8 hT w hs,Nl hT m w h]
   |_=>simp at h
  |string=>
   simp only[hd]at h;cases x with
   |string s=>
    simp only[jD]at h;rcases hr:sK i s.data.toList.length with _|_;simp only[hr,zD]at h;cases h;simp only[hr,zC]at h;have hi:=Y1 hr;rcases hb:s.data.toList[i.toNat]? with _|b;simp[hb]at h;simp[hb]at h;subst h;have cP:s[i.toNat]? = some b:=by
     have:s.data[i.toNat]? = some b:=by simpa using hb
     have⟨aF,e⟩:=Array.getElem?_eq_some_iff.1 this;have xK:i.toNat<s.size:=aF;rw[getElem?_pos s i.toNat xK];exact congrArg some e
    simp[Instr.index,asIntOf,ren,iK hT w hd,hi.1,cP]
   |_=>simp at h
  |_=>simp[hd]at h
 |_=>simp at h
omit hT in
def z2p{x v:O}{i:Nat}(h:Gd x i=some v):(Instr.extract (ren m x) i).run P w=.ok (ren m v) w:=by
 cases x with
 |tuple vs=>have⟨vs⟩:=vs;simp[Gd,jD]at h;simp[Instr.extract,ren,kE,h]
 |_=>simp[Gd]at h
end
section
variable{P:H0}{T:Tb}(hT:kT P T)(m:Nm)(w:PL)
include hT
variable{t:TypeId}
variable{x:O}
variable{v:O}
def ZI{ty:TypeId}{ts:V TypeId}(h:FR T t x=some v):(Builtin.len_ (t::ts).toArray ty #[ren m x]).run P w=.ok (ren m v) w:=by
 unfold FR at h;rcases hd:T.und t with _|d;simp[hd]at h;simp[hd]at h;have hu:=iK hT w hd;cases d with
 |string=>cases x<;>simp at h;subst h;rename_i s;simp[Builtin.len_,List.getElem?_toArray,List.getElem?_cons_zero,zK,hu,zJ,ren,goInt,zL]|slice e=>
  cases x with
  |slice a _ _=>simp[zA]at h;subst h;cases a<;>simp[Builtin.len_,hu,ren,goInt]|chan r=>rcases r with _|r;simp at h;simp[zA]at h;subst h;simp[Builtin.len_,hu,ren,goInt]
  |_=>simp at h
 |array n e=>simp at h;subst h;simp[Builtin.len_,hu,ren,goInt]|_=>simp at h
def Df{ty:TypeId}{ts:V TypeId}(h:LB T t x=some v):(Builtin.cap_ (t::ts).toArray ty #[ren m x]).run P w=.ok (ren m v) w:=by
 unfold LB at h;rcases hd:T.und t with _|d;simp[hd]at h;simp[hd]at h;have hu:=iK hT w hd;cases d with
 |slice e=>
  cases x with
  |slice a _ c=>
   cases a with
   |none=>simp[zA]at h;subst h;simp[Builtin.cap_,hu,ren,goInt]|some a=>
    simp only at h;rcases hc:Nat.blt c bY with _|_;simp[hc]at h;simp[hc,zC,zA]at h;subst h;have mV:c<bY:=by simpa[Nat.blt_eq]using hc
    simp[Builtin.cap_,hu,ren,goInt,bX,mV]
  |chan r=>rcases r with _|r;simp at h;simp[zA]at h;subst h;simp[Builtin.cap_,hu,ren,goInt]
  |_=>simp at h
 |_=>simp at h
omit hT in
def ZF{x v:O}{l:V O}(h:yR R7 x l=some v):((aE m l).foldlM Builtin.max2 (ren m x)).run P w=.ok (ren m v) w:=by
 induction l generalizing x with
 |nil=>simp[yR]at h;simp[aE,h]|cons y l ih=>
  simp[yR]at h;rcases BI:R7 x y with _|z;simp[BI]at h;simp[BI]at h;have:(Builtin.max2 (ren m x) (ren m y)).run P w=.ok (ren m z) w:=by cases x<;>cases y<;>simp[R7]at BI;subst BI;simp[ren,Builtin.max2]
  simp[aE,List.foldlM_cons,zK,this,zJ];exact ih h
omit hT in
def ZD{x v:O}{l:V O}(h:yR R6 x l=some v):((aE m l).foldlM Builtin.min2 (ren m x)).run P w=.ok (ren m v) w:=by
 induction l generalizing x with
 |nil=>simp[yR]at h;simp[aE,h]|cons y l ih=>
  simp[yR]at h;rcases BI:R6 x y with _|z;simp[BI]at h;simp[BI]at h;have:(Builtin.min2 (ren m x) (ren m y)).run P w=.ok (ren m z) w:=by cases x<;>cases y<;>simp[R6]at BI;subst BI;simp[ren,Builtin.min2]
  simp[aE,List.foldlM_cons,zK,this,zJ];exact ih h
omit hT in
def RX{v:O}{y n:Nat}(h:jS v y=some n)(v07:Nat)(hY:y<=v07)(code:BoundsCode):(Instr.sliceBound (ren m v) v07 code).run P w=.ok n w/\n<=y:=by
 cases v with
 |int k i=>
  simp[jS]at h;rcases hr:sK i (y+1)with _|_;simp[hr]at h;simp[hr]at h;subst h;have:=Y1 hr;refine⟨?_,by omega⟩;have h2:0<=i/\i<=(v07:Int):=by omega
  simp[Instr.sliceBound,ren,asIntOf,h2]
 |_=>simp[jS]at h
omit hT in
def OB{isS:D1}{n c v07:Nat}{lo hi mx:M O}{l h v10:Nat}(hb:i8 n c lo hi mx=some (l,h,v10))(hY:c<=v07):
  (Instr.sliceBounds isS n v07 (lo.map (ren m)) (hi.map (ren m)) (mx.map (ren m))).run P w=.ok (l,h,if mx.isSome then v10 else v07) w/\l<=h/\(mx.isSome=true->h<=v10/\v10<=c)/\(mx=none->v10=c/\(hi.isSome=true->h<=c)/\(hi=none->h=n)):=by
 unfold i8 at hb;cases mx with
 |some v=>
  simp only at hb;rcases h1:jS v c with _|M';simp[h1]at hb;simp[h1]at hb;rcases hi with _|u;simp at hb;simp only at hb;rcases h2:jS u M' with _|h';simp[h2]at hb;simp[h2]at hb;have b1:=fun code=>RX (P:=P) m w h1 v07 hY code
  have b2:=fun code=>RX (P:=P) m w h2 M' (zF _) code;cases lo with
  |none=>simp at hb;have⟨rfl,rfl,rfl⟩:=hb;have q1:=(b1 .index).2;have q2:=(b2 .index).2;refine⟨?_,by omega,fun _=>⟨q2,q1⟩,by simp⟩;simp[Instr.sliceBounds,(b1 _).1,(b2 _).1]
  |some x=>
   simp only at hb;rcases h3:jS x h' with _|l';simp[h3]at hb;simp[h3]at hb;have⟨rfl,rfl,rfl⟩:=hb;have b3:=fun code=>RX (P:=P) m w h3 h' (zF _) code
   have q1:=(b1 .index).2;have q2:=(b2 .index).2;have q3:=(b3 .index).2;refine⟨?_,q3,fun _=>⟨q2,q1⟩,by simp⟩;simp[Instr.sliceBounds,(b1 _).1,(b2 _).1,(b3 _).1]
 |none=>
  simp only at hb;cases hi with
  |some u=>
   simp only at hb;rcases h2:jS u c with _|h';simp[h2]at hb;simp[h2]at hb;have b2:=fun code=>RX (P:=P) m w h2 v07 hY code
   have q2:=(b2 .index).2;cases lo with
   |none=>simp at hb;have⟨rfl,rfl,rfl⟩:=hb;refine⟨?_,by omega,by simp,fun _=>⟨rfl,fun _=>q2,by simp⟩⟩;simp[Instr.sliceBounds,(b2 _).1]
   |some x=>
    simp only at hb;rcases h3:jS x h' with _|l';simp[h3]at hb;simp[h3]at hb;have⟨rfl,rfl,rfl⟩:=hb;have b3:=fun code=>RX (P:=P) m w h3 h' (zF _) code
    have q3:=(b3 .index).2;refine⟨?_,q3,by simp,fun _=>⟨rfl,fun _=>q2,by simp⟩⟩;simp[Instr.sliceBounds,(b2 _).1,(b3 _).1]
  |none=>
   simp only at hb;cases lo with
   |none=>simp at hb;have⟨rfl,rfl,rfl⟩:=hb;refine⟨?_,by omega,by simp,by simp⟩;simp[Instr.sliceBounds]
   |some x=>
    simp only at hb;rcases h3:jS x n with _|l';simp[h3]at hb;simp[h3]at hb;have⟨rfl,rfl,rfl⟩:=hb;have b3:=fun code=>RX (P:=P) m w h3 n (zF _) code
    have q3:=(b3 .index).2;refine⟨?_,q3,by simp,by simp⟩;simp[Instr.sliceBounds,(b3 _).1]
def zaj{lo hi mx:M O}(h:o6 T t x lo hi mx=some v):
  (Instr.sliceAt t (ren m x) (lo.map (ren m)) (hi.map (ren m)) (mx.map (ren m))).run P w=.ok (ren m v) w:=by
 unfold o6 at h;rcases hd:T.und t with _|d;simp[hd]at h;simp only[hd]at h;have hu:=iK hT w hd;cases d with
 |string=>
  cases x with
  |string s=>
   simp only at h;cases mx with
   |some _=>simp at h|none=>
    simp only at h;rcases hb:i8 s.data.toList.length s.data.toList.length lo hi none with _|r;simp only[hb]at h;cases h;obtain⟨l,hh,v10⟩:=r;simp only[hb,zA]at h;subst h;obtain⟨h1,_,_,_⟩:=OB (P:=P) (isS:=false) m w hb (zF _);have dU:s.size=s.data.toList.length:=rfl;simp only[Option.map_none]at h1;simp only[Instr.sliceAt,zK,hu,zJ,Instr.slice,ren,Option.map_none,Option.isSome_none,Bool.false_eq_true,if_false,dU,h1,zL];have e3:s.extract l hh=⟨((s.data.toList.take hh).drop l).toArray⟩:=by apply ByteArray.ext;rw[ByteArray.data_extract];apply Array.ext';simp[List.drop_take]
    rw[e3]
  |_=>simp at h
 |slice e=>
  cases x with
  |slice a n c=>
   simp only at h;cases hc:Nat.blt c bY with
   |false=>
    simp[hc,zD]at h;unfold emptyS at h;rcases a with _|a;simp at h;cases n with
    |succ n=>simp at h|zero=>
     simp only at h;rcases hb:i8 0 0 lo hi mx with _|r;simp[hb]at h;have⟨l,hh,v10⟩:=r;simp[hb]at h;cases l with
     |succ l=>simp at h|zero=>
      cases hh with
      |succ l=>simp at h|zero=>
       cases v10 with
       |succ l=>simp at h|zero=>
        simp only at h;rcases hs:cT T e with _|sz;simp[hs]at h;simp[hs,zA]at h;subst h;have⟨h1,_,_,_⟩:=OB (P:=P) (isS:=true) (v07:=bX m a.block c) m w hb (Nat.zero_le _);cases mx with
        |none=>simp[Option.isSome_none,Bool.false_eq_true,if_false]at h1;simp[Instr.sliceAt,zK,hu,zJ,Instr.slice,ren,h1,o8 hT w hs,zL,zM,Nat.zero_mul,Nat.sub_zero,yU,Nat.add_zero,ite_self]|some vm=>
         simp[Option.isSome_some,if_true,zM]at h1;have h0:bX m a.block 0=0:=by simp[bX,bY]
         simp[Instr.sliceAt,zK,hu,zJ,Instr.slice,ren,h1,o8 hT w hs,zL,zM,Nat.zero_mul,Nat.sub_zero,yU,Nat.add_zero,ite_self,h0]
   |true=>
    simp[hc,zC]at h;have mV:c<bY:=by simpa[Nat.blt_eq]using hc
    rcases hb:i8 n c lo hi mx with _|r;simp[hb]at h;have⟨l,hh,v10⟩:=r;simp[hb]at h;rcases hs:cT T e with _|sz;simp[hs]at h;simp[hs,zA]at h;subst h;have gM:∀i,bX m i c=c:=fun i=>by simp[bX,mV]
    have⟨h1,h2,h3,h4⟩:=OB (P:=P) (isS:=true) (v07:=c) m w hb (zF _);have hM:(if mx.isSome then v10 else c)=v10:=by rcases mx with _|v;simp[(h4 rfl).1];simp
    rw[hM]at h1;have KM:v10-l<bY:=by rcases mx with _|v;have:=(h4 rfl).1;omega;have:=(h3 rfl).2;omega
    cases a with|none=>simp only[Instr.sliceAt,zK,hu,zJ,Instr.slice,ren,h1,o8 hT w hs,zL,beq_eq];by_cases e:v10=l<;>simp[e,ren]|some a=>simp[Instr.sliceAt,zK,hu,zJ,Instr.slice,ren,gM,h1,o8 hT w hs,zL,beq_eq];by_cases e:v10=l;simp[e,ren,bX,bY];simp[e,ren,bX,KM,yU,Nat.add_assoc]
  |chan r=>
   rcases r with _|r;simp at h;simp only at h;rcases hb:i8 0 0 lo hi mx with _|q;simp[hb]at h;have⟨l,hh,v10⟩:=q;simp[hb]at h;rcases hs:cT T e with _|sz;simp[hs]at h;simp[hs,zA]at h;subst h;have⟨h1,h2,h3,h4⟩:=OB (P:=P) (isS:=true) (v07:=0) m w hb (zF _);have hz:l=0/\hh=0/\v10=0:=by
    cases mx with
    |none=>have⟨q1,q2,q3⟩:=h4 rfl;rcases hi with _|v;have:=q3 rfl;omega;have:=q2 rfl;omega
    |some v=>have:=h3 rfl;omega
   obtain⟨rfl,rfl,rfl⟩:=hz;simp only[ite_self]at h1;simp[Instr.sliceAt,zK,hu,zJ,Instr.slice,ren,h1,o8 hT w hs,zL,if_true,Nat.sub_zero]
  |_=>simp at h
 |array n e=>
  cases x with
  |pointer p=>
   rcases p with _|a;simp at h;simp only at h;rcases hb:i8 n n lo hi mx with _|r;simp only[hb]at h;cases h;have⟨l,hh,v10⟩:=r;simp[hb]at h;rcases hs:cT T e with _|sz;simp[hs]at h;simp[hs]at h;rcases hn:Nat.blt n bY with _|_;simp[hn]at h;simp[hn,zC,zA]at h;subst h;have uJ:n<bY:=by simpa[Nat.blt_eq]using hn
   have⟨h1,h2,h3,h4⟩:=OB (P:=P) (isS:=false) (v07:=n) m w hb (zF _);have hM:(if mx.isSome then v10 else n)=v10:=by rcases mx with _|v;simp[(h4 rfl).1];simp
   rw[hM]at h1;have KM:v10-l<bY:=by rcases mx with _|v;have:=(h4 rfl).1;omega;have:=(h3 rfl).2;omega
   simp[Instr.sliceAt,zK,hu,zJ,Instr.sureAddr,ren,h1,o8 hT w hs,zL,beq_eq];by_cases e:v10=l;simp[e,bX,bY];simp[e,bX,KM,yU,Nat.add_assoc]
  |_=>simp at h
 |_=>simp at h
def zdp{tm:V O}{a:Act}(ha:a.tmps=⟨aE m tm⟩)(o:Oper)(h:j0 T tm o.op=some v):(execOp a.eval o).run P w=.ok (.value (ren m v)) w:=by
 have⟨dst,op,type,pos,after,guard⟩:=o;simp only at h;unfold j0 at h;cases op with
 |move x=>simp only at h;simp[execOp,kF ha h]|assign x=>simp only at h;simp[execOp,kF ha h]
 |pick c x y=>
  simp only at h;rcases hc:evalO tm c with _|cv;simp[hc]at h;cases cv with
  |bool b=>rcases b with _|_;simp[hc]at h;simp[execOp,kF ha hc,kF ha h,ren,asBool];simp[hc]at h;simp[execOp,kF ha hc,kF ha h,ren,asBool]
  |_=>simp[hc]at h
 |build t ps=>
  simp only at h;rcases hp:IY tm ps.toList with _|qs;simp[hp]at h;simp[hp]at h;have e1:(ps.map fun x=>(x.1,a.eval x.2))=(qs.map fun p=>(p.1,ren m p.2)).toArray:=by rw[<-dz ha hp];cases ps;simp
  have:=z90 hT m w h;rw[<-e1]at this;simp only[execOp,zK];rw[this];rfl
 |nilCheck x=>
  simp only at h;rcases hx:evalO tm x with _|u;simp[hx]at h;have he:=kF ha hx;cases u with
  |pointer p=>rcases p with _|q;simp[hx]at h;simp[hx]at h;subst h;simp[execOp,he,ren]
  |func fn x y=>cases fn with|func f=>simp[hx]at h;subst h;simp[execOp,he,ren]|_=>simp[hx]at h
  |_=>simp[hx]at h
 |binOp op t x y ty=>simp only at h;rcases hx:evalO tm x with _|u;simp[hx]at h;rcases hy:evalO tm y with _|u';simp[hx,hy]at h;simp only[hx,hy]at h;have:=Dn hT m w op x y h;simp only[execOp,kF ha hx,kF ha hy];rw[zK,this];rfl
 |unOp op t x=>simp only at h;rcases hx:evalO tm x with _|u;simp[hx]at h;simp[hx]at h;simp[execOp,kF ha hx,Ll m w h]
 |convert s d x=>simp only at h;rcases hx:evalO tm x with _|u;simp[hx]at h;simp[hx]at h;simp[execOp,kF ha hx,zcu hT m w h]
 |makeFunc fn first cap=>
  simp only at h;rcases hx:kW tm first.toList with _|u
  simp[hx]at h;rcases hy:kW tm cap.toList with _|u';simp[hx,hy]at h;simp only[hx,hy,zA]at h;subst h;simp[execOp,sH ha hx,sH ha hy,Instr.makeFunc,ren]
 |slice t x lo hi mx=>simp only at h;rcases hx:evalO tm x with _|u;simp[hx]at h;rcases h1:sD tm lo with _|l;simp[hx,h1]at h;rcases h2:sD tm hi with _|hh;simp[hx,h1,h2]at h;rcases h3:sD tm mx with _|mm;simp[hx,h1,h2,h3]at h;simp only[hx,h1,h2,h3]at h;have:=zaj hT m w h;simp only[execOp,kF ha hx,O8 ha h1,O8 ha h2,O8 ha h3];rw[zK,this];rfl
 |fieldAddr t x f=>simp only at h;rcases hx:evalO tm x with _|u;simp[hx]at h;simp only[hx]at h;simp[execOp,kF ha hx,z2r hT m w h]
 |field t x f=>simp only at h;rcases hx:evalO tm x with _|u;simp[hx]at h;simp only[hx]at h;simp[execOp,kF ha hx,z9h hT m w h]
 |indexAddr t x i=>simp only at h;rcases hx:evalO tm x with _|u;simp[hx]at h;rcases hy:evalO tm i with _|u';simp[hx,hy]at h;simp[hx,hy]at h;simp[execOp,kF ha hx,kF ha hy,z2s hT m w h]
 |index t x i=>simp only at h;rcases hx:evalO tm x with _|u;simp[hx]at h;rcases hy:evalO tm i with _|u';simp[hx,hy]at h;simp[hx,hy]at h;simp[execOp,kF ha hx,kF ha hy,z9o hT m w h]
 |extract x i=>simp only at h;rcases hx:evalO tm x with _|u;simp[hx]at h;simp[hx]at h;simp[execOp,kF ha hx,z2p m w h]
 |call c=>
  have⟨callee,args,ats⟩:=c;simp only at h;cases callee with
  |builtin b=>
   cases b with
   |len=>simp only at h;rcases hx:kW tm args.toList with _|vs;simp[hx]at h;rcases vs with _ |⟨x,_ |⟨y,l⟩⟩;simp[hx]at h;have⟨ats⟩:=ats;rcases ats with _|⟨t,ts⟩;simp[hx]at h;simp only[hx]at h;have e1:=sH ha hx;simp only[aE]at e1;have:=ZI hT m w (ty:=type) (ts:=ts) h;simp only[execOp,zK,resolve,zL,zJ,invoke,builtin,e1];rw[this];rfl;simp[hx]at h
   |cap=>simp only at h;rcases hx:kW tm args.toList with _|vs;simp[hx]at h;rcases vs with _ |⟨x,_ |⟨y,l⟩⟩;simp[hx]at h;have⟨ats⟩:=ats;rcases ats with _|⟨t,ts⟩;simp[hx]at h;simp only[hx]at h;have e1:=sH ha hx;simp only[aE]at e1;have:=Df hT m w (ty:=type) (ts:=ts) h;simp only[execOp,zK,resolve,zL,zJ,invoke,builtin,e1];rw[this];rfl;simp[hx]at h
   |max=>simp only at h;rcases hx:kW tm args.toList with _|vs;simp[hx]at h;rcases vs with _|⟨x,l⟩;simp[hx]at h;simp[hx]at h;have e1:=sH ha hx;simp[aE]at e1;have:=ZF (P:=P) m w h;simp[execOp,zK,resolve,zL,zJ,invoke,builtin,e1,Builtin.max_];rw[this];rfl
   |min=>simp only at h;rcases hx:kW tm args.toList with _|vs;simp[hx]at h;rcases vs with _|⟨x,l⟩;simp[hx]at h;simp[hx]at h;have e1:=sH ha hx;simp[aE]at e1;have:=ZD (P:=P) m w h;simp[execOp,zK,resolve,zL,zJ,invoke,builtin,e1,Builtin.min_];rw[this];rfl
   |_=>simp at h
  |_=>simp at h
 |_=>simp at h
end
def wX.cell{m:Nm}{i:Nat}{l:V O}{e:TypeId}{w:PL}{md:Nat}(h:wX m i l e w md){j:Nat}{v:O}(hj:l[j]? = some v):
  w.cell? ⟨m.blk i,m.sh i+j,none⟩=some (ren m v):=by have aF:j<l.length:=(zG.1 hj).1;rcases md with _ |_ |n;have⟨h0,h1⟩:=h;simp[World.cell?,h1,h0,kE,hj];have⟨c,e',fr,h1,h2,_⟩:=h;simp[World.cell?,h1,h2 j v hj];have⟨pr,rest,h1,h2,_⟩:=h;simp[World.cell?,h1,Option.isSome_none,Bool.false_eq_true,if_false,List.getElem?_toArray,zT,<-h2];rw[List.getElem?_append_right (by omega),Nat.add_sub_cancel_left,List.getElem?_append_left (by simpa using aF)];simp[kE,hj]
def MP{P:H0}{w:PL}{r:Nat}{es:H2 MapEntry}{c:Nat}(h:w.heap[r]? = some (.map es c)):(getObj r).run P w=.ok (.map es c) w:=by simp[getObj,Sem.run,h]
variable{s:S}
def ky{i:Nat}{l:V O}{e:TypeId}{md:Nat}(h:cY s i=some (l,e,md)):lk s.h i=some (.inl (l,e,md))/\md≠1:=by unfold cY at h;rcases hl:lk s.h i with _|b;simp[hl]at h;rcases b with⟨l',e',md'⟩|⟨es,c⟩;rcases md' with _ |_ |n<;>simp[hl]at h<;>have⟨rfl,rfl,rfl⟩:=h<;>simp;simp[hl]at h
def Ol{a b:Nat}(h:Nat.blt a b=false):¬ a<b:=fun aF=>by
 have:Nat.blt a b=true:=Nat.ble_eq_true_of_le aF;rw[this]at h;cases h
def J6{a b:Nat}(h:Nat.blt a b=true):a<b:=zY h
def z3d(c b k:Nat)(h:b<=c):c+k-b=c-b+k:=by omega
def qzp{c:Nat}(h:bY<=c)(k:Nat):bR (c+k)=bR c+k:=z3d c bY k h
section
variable{P:H0}{T:Tb}(hT:kT P T)(m:Nm)(w:PL)
include hT
variable{t:TypeId}
variable{v:O}
def Nf(hf:Fits m s w){i off:Nat}{l:V O}{e:TypeId}{md:Nat}(hl:lk s.h i=some (.inl (l,e,md)))
  (h:(match T.und t with
    |none=>none|some d=>cond (sF d) (match cT T t with
      |some n=>match xS l off n with
       |some cs=>some (Value.agg cs.toArray)|none=>none
      |none=>none) (nth l off))=some v):
  (loadVar t ⟨m.blk i,m.sh i+off,none⟩).run P w=.ok (ren m v) w:=by
 have hr:wX m i l e w md:=hf.ok i _ hl;rcases hd:T.und t with _|d;simp[hd]at h;simp[hd]at h;unfold loadVar;simp[zK,qxi hT w hd,zJ];cases Bj:sF d with
 |true=>
  simp[Bj,zC]at h;rcases hs:cT T t with _|n;simp[hs]at h;simp[hs]at h;rcases hg:xS l off n with _|cs;simp[hg]at h;simp[hg,zA]at h;subst h;have aZ:(aE m cs).length=n:=by rw[yY];exact G' hg
  have:=run_loadCells_list (P:=P) w ⟨m.blk i,m.sh i+off,none⟩ (aE m cs) (fun j u hu=>by rw[kE,List.getElem?_map]at hu;rcases hc:cs[j]? with _|u';simp[hc]at hu;simp[hc]at hu;subst hu;rw[yU,Nat.add_assoc];exact hr.cell (z7k hg hc));rw[aZ]at this;simp[o8 hT w hs,this,ren]
 |false=>simp[Bj,zD,jD]at h;have:=hr.cell h;simp[this]
def z9q{K:TypeId->O->D1}{d:Nat}{b:D1}(hK:∀t v w,K t v=true->(Instr.checkKey b d t (ren m v)).run P w=.ok () w)(cs:V O)(fs:V Field)(h:Kb T K cs fs=true):
  (forIn fs PUnit.unit (fun f _=>
    if f.name ≠ "_" then (do
     let x <-part f.type ⟨aE m cs⟩ f.offset
     Instr.checkKey b d f.type x
     pure (ForInStep.yield PUnit.unit))
    else pure (ForInStep.yield PUnit.unit)):Sem PUnit).run P w=.ok PUnit.unit w:=by induction fs with|nil=>simp|cons f fs ih=>simp only[Kb]at h;simp only[List.forIn_cons];split at h;rename_i hn;rcases hp:GW T f.type cs f.offset with _|v;simp[hp]at h;simp only[hp]at h;rcases hk:K f.type v with _|_;simp[hk]at h;simp only[hk,zC]at h;have h1:=Nl hT m w hp;have h2:=hK f.type v w hk;simp only[hn,ne_eq,not_false_eq_true,if_true,zK,h1,zJ,h2,zL];exact ih h;rename_i hn;simp only[hn,if_false,zK,zL,zJ];exact ih h
def Mq(b:D1)(d k:Nat)(w:PL)(h:pJ T d t v=true):(Instr.checkKey b (d+k) t (ren m v)).run P w=.ok () w:=by
 induction d generalizing t v w with
 |zero=>simp[pJ]at h|succ d ih=>
  have JZ:d+1+k=(d+k)+1:=by omega
  rw[JZ];simp only[pJ]at h;rcases hd:T.und t with _|ty;simp[hd]at h;have hu:=iK hT w hd;cases ty with
  |int kk=>simp[Instr.checkKey,hu]|string=>simp[Instr.checkKey,hu]
  |bool=>simp[Instr.checkKey,hu]|struct fs=>
   simp only[hd]at h;cases v with
   |agg cs=>obtain⟨cs⟩:=cs;simp only at h;have:=z9q hT m w (b:=b) (d:=d+k) (fun t v w hk=>ih w hk) cs fs.toList h;simp only[Instr.checkKey,zK,hu,zJ,ren,fF];rw[<-Array.forIn_toList,this];rfl
   |_=>simp at h
  |_=>simp[hd]at h
def z3x{kt:TypeId}{k:O}(es:V MapEntry)(i:Nat){r:M (Nat×O)}(h:rE T kt k es i=some r):
  (Instr.findAsking kt (ren m k) (es.map (fB m)) i).run P w=.ok (r.map fun p=>(p.1,ren m p.2)) w:=by induction es generalizing i with|nil=>simp[rE]at h;subst h;simp[Instr.findAsking]|cons e es ih=>simp[rE]at h;rcases he:eqv T 50 kt k e.key with _|b;simp[he]at h;have hq:=xw hT m w he;rcases b with _|_;simp[he]at h;simpa[Instr.findAsking,fB,hq]using ih (i+1) h;simp[he]at h;subst h;simp[Instr.findAsking,fB,hq]
omit hT in
def ZB{kt:TypeId}{d:TypeDesc}(hd:T.und kt=some d){k:O}(es:V MapEntry)(i:Nat){r r':M (Nat×O)}(h:rE T kt k es i=some r)
  (h':Instr.findNow d (ren m k) (es.map (fB m)) i=some r'):r'=r.map fun p=>(p.1,ren m p.2):=by
 induction es generalizing i with
 |nil=>simp[rE]at h;subst h;simp[Instr.findNow]at h';simp[<-h']|cons e es ih=>
  simp[rE]at h;simp[zQ,Instr.findNow]at h';rcases he:eqv T 50 kt k e.key with _|b;simp[he]at h;have key:∀b',Instr.sameNow d (ren m k) (fB m e).key=some b'->b'=b:=by intro b' cP;simp[fB]at cP;rcases qvr he with⟨x,y,hx,hy⟩|⟨kk,x,k',y,hx,hy⟩|⟨x,y,hx,hy⟩|⟨x,y,hx,hy⟩|⟨x,n,c,y,n',c',hx,hy⟩|⟨x,y,hx,hy⟩|⟨x,y,hx,hy⟩|⟨x,n,c,hx,hy⟩;rw[hx,hy]at cP he;cases d<;>simp[Instr.sameNow,ren]at cP;simp[eqv,hd]at he;exact cP.symm.trans he;rw[hx,hy]at cP he;cases d<;>simp[Instr.sameNow,ren]at cP;simp[eqv,hd]at he;exact cP.2.symm.trans he.2;rw[hx,hy]at cP he;cases d<;>simp[Instr.sameNow,ren]at cP;simp[eqv,hd]at he;rw[<-cP,<-he,kj,beq_toListBytes,ByteArray.toList_eq,ByteArray.toList_eq];rw[hx,hy]at cP;cases x<;>cases y<;>cases d<;>simp[Instr.sameNow,ren]at cP;rw[hx,hy]at cP;cases x<;>cases y<;>cases d<;>simp[Instr.sameNow,ren]at cP;rw[hx,hy]at cP;cases x<;>cases y<;>cases d<;>simp[Instr.sameNow,ren]at cP;rw[hx,hy]at cP;cases d<;>simp[Instr.sameNow,ren]at cP;rw[hx,hy]at cP;cases d<;>simp[Instr.sameNow,ren]at cP
  rcases hsn:Instr.sameNow d (ren m k) (fB m e).key with _|b';simp[hsn]at h';have:=key b' hsn;subst this;rcases b' with _|_;simp[he]at h;simp[hsn]at h';exact ih (i+1) h h';simp[he]at h;subst h;simp[hsn]at h';simp[<-h',fB]
def O4{kt:TypeId}{d:TypeDesc}(hd:T.und kt=some d){k:O}{es:V MapEntry}{r:M (Nat×O)}(h:rE T kt k es 0=some r):
  (Instr.findKey kt (ren m k) (es.map (fB m))).run P w=.ok (r.map fun p=>(p.1,ren m p.2)) w:=by unfold Instr.findKey;simp[zK,iK hT w hd,zJ];rcases hn:Instr.findNow d (ren m k) (es.map (fB m)) 0 with _|r';exact z3x hT m w es 0 h;simp[ZB m hd es 0 h hn]
omit hT in
def xp{d:Nat}{kt:TypeId}{v:O}(h:pJ T d kt v=true):∃ty,T.und kt=some ty:=by cases d with|zero=>simp[pJ]at h|succ d=>simp[pJ]at h;rcases hd:T.und kt with _|ty;simp[hd]at h;exact⟨ty,rfl⟩
omit hT in
def nr{s:S}{i sz:Nat}{l:V O}(h:F9 s i sz=some l):∃e md,lk s.h i=some (.inl (l,e,md))/\(md=1/\e=sz+1\/md=sz+2):=by unfold F9 at h;rcases hl:lk s.h i with _|b;simp[hl]at h;rcases b with⟨l',e',md'⟩|⟨es,c⟩;rcases md' with _ |_ |n;simp[hl]at h;simp[hl,beq_eq]at h;by_cases he:e'=sz+1;simp[he,yC,zC,zA]at h;subst h;exact⟨_,_,rfl,.inl ⟨rfl,he⟩⟩;simp[he]at h;simp[hl,beq_eq]at h;by_cases he:n=sz;simp[he,yC,zC,zA]at h;subst h;exact⟨_,_,rfl,.inr (by rw[he])⟩;simp[he]at h;simp[hl]at h
omit hT in
def xe{s:S}(hf:Fits m s w){i c sz:Nat}{l:V O}(hl:F9 s i (sz+1)=some l){off n:Nat}(ho:off=bR c*(sz+1))(hn:off+n*(sz+1)<=l.length):n+bR c<=m.cp i:=by
 have⟨e,md,hl,qM⟩:=nr hl;have h3:l.length<=m.cp i*(sz+1):=by rcases qM with⟨rfl,rfl⟩|rfl;have⟨_,_,_,_,_,h3⟩:=hf.ok i _ hl;exact h3 _ rfl;have⟨pr,rest,_,_,h3⟩:=hf.ok i _ hl;omega
 have:(n+bR c)*(sz+1)<=m.cp i*(sz+1):=by rw[Nat.add_mul];omega
 exact Nat.le_of_mul_le_mul_right this (by omega)
def z7o(hf:Fits m s w){x:O}{lo hi mx:M O}(h:GZ T s t x lo hi mx=some v):
  (Instr.sliceAt t (ren m x) (lo.map (ren m)) (hi.map (ren m)) (mx.map (ren m))).run P w=.ok (ren m v) w:=by
 unfold GZ at h;rcases hd:T.und t with _|dd;simp[hd]at h;cases dd with
 |slice e=>
  cases x with
  |slice p n c=>
   rcases p with _|a;simp[hd]at h;simp[hd]at h;cases hc:Nat.blt c bY with
   |true=>simp[hc]at h|false=>
    have mV:¬ c<bY:=Ol hc;simp[hc,zD]at h;rcases hs:cT T e with _|sz;simp[hs]at h;simp[hs]at h;rcases hr:F9 s a.block sz with _|l;simp[hr]at h;simp[hr,beq_eq]at h;by_cases eL:a.off=bR c*sz;rw[decide_eq_true eL]at h;simp[zC]at h;rcases gA:Nat.blt 0 sz with _|_;simp[gA]at h;have tP:0<sz:=J6 gA;simp[gA,zC]at h;obtain⟨sz,rfl⟩:∃q,sz=q+1:=⟨sz-1,by omega⟩;have⟨_,_,MX,_⟩:=nr hr;have hl:=hr;have gW:=hf.bd _ _ MX;have uQ:ren m (.slice (some a) n c)=.slice (some ⟨m.blk a.block,m.sh a.block+a.off,none⟩) n (m.cp a.block-bR c):=by simp[ren,bX,mV]
    have CT:(l.length-a.off)/(sz+1)<=m.cp a.block-bR c:=by
     rcases Nat.eq_zero_or_pos ((l.length-a.off)/(sz+1))with h0 |hp;omega;have sL:=Nat.div_mul_le_self (l.length-a.off) (sz+1);have EB:a.off<=l.length:=by rcases Nat.lt_or_ge l.length a.off with aF |EB;rw[show l.length-a.off=0 by omega]at hp;simp at hp;exact EB
     have:=xe m w hf (c:=c) (n:=(l.length-a.off)/(sz+1)) (off:=a.off) hl eL (by omega);omega
    have hu:=iK hT w hd;cases mx with
    |some vm=>
     simp only at h;rcases vH:jS vm ((l.length-a.off)/(sz+1))with _|M0;simp[vH]at h;simp[vH]at h;rcases pP:Nat.ble (a.off+M0*(sz+1)) l.length with _|_;simp[pP]at h;simp[pP,zC]at h;rcases hb:i8 n M0 lo hi (some vm)with _|q;simp[hb]at h;have⟨l1,hh,v10⟩:=q;simp[hb]at h;rcases hMc:Nat.blt v10 bY with _|_;simp[hMc]at h;simp[hMc,zC,zA]at h;subst h;have Bl:v10<bY:=J6 hMc;have hM0:M0<=m.cp a.block-bR c:=by have:=(RX (P:=P) m w vH _ (zF _) .index).2;omega
     have⟨b1,b2,b3,_⟩:=OB (P:=P) (isS:=true) m w hb hM0;simp[Option.isSome_some,if_true,zM]at b1;have KM:v10-l1<bY:=Nat.lt_of_le_of_lt (Nat.sub_le _ _) Bl;have cR:(Instr.sliceAt t (ren m (.slice (some a) n c)) (lo.map (ren m)) (hi.map (ren m)) ((some vm).map (ren m))).run P w=.ok (.slice (if v10=l1 then some ⟨m.blk a.block,m.sh a.block+a.off,none⟩else some ⟨m.blk a.block,m.sh a.block+a.off+l1*(sz+1),none⟩) (hh-l1) (v10-l1)) w:=by rw[uQ];simp only[Instr.sliceAt,zK,hu,zJ,Instr.slice,b1,o8 hT w hs,zL,zM,yU]
     rw[cR];by_cases CX:v10=l1;rw[CX]at KM ⊢;simp only[yC,zC,ren,if_true,bX,if_pos KM];simp only[decide_eq_false CX,zD,ren,if_neg CX,bX,if_pos KM,Nat.add_assoc]
    |none=>
     simp only at h;rcases hb:i8 n ((l.length-a.off)/(sz+1)) lo hi none with _|q;simp[hb]at h;have⟨l1,hh,v10⟩:=q;simp[hb]at h;rcases pP:Nat.ble (a.off+hh*(sz+1)) l.length with _|_;simp[pP]at h;simp[pP,zC]at h;have Ar:a.off+hh*(sz+1)<=l.length:=zY pP;have hhC:=xe m w hf (c:=c) (n:=hh) (off:=a.off) hl eL Ar;have⟨b1,b2,_,b4⟩:=OB (P:=P) (isS:=true) m w hb CT;simp[Option.isSome_none,Bool.false_eq_true,if_false]at b1;have cR:(Instr.sliceAt t (ren m (.slice (some a) n c)) (lo.map (ren m)) (hi.map (ren m)) ((none:M O).map (ren m))).run P w=.ok (.slice (if m.cp a.block-bR c=l1 then some ⟨m.blk a.block,m.sh a.block+a.off,none⟩else some ⟨m.blk a.block,m.sh a.block+a.off+l1*(sz+1),none⟩) (hh-l1) (m.cp a.block-bR c-l1)) w:=by rw[uQ];simp[Instr.sliceAt,zK,hu,zJ,Instr.slice,b1,o8 hT w hs,zL,zM,yU]
     cases l1 with
     |zero=>simp[zA]at h;subst h;rw[Nat.sub_zero,Nat.sub_zero,Nat.zero_mul,Nat.add_zero]at cR;by_cases hC:m.cp a.block-bR c=0;rw[if_pos hC]at cR;rw[cR];simp[ren,bX,if_neg mV];rw[if_neg hC]at cR;rw[cR];simp[ren,bX,if_neg mV]|succ l1=>
      simp only at h;rcases aF:Nat.blt (l1+1) hh with _|_;simp[aF]at h;have xK:l1+1<hh:=J6 aF;simp[aF,zC,zA]at h;subst h;have d5:¬ m.cp a.block-bR c=l1+1:=by omega
      have vB:¬ c+(l1+1)<bY:=fun hh=>mV (Nat.lt_of_le_of_lt (Nat.le_add_right _ _) hh);have BL:bR (c+(l1+1))=bR c+(l1+1):=qzp (Nat.le_of_not_lt mV) _;rw[cR];simp[ren,bX,if_neg vB,if_neg d5,BL,Nat.add_assoc,Nat.sub_sub]
    rw[decide_eq_false eL]at h;simp at h
  |_=>simp[hd]at h
 |_=>simp[hd]at h
def wj(hf:Fits m s w){tm:V O}{a:Act}(ha:a.tmps=⟨aE m tm⟩)(o:Oper)(h:o4 T tm s o.op=some v): (execOp a.eval o).run P w=.ok (.value (ren m v)) w:=by
  have⟨dst,op,type,pos,after,guard⟩:=o;simp only at h;unfold o4 at h;cases op with
  |load t x=>
    simp only at h;rcases hx:evalO tm x with _|u;simp[hx]at h;cases u with
    |pointer p=>rcases p with _|b;simp[hx]at h;simp[hx]at h;rcases hl:lk s.h b.block with _|blk;simp[hl]at h;rcases blk with⟨l,e,md⟩|⟨es,c⟩;simp[hl]at h;have:=Nf hT m w hf hl h;simp[execOp,kF ha hx,ren,Instr.loadAt,Instr.sureAddr,this];simp[hl]at h
    |_=> simp[hx]at h
  |slice t x lo hi mx=>simp only at h;rcases hx:evalO tm x with _|u;simp[hx]at h;rcases h1:sD tm lo with _|l;simp[hx,h1]at h;rcases h2:sD tm hi with _|hh;simp[hx,h1,h2]at h;rcases h3:sD tm mx with _|mm;simp[hx,h1,h2,h3]at h;simp[hx,h1,h2,h3]at h;have:=z7o hT m w hf h;simp only[execOp,kF ha hx,O8 ha h1,O8 ha h2,O8 ha h3];rw[zK,this];rfl
  |lookup t x k ok=>
    simp only at h;rcases hd:T.und t with _|d;simp[hd]at h;cases d with
    |map kt et=>
      simp[hd]at h;rcases hx:evalO tm x with _|u;simp[hx]at h;cases u with
      |map r=>
        simp[hx]at h;rcases hk:evalO tm k with _|kv;simp[hk]at h;simp[hk]at h;rcases tR:pJ T 50 kt kv with _|_;simp[tR]at h;simp[tR,zC]at h;have⟨ty,pB⟩:=xp tR;have main : ∀ es : V MapEntry, (match rE T kt kv es 0 with
              |none=> none|some (some (_,v))=> some (cond ok (.tuple #[v, .bool true]) v)
              |some none=> match T.inf et with
                |some (_,_,z)=> some (cond ok (.tuple #[z, .bool false]) z)|none=> none)=some v->
            (Instr.checkKey (es.map (fB m)).toArray.isEmpty 10000 kt (ren m kv)).run P w=.ok () w/\
            ((∃pi pv,(Instr.findKey kt (ren m kv) (es.map (fB m))).run P w=.ok (some (pi,pv)) w/\ren m v=if ok=true then Value.tuple #[pv, .bool true]else pv)\/
             (∃z,(Instr.findKey kt (ren m kv) (es.map (fB m))).run P w=.ok none w/\(zeroValue et).run P w=.ok z w/\ren m v=if ok=true then Value.tuple #[z, .bool false]else z)):=by
          intro es he;refine⟨Mq hT m _ 50 9950 w tR, ?_⟩;rcases hfx:rE T kt kv es 0 with _|fr;simp[hfx]at he;have h2:=O4 hT m w pB hfx;cases fr with
          |none=>simp[hfx]at he;rcases hi:T.inf et with _|y;simp[hi]at he;have⟨y1,y2,z⟩:=y;have⟨hz,uI⟩:=J4 hT m w hi;simp only at hz uI;simp[hi]at he;subst he;refine .inr ⟨z,h2,hz, ?_⟩;cases ok<;>simp[ren,aE,uI]
          |some p=>have⟨pi,pv⟩:=p;simp[hfx]at he;subst he;refine .inl ⟨pi,ren m pv,h2, ?_⟩;cases ok<;>simp[ren,aE]
        cases r with
        |none=>simp only at h;obtain⟨h1,⟨pi,pv,h2,h3⟩|⟨z,h2,HP,h3⟩⟩:=main [] h;simp[List.map_nil]at h1 h2;simp[execOp,kF ha hx,kF ha hk,zK,Instr.lookup,iK hT w hd,zJ,ren,zL,h1,h2,h3];simp[List.map_nil]at h1 h2;simp[execOp,kF ha hx,kF ha hk,zK,Instr.lookup,iK hT w hd,zJ,ren,zL,h1,h2,HP,h3]
        |some r=>simp only at h;rcases hl:lk s.h r with _|blk;simp[hl]at h;rcases blk with x |⟨es,c⟩;simp[hl]at h;simp only[hl]at h;have hb:w.heap[m.blk r]? = some (.map (es.map (fB m)).toArray c):=hf.ok r _ hl;obtain⟨h1,⟨pi,pv,h2,h3⟩|⟨z,h2,HP,h3⟩⟩:=main es h;simp only[execOp,kF ha hx,kF ha hk,zK,Instr.lookup,iK hT w hd,zJ,ren,zL,MP hb,h1,h2,h3];simp only[execOp,kF ha hx,kF ha hk,zK,Instr.lookup,iK hT w hd,zJ,ren,zL,MP hb,h1,h2,HP,h3]
      |_=> simp[hx]at h
    |_=> simp[hd]at h
  |call c=>
    have⟨callee,args,ats⟩:=c;simp only at h;cases callee with
    |builtin b=>
      cases b with
      |len=>
        simp only at h;rcases hx:kW tm args.toList with _|vs;simp[hx]at h;rcases vs with _ |⟨x,_ |⟨y,l⟩⟩;simp[hx]at h;cases x with
        |map r=>
          have⟨ats⟩:=ats;rcases ats with _|⟨t,ts⟩;simp[hx]at h;simp[hx]at h;have e1:=sH ha hx;simp only[aE]at e1;rcases hd:T.und t with _|d;simp[hd]at h;cases d with
          |map kt et=>
            simp only[hd]at h;simp only[execOp,zK,resolve,zL,zJ,invoke,builtin,e1];cases r with
            |none=>simp at h;subst h;simp[Builtin.len_,iK hT w hd,ren,goInt]|some r=>simp only at h;rcases hl:lk s.h r with _|blk;simp[hl]at h;rcases blk with x |⟨es,c⟩;simp[hl]at h;simp[hl,zA]at h;subst h;have hb:w.heap[m.blk r]? = some (.map (es.map (fB m)).toArray c):=hf.ok r _ hl;simp[Builtin.len_,iK hT w hd,ren,goInt,MP hb]
          |_=> simp[hd]at h
        |_=> simp[hx]at h
        simp[hx]at h
      |_=> simp at h
    |_=> simp at h
  |_=> simp at h
end
end Go.Rx
