import Derived.Laws.StructEq
import Derived.Test.YtldlchbgolpkaaaGreatP2
set_option linter.all false
namespace Go.Rx
open Go
structure lP(P:Program)(T:Tb):Prop where
 und:∀t d,T.und t=some d->P.underlying t=some d
 inf:∀t a b z,T.inf t=some (a,b,z)->plain z=true/\∃i,P.info? t=some i/\i.size=a/\i.bytes=b/\i.zero=some z
 fn : ∀ f g, T.fn f = some g → P.funcs[f]? = some g ∧ (g.body.isSome = true → (g.name == "runtime.NumGoroutine") = false)
 eqs:∀t,T.eqs t=true->P.stoodInHeld t=false/\P.eqGuardType P.depth t=false
 mixed:P.follows .mixedOrders=true
def jA{v11:Type}(l:I v11)(n:Nat):nth l n=l[n]?:=by induction l generalizing n with|nil=>simp[nth]|cons a l ih=>cases n<;>simp[nth,ih]
variable{l:I M}
variable{n:Nat}
variable{r:I M}
def z1r(h:IR l n=some r):r=l.take n/\n<=l.length:=by induction l generalizing n r with|nil=>cases n<;>simp_all[IR]|cons v l ih=>cases n with|zero=>simp_all[IR]|succ n=>simp[IR]at h;rcases hl:IR l n with _|r';simp[hl]at h;simp[hl]at h;have⟨e,hn⟩:=ih hl;subst h;simp[e];exact hn
variable{off:Nat}
def Pi(h:xA l off n=some r):r=(l.drop off).take n/\n<=l.length-off:=by have:=z1r h;simpa using this
def fm(h:xA l off n=some r):r.length=n:=by obtain⟨rfl,hn⟩:=Pi h;simp;omega
def z5z(h:xA l off n=some r){j:Nat}{v:M}(hj:r[j]? = some v):l[off+j]? = some v:=by obtain⟨rfl,hn⟩:=Pi h;rw[List.getElem?_take]at hj;split at hj;simpa using hj;cases hj
def z5f{vs:I M}(h:GB l vs=some r):vs.length<=l.length/\r=vs++l.drop vs.length:=by induction vs generalizing l r with|nil=>simp[GB]at h;simp[h]|cons v vs ih=>rcases l with _|⟨x,l⟩;simp[GB]at h;simp[GB]at h;rcases hp:GB l vs with _|r';simp[hp]at h;simp[hp]at h;have⟨e1,e2⟩:=ih hp;subst h;simp[e2];exact e1
def qw2{vs:I M}(h:uC l off vs=some r):off+vs.length<=l.length/\r=l.take off++vs++l.drop (off+vs.length):=by
 induction off generalizing l r with
 |zero=>
  have h':GB l vs=some r:=by cases l<;>simpa[uC]using h
  have⟨e1,e2⟩:=z5f h';simp[e2];exact e1
 |succ n ih=>
  rcases l with _|⟨x,l⟩;simp[uC]at h;simp[uC]at h;rcases hp:uC l n vs with _|r';simp[hp]at h;simp[hp]at h;have⟨e1,e2⟩:=ih hp;subst h;simp[zO,List.take_succ_cons,List.cons_append,e2];refine⟨by omega,?_⟩;have:n+1+vs.length=(n+vs.length)+1:=by omega
  rw[this,List.drop_succ_cons]
def z0f(h:tD l=true):∀v∈l,v.oneCell'=true:=by induction l with|nil=>simp|cons v l ih=>simp[tD]at h;rcases hv:v.oneCell' with _|_;simp[hv]at h;simp[hv]at h;intro u hu;rcases zI.1 hu with rfl |hu;exact hv;exact ih h u hu
def qra{m:Nm}(h:tD l=true):∀v∈aJ m l,v.oneCell'=true:=by intro v hv;rw[mY]at hv;obtain⟨u,hu,rfl⟩:=List.mem_map.1 hv;rw[qxq];exact z0f h u hu
mutual
def BT(m:Nm):(v:M)->plain v=true->aI m v=v
 |.bool _,_=>by simp[aI]
 |.int _ _,_=>by simp[aI]
 |.string _,_=>by simp[aI]
 |.pointer none,_=>by simp[aI]
 |.slice none _ _,_=>by simp[aI]
 |.map none,_=>by simp[aI]
 |.nilFunc,_=>by simp[aI]
 |.nilIface,_=>by simp[aI]
 |.agg ⟨l⟩,h=>by simp[plain]at h;simp[aI,o_ m l h]
 |.tuple ⟨l⟩,h=>by simp[plain]at h;simp[aI,o_ m l h]
 |.float _ _,h=>by simp[plain]at h
 |.complex _ _ _,h=>by simp[plain]at h
 |.pointer (some _),h=>by simp[plain]at h
 |.slice (some _) _ _,h=>by simp[plain]at h
 |.map (some _),h=>by simp[plain]at h
 |.chan _,h=>by simp[plain]at h
 |.func _ _ _,h=>by simp[plain]at h
 |.iface _ _,h=>by simp[plain]at h
def o_(m:Nm):(l:I M)->SJ l=true->aJ m l=l
 |[],_=>by simp[aJ]
 |v::l,h=>by simp[SJ]at h;rcases hv:plain v with _|_;simp[hv]at h;simp[hv]at h;simp[aJ,BT m v hv,o_ m l h]
end
def vp(a b:I UInt8):lQ a b=(a==b):=by
 induction a generalizing b with
 |nil=>cases b<;>simp[lQ]|cons x a ih=>
  rcases b with _|⟨y,b⟩;simp[lQ];simp[lQ,beq_eq,ih];by_cases e:x=y;subst e;simp;have:x.toNat≠y.toNat:=fun h=>e (UInt8.toNat_inj.1 h)
  simp[this,e]
def z0o(a b:I UInt8):kT a b=Op.bytesLess a b:=by
 induction a generalizing b with
 |nil=>cases b<;>simp[kT,Op.bytesLess]|cons x a ih=>
  rcases b with _|⟨y,b⟩;simp[kT,Op.bytesLess];simp[kT,Op.bytesLess,ih,beq_eq];have aE:Nat.blt x.toNat y.toNat=decide (x<y):=by rw[Bool.eq_iff_iff];simp[Nat.blt_eq,UInt8.lt_iff_toNat_lt]
  rw[aE];by_cases h1:x<y;simp[h1];by_cases e:x=y;subst e;simp;have:x.toNat≠y.toNat:=fun h=>e (UInt8.toNat_inj.1 h);simp[h1,e,this]
section
variable{P:Program}{T:Tb}(hT:lP P T)(m:Nm){tm:I M}{a:Act}(w:World)
include hT
variable{t:X}
def iK{d:TypeDesc}(h:T.und t=some d):(underlying t).run P w=.ok d w:=run_underlying (hT.und t d h) w
def o6(h:cO T t=some n):(sizeOf t).run P w=.ok n w:=by unfold cO at h;rcases hi:T.inf t with _|x;simp[hi]at h;have⟨a,b,z⟩:=x;simp[hi]at h;have⟨_,i,h1,h2,_,_⟩:=hT.inf t a b z hi;simp[sizeOf,typeInfo,h1,h2,h]
def J7{x:Nat×Nat×M}(h:T.inf t=some x):(zeroValue t).run P w=.ok x.2.2 w/\aI m x.2.2=x.2.2:=by have⟨a,b,z⟩:=x;have⟨hp,i,h1,_,_,h4⟩:=hT.inf t a b z h;exact⟨by simp[zeroValue,typeInfo,h1,h4],BT m z hp⟩
def qwr{d:TypeDesc}(h:T.und t=some d):(isAgg t).run P w=.ok (sE d) w:=by unfold isAgg;simp[zK,iK hT w h,zJ];cases d<;>rfl
def Pj{cs:I M}{v:M}(h:GP T t cs off=some v):
  (part t ⟨aJ m cs⟩ off).run P w=.ok (aI m v) w:=by
 unfold GP at h;rcases hd:T.und t with _|d;simp[hd]at h;simp[hd]at h;unfold part;simp[zK,qwr hT w hd,zJ];cases hag:sE d with
 |true=>simp[hag,zC]at h;rcases hs:cO T t with _|n;simp[hs]at h;simp[hs]at h;subst h;simp[if_true,zK,o6 hT w hs,zJ,zL,aI];simp[mY,List.map_drop,List.map_take]
 |false=>simp[hag,zD,jA]at h;simp[mY,h]
def zbj{E:X->M->M->V Bool}{d:Nat}(hE:∀t x y b w,E t x y=some b->(Op.equalIn d t (aI m x) (aI m y)).run P w=.ok b w)
  (xs ys:I M) (fs:I Field) {b:Bool} (w:World) (h:G1 T E xs ys fs=some b):
  (Op.eqFields d ⟨aJ m xs⟩ ⟨aJ m ys⟩ fs).run P w=.ok b w:=by induction fs generalizing w with|nil=>simp[G1]at h;simp[Op.eqFields,h]|cons f fs ih=>simp only[G1]at h;simp only[Op.eqFields];split at h;rename_i hn;simp only[hn,ne_eq,not_false_eq_true,if_true];rcases h1:GP T f.type xs f.offset with _|x;simp[h1]at h;simp[h1]at h;rcases h2:GP T f.type ys f.offset with _|y;simp[h2]at h;simp[h2]at h;rcases h3:E f.type x y with _|r;simp[h3]at h;simp[zK,Pj hT m w h1,zJ,Pj hT m w h2,hE _ _ _ _ w h3];rcases r with _|_;simp[h3]at h;simp[h];simp[h3]at h;simpa using ih w h;rename_i hn;simp[hn,if_false];exact ih w h
def Dx(d k:Nat){x y:M}{b:Bool}(w:World)(h:eqv T d t x y=some b):
  (Op.equalIn (d+k) t (aI m x) (aI m y)).run P w=.ok b w:=by
 induction d generalizing t x y b w with
 |zero=>simp[eqv]at h|succ d ih=>
  have K3:d+1+k=(d+k)+1:=by omega
  rw[K3];simp only[eqv]at h;rcases hd:T.und t with _|ty;simp[hd]at h;have hu:=iK hT w hd;cases ty with
  |bool=>simp only[hd]at h;cases x<;>cases y<;>simp at h;subst h;simp[Op.equalIn,hu,aI]|int kk=>simp only[hd]at h;cases x<;>cases y<;>simp at h;obtain⟨rfl,h⟩:=h;simp[Op.equalIn,hu,aI,h]
  |string=>simp only[hd]at h;cases x<;>cases y<;>simp at h;subst h;rename_i s1 s2;simp only[Op.equalIn,zK,hu,aI,zJ,zL,vp];rw[beq_toListBytes,ByteArray.toList_eq,ByteArray.toList_eq]|pointer e=>
   simp only[hd]at h;cases x<;>cases y<;>try simp at h
   rename_i p q;cases p<;>cases q<;>simp at h<;>subst h<;>simp[Op.equalIn,hu,aI]
  |slice e=>
   simp only[hd]at h;cases x<;>cases y<;>try simp at h
   rename_i p _ _ q _ _;cases p<;>cases q<;>simp at h<;>subst h<;>simp[Op.equalIn,hu,aI];rename_i p q _ _;cases p<;>cases q<;>simp at h<;>subst h<;>simp[Op.equalIn,hu,aI]
  |map e e'=>
   simp only[hd]at h;cases x<;>cases y<;>try simp at h
   rename_i p q;cases p<;>cases q<;>simp at h<;>subst h<;>simp[Op.equalIn,hu,aI]
  |struct fs=>
   simp only[hd]at h;cases x<;>cases y<;>simp at h;rename_i xs ys;obtain⟨xs⟩:=xs;obtain⟨ys⟩:=ys;rcases he:T.eqs t with _|_;simp[he]at h;simp only[he,zC]at h;have yP:=hT.und t _ hd;have hfo:P.fieldsOf t=fs:=by simp[Program.fieldsOf,yP]
   simp only[aI,iJ];rw[run_equalIn_struct w (d+k) t _ _ (by rw[hfo];exact yP) (hT.eqs t he).1,hfo];exact zbj hT m (fun t x y b w hh=>ih w hh) xs ys fs.toList w h
  |_=>simp[hd]at h
end
end Go.Rx
namespace Go.Rx
open Go
variable{m:Nm}
variable{tm:I M}
variable{a:Act}
variable{v:M}
def lF(ha:a.tmps=⟨aJ m tm⟩){x:Operand}(h:evalO tm x=some v):a.eval x=aI m v:=by
 cases x with
 |tmp t=>simp[evalO,jA]at h;simp[Act.eval,ha,mY,h]|const c=>simp[evalO]at h;rcases hp:plain c with _|_;simp[hp]at h;simp[hp]at h;subst h;simp[Act.eval,BT m c hp]
 |func f=>simp[evalO]at h;subst h;simp[Act.eval,aI,aJ]|global g=>simp[evalO]at h
def z7o(ha:a.tmps=⟨aJ m tm⟩){l:I Operand}{vs:I M}(h:kS tm l=some vs):l.map a.eval=aJ m vs:=by induction l generalizing vs with|nil=>simp[kS]at h;subst h;simp[aJ]|cons x l ih=>simp[kS]at h;rcases hx:evalO tm x with _|v;simp[hx]at h;rcases hl:kS tm l with _|r;simp[hx,hl]at h;simp[hx,hl]at h;subst h;simp[aJ,lF ha hx,ih hl]
def uJ(ha:a.tmps=⟨aJ m tm⟩){l:Array Operand}{vs:I M}(h:kS tm l.toList=some vs):l.map a.eval=⟨aJ m vs⟩:=by rw[<-z7o ha h];cases l;simp
def oc(ha:a.tmps=⟨aJ m tm⟩){l:I (Nat×Operand)}{vs:I (Nat×M)}(h:IU tm l=some vs):
  l.map (fun p=>(p.1,a.eval p.2))=vs.map (fun p=>(p.1,aI m p.2)):=by induction l generalizing vs with|nil=>simp[IU]at h;subst h;simp|cons x l ih=>have⟨i,x⟩:=x;simp[IU]at h;rcases hx:evalO tm x with _|v;simp[hx]at h;rcases hl:IU tm l with _|r;simp[hx,hl]at h;simp[hx,hl]at h;subst h;simp[lF ha hx,ih hl]
def OU(ha:a.tmps=⟨aJ m tm⟩){x:V Operand}{v:V M}(h:sD tm x=some v):x.map a.eval=v.map (aI m):=by rcases x with _|x;simp[sD]at h;subst h;rfl;simp[sD]at h;rcases hx:evalO tm x with _|u;simp[hx]at h;simp[hx]at h;subst h;simp[lF ha hx]
def qv2(op:BinOp)(t:X)(x y:Operand)(u v:M)(h1 : ∀a b, ¬ (u=.agg a/\v=.agg b))(h2 : ¬ (u=.nilIface/\v=.nilIface)): eqGuard op t x y u v=pure ():=by
  cases op<;>simp only[eqGuard]<;>first
    |rfl
    | (simp only [Bool.not_true, Bool.false_eq_true, if_false]
       split;simp_all;simp_all;rfl)
def z5q{c:Array M}(h:aI m v=.agg c):∃d,v=.agg d:=by
 cases v with
 |pointer a=>cases a<;>simp[aI]at h|slice a n c=>cases a<;>simp[aI]at h
 |map r=>cases r<;>simp[aI]at h|chan r=>cases r<;>simp[aI]at h
 |agg d=>exact⟨d,rfl⟩|_=>simp[aI]at h
def qo5(h:aI m v=.nilIface):v=.nilIface:=by
 cases v with
 |pointer a=>cases a<;>simp[aI]at h|slice a n c=>cases a<;>simp[aI]at h
 |map r=>cases r<;>simp[aI]at h|chan r=>cases r<;>simp[aI]at h
 |nilIface=>rfl|_=>simp[aI]at h
def z3k(off:Nat):∀(vs:I M)(k:Nat)(cells:I M),off+k+vs.length<=cells.length->
  (vs.zipIdx k).foldl (fun(cs:Array M) (p:M×Nat)=>cs.setIfInBounds (off+p.2) p.1) ⟨cells⟩=⟨cells.take (off+k)++vs++cells.drop (off+k+vs.length)⟩
 |[],k,cells,_=>by simp
 |v::vs,k,cells,h=>by
  simp[zO]at h;simp[List.zipIdx_cons,List.foldl_cons,List.setIfInBounds_toArray];rw[z3k off vs (k+1) (cells.set (off+k) v) (by simp;omega)];congr 1;have e1:(cells.set (off+k) v).take (off+(k+1))=cells.take (off+k)++[v]:=by rw[show off+(k+1)=off+k+1 by omega,List.take_set,List.take_succ_eq_append_getElem (by omega)];rw[List.set_append_right _ _ (by simp;omega)];simp[Nat.min_eq_left (show off+k<=cells.length by omega)]
  have e2:(cells.set (off+k) v).drop (off+(k+1)+vs.length)=cells.drop (off+k+(v::vs).length):=by rw[List.drop_set_of_lt (by omega)];congr 1;simp;omega
  rw[e1,e2];simp
def Pf(m:Nm)(place:Nat->V (Nat×Nat)):∀(ps:I (Nat×M))(cells r:I M),EO place cells ps=some r->
  Instr.fill place ⟨aJ m cells⟩ (ps.map fun p=>(p.1,aI m p.2))=some ⟨aJ m r⟩
 |[],cells,r,h=>by simp[EO]at h;simp[Instr.fill,h]
 |(i,v)::ps,cells,r,h=>by
  simp only[EO]at h;rcases hp:place i with _|x;simp[hp]at h;obtain⟨off,size⟩:=x;simp only[hp,beq_eq]at h;by_cases hs:v.cells.toList.length=size;simp only[hs,yC,zC]at h;rcases hq:uC cells off v.cells.toList with _|c;simp[hq]at h;simp only[hq]at h;obtain⟨h1,h2⟩:=qw2 hq;have dS:v.cells.size=size:=by simpa using hs
  simp only[zQ,Instr.fill,hp,kp,EG,dS];have eH:(decide (size≠size)||decide (off+size>(⟨aJ m cells⟩:Array M).size))=false:=by simp;simp[dS]at h1;omega
  rw[eH];simp only[Bool.false_eq_true,if_false];have Xc:((E4 m v.cells).zipIdx.foldl (fun(cs:Array M) (p:M×Nat)=>cs.setIfInBounds (off+p.2) p.1) ⟨aJ m cells⟩)=⟨aJ m c⟩:=by rw[<-Array.foldl_toList,Array.toList_zipIdx,lV,z3k off _ 0 _ (by simp;simpa using h1)];rw[h2];simp[mY,List.map_drop,List.map_take]
  exact(congrArg (fun z=>Instr.fill place z (ps.map fun p=>(p.1,aI m p.2))) Xc).trans (Pf m place ps c r h);simp only[hs,yB,zD]at h;cases h
variable{t:X}
variable{x:M}
variable{y:M}
def qv3{T:Tb}{d:Nat}{r:Bool}(h:eqv T d t x y=some r):
  (∃a b,x=.bool a/\y=.bool b)\/(∃k a k' b,x=.int k a/\y=.int k' b)\/(∃a b,x=.string a/\y=.string b)\/(∃a b,x=.pointer a/\y=.pointer b)\/
  (∃a n c b n' c',x=.slice a n c/\y=.slice b n' c')\/(∃a b,x=.map a/\y=.map b)\/(∃a b,x=.agg a/\y=.agg b)\/(∃r n c,x=.chan (some r)/\y=.slice none n c):=by
 cases d with
 |zero=>simp[eqv]at h|succ d=>
  simp[eqv]at h;rcases hd:T.und t with _|ty;simp[hd]at h;cases ty<;>simp[hd]at h<;>first
   |(simp at h;done)
   |(cases x<;>cases y<;>first |(simp at h;done)|(simp;done)|(rename_i p q _ _;cases p<;>cases q<;>simp at h ⊢))
section
variable{P:Program}{T:Tb}(hT:lP P T)(m:Nm)(w:World)
include hT
def z7w(op:BinOp)(ox oy:Operand)(h:wJ T t x y=true):(eqGuard op t ox oy (aI m x) (aI m y)).run P w=.ok () w:=by by_cases ha:∃c d,x=.agg c/\y=.agg d;obtain⟨c,d,rfl,rfl⟩:=ha;simp only[wJ]at h;simp only[aI];exact run_eqGuard_agg w op t ox oy _ _ (hT.eqs t h).2;rw[qv2 op t ox oy];rfl;rintro a b ⟨h1,h2⟩;obtain⟨c,rfl⟩:=z5q h1;obtain⟨d,rfl⟩:=z5q h2;exact ha ⟨c,d,rfl,rfl⟩;rintro⟨h1,h2⟩;rw[qo5 h1,qo5 h2]at h;simp[wJ]at h
def jv{b:Bool}(h:eqv T 50 t x y=some b):(Op.equal t (aI m x) (aI m y)).run P w=.ok b w :=
 Dx hT m 50 9950 w h
def Eu(op:BinOp)(ox oy:Operand)(h:qK T op t x y=some v):
  (do eqGuard op t ox oy (aI m x) (aI m y);binOp op t (aI m x) (aI m y):Sem M).run P w=.ok (aI m v) w:=by
 by_cases hi:∃k a k' b,x=.int k a/\y=.int k' b
 ·obtain⟨k,a,k',b,rfl,rfl⟩:=hi;simp only[qK]at h;simp only[aI,eqGuard_at_int,zK,zL,zJ];by_cases hk:k=k'
  ·subst hk;cases op<;>simp[kR]at h<;>first
    |(subst h;simp[binOp,Op.intArith,Op.intBits,Op.intCmp,aI];done)
    |(obtain⟨h1,rfl⟩:=h;simp[binOp,Op.intDiv,Op.shift,aI,h1];done)
    |(obtain⟨h1,rfl⟩:=h;simp[binOp,Op.shift,aI];omega)
  cases op<;>simp[kR,hk]at h<;>first
   |(obtain⟨h1,rfl⟩:=h;simp[binOp,Op.shift,aI];omega)
 ·by_cases hs:∃a b,x=.string a/\y=.string b
  ·obtain⟨a,b,rfl,rfl⟩:=hs;simp only[qK]at h;simp only[aI,eqGuard_at_string,zK,zL,zJ];have e1:a.toList=a.data.toList:=ByteArray.toList_eq a;have e2:b.toList=b.data.toList:=ByteArray.toList_eq b;cases op<;>simp[IM]at h<;>first
    |(subst h;simp[binOp,Op.stringOp,aI,e1,e2,vp,z0o];done)
    |skip
   obtain⟨h1,rfl⟩:=h;have h2:¬ ((a.size+b.size:Nat):Int)>9223372036854775807:=by have ea:a.size=a.data.size:=rfl;have eb:b.size=b.data.size:=rfl;rw[ea,eb];omega
   simp only[binOp,Op.stringOp,IntKind.max_i64,if_neg h2,zL,aI];have e3:a++b=⟨(a.data.toList++b.data.toList).toArray⟩:=by apply ByteArray.ext;simp
   rw[e3]
  have hb:(op=.eql\/op=.neq)/\wJ T t x y=true/\∃r,eqv T 50 t x y=some r/\v=.bool (if op=.eql then r else !r):=by unfold qK at h;split at h;exact absurd ⟨_,_,_,_,rfl,rfl⟩ hi;exact absurd ⟨_,_,rfl,rfl⟩ hs;cases op<;>simp at h;rcases hg:wJ T t x y with _|_;simp[hg]at h;rcases he:eqv T 50 t x y with _|r;simp[hg,he]at h;simp[hg,he]at h;subst h;simp;rcases hg:wJ T t x y with _|_;simp[hg]at h;rcases he:eqv T 50 t x y with _|r;simp[hg,he]at h;simp[hg,he]at h;subst h;simp
  obtain⟨pY,hg,r,he,rfl⟩:=hb;have hq:=jv hT m w he;simp only[zK,z7w hT m w op ox oy hg,zJ];have bw:=qv3 he;rcases pY with rfl |rfl;have key:binOp .eql t (aI m x) (aI m y)=(do pure (.bool (<-Op.equal t (aI m x) (aI m y))):Sem M):=by rcases bw with⟨a,b,rfl,rfl⟩|⟨k,a,k',b,rfl,rfl⟩|⟨a,b,rfl,rfl⟩|⟨a,b,rfl,rfl⟩|⟨a,n,c,b,n',c',rfl,rfl⟩|⟨a,b,rfl,rfl⟩|⟨a,b,rfl,rfl⟩|⟨r,n,c,rfl,rfl⟩;simp[aI,binOp];exact absurd ⟨_,_,_,_,rfl,rfl⟩ hi;exact absurd ⟨_,_,rfl,rfl⟩ hs;cases a<;>cases b<;>simp[aI,binOp];cases a<;>cases b<;>simp[aI,binOp];cases a<;>cases b<;>simp[aI,binOp];simp[aI,binOp];simp[aI,binOp]
  rw[key];simp[hq,aI];have key:binOp .neq t (aI m x) (aI m y)=(do pure (.bool (!(<-Op.equal t (aI m x) (aI m y)))):Sem M):=by rcases bw with⟨a,b,rfl,rfl⟩|⟨k,a,k',b,rfl,rfl⟩|⟨a,b,rfl,rfl⟩|⟨a,b,rfl,rfl⟩|⟨a,n,c,b,n',c',rfl,rfl⟩|⟨a,b,rfl,rfl⟩|⟨a,b,rfl,rfl⟩|⟨r,n,c,rfl,rfl⟩;simp[aI,binOp];exact absurd ⟨_,_,_,_,rfl,rfl⟩ hi;exact absurd ⟨_,_,rfl,rfl⟩ hs;cases a<;>cases b<;>simp[aI,binOp];cases a<;>cases b<;>simp[aI,binOp];cases a<;>cases b<;>simp[aI,binOp];simp[aI,binOp];simp[aI,binOp]
  rw[key];simp[hq,aI]
omit hT in
def Nd{op:UnOp}{x v:M}(h:RP op x=some v):(Op.unary op (aI m x)).run P w=.ok (aI m v) w:=by cases op<;>cases x<;>simp[RP]at h<;>subst h<;>simp[Op.unary,aI,Op.intArith,Op.intBits]
def zbe{src dst:X}(h:convX T src dst x=some v):(convert src dst (aI m x)).run P w=.ok (aI m v) w:=by unfold convX at h;rcases h1:T.und src with _|d1;simp[h1]at h;rcases h2:T.und dst with _|d2;simp[h1,h2]at h;simp[h1,h2]at h;unfold convert;simp[zK,iK hT w h1,iK hT w h2,zJ];cases d2<;>cases x<;>simp at h<;>subst h<;>cases d1<;>simp[aI,Conv.intToInt]
def z1a(fs:I Field)(hs:J0 T fs=true):(fs.mapM (fun f=>do pure (f.offset,<-sizeOf f.type):Field->Sem (Nat×Nat))).run P w=.ok (fs.map fun f=>(f.offset,(cO T f.type).getD 0)) w:=by induction fs with|nil=>simp|cons f fs ih=>simp only[J0]at hs;rcases hf:cO T f.type with _|n;simp[hf]at hs;simp only[hf]at hs;have bm:=ih hs;simp only[List.mapM_cons,zK,o6 hT w hf,zJ,zL,bm,zQ,hf,Option.getD_some]
omit hT in
def z1n{fs:I Field}(hs:J0 T fs=true){i:Nat}{f:Field}(hf:fs[i]? = some f):∃n,cO T f.type=some n:=by
 induction fs generalizing i with
 |nil=>simp at hf|cons g fs ih=>
  simp[J0]at hs;rcases hg:cO T g.type with _|n;simp[hg]at hs;simp[hg]at hs;cases i with
  |zero=>simp at hf;subst hf;exact⟨n,hg⟩|succ i=>exact ih hs (by simpa using hf)
def z7b{ps:I (Nat×M)}(h:Ot T t ps=some v):
  (Instr.build t (ps.map fun p=>(p.1,aI m p.2)).toArray).run P w=.ok (aI m v) w:=by
 unfold Ot at h;rcases hi:T.inf t with _|x;simp[hi]at h;obtain⟨a,b,z⟩:=x;obtain⟨hz,uN⟩:=J7 hT m w hi;simp only at hz uN;have vS:z.cells=⟨aJ m z.cells.toList⟩:=by
  conv=>lhs;rw[<-uN,kp]
  cases z.cells;simp
 simp only[hi]at h;unfold Instr.build;simp only[zK,hz,zJ];rcases hd:T.und t with _|d;simp[hd]at h;simp only[iK hT w hd,zJ];cases d with
 |struct fs=>
  simp only[hd]at h;rcases hs:J0 T fs.toList with _|_;simp[hs]at h;simp only[hs,zC]at h;rcases hf:EO (MD T fs.toList) z.cells.toList ps with _|cs;simp[hf]at h;simp[hf]at h;subst h;have hm:=z1a hT w fs.toList hs;have dK:(fs.mapM (fun f=>do pure (f.offset,<-sizeOf f.type):Field->Sem (Nat×Nat))).run P w=.ok ⟨fs.toList.map fun f=>(f.offset,(cO T f.type).getD 0)⟩ w:=by rw[Array.mapM_eq_mapM_toList];simp only[Sem.run_map,hm,zJ]
  have nO:(fun i=>(⟨fs.toList.map fun f=>(f.offset,(cO T f.type).getD 0)⟩:Array (Nat×Nat))[i]?)=MD T fs.toList:=by
   funext i;simp only[MD,jA];rcases v9:fs.toList[i]? with _|f;simp at v9;simp[v9];obtain⟨n,hn⟩:=z1n hs v9;have:fs[i]? = some f:=by simpa using v9
   simp[this,hn]
  have m8:=Pf m (MD T fs.toList) ps z.cells.toList cs hf;simp only[zK,dK,zJ,nO];rw[vS];simp only[m8,zL,aI,iJ]
 |array n e=>simp only[hd]at h;rcases hs:cO T e with _|k;simp[hs]at h;simp only[hs]at h;rcases hf:EO (fun i=>some (i*k,k)) z.cells.toList ps with _|cs;simp[hf]at h;simp[hf]at h;subst h;have m8:=Pf m (fun i=>some (i*k,k)) ps z.cells.toList cs hf;simp only[zK,o6 hT w hs,zJ];rw[vS];simp only[m8,zL,aI,iJ]
 |_=>simp[hd]at h
omit hT in
def yH(b o n:Nat):(⟨b,o,none⟩:Addr).add n=⟨b,o+n,none⟩:=Addr.add_lit b o n
def z0v{st:X}{f:Nat}(h:Pw T st x f=some v):(Instr.fieldAt st (aI m x) f).run P w=.ok (aI m v) w:=by
 unfold Pw at h;rcases hd:T.und st with _|d;simp[hd]at h;cases d with
 |struct fs=>
  simp only[hd,jA]at h;rcases hf:fs.toList[f]? with _|fd;simp at hf;simp[hf]at h;have Xg:fs[f]? = some fd:=by simpa using hf
  simp only[hf]at h;cases x with
  |pointer p=>rcases p with _|a;simp at h;simp only at h;rcases hs:cO T fd.type with _|n;simp[hs]at h;cases n with|zero=>simp[hs]at h|succ n=>simp[hs]at h;subst h;simp[Instr.fieldAt,iK hT w hd,Xg,aI,Instr.sureAddr,fieldPlace,o6 hT w hs,yH,Nat.add_assoc]
  |_=>simp at h
 |_=>simp[hd]at h
def z7q{st:X}{f:Nat}(h:Om T st x f=some v):(Instr.field st (aI m x) f).run P w=.ok (aI m v) w:=by
 unfold Om at h;rcases hd:T.und st with _|d;simp[hd]at h;cases d with
 |struct fs=>
  simp only[hd,jA]at h;rcases hf:fs.toList[f]? with _|fd;simp at hf;simp[hf]at h;have Xg:fs[f]? = some fd:=by simpa using hf
  simp only[hf]at h;cases x with
  |agg cs=>have⟨cs⟩:=cs;simp only at h;simp[Instr.field,iK hT w hd,Xg,aI,asAgg,Pj hT m w h]
  |_=>simp at h
 |_=>simp[hd]at h
omit hT in
def YS{i:Int}{n:Nat}(h:sH i n=true):0<=i/\i<n:=by cases i with|ofNat k=>simp[sH,Nat.blt_eq]at h;exact⟨Int.natCast_nonneg k,Int.ofNat_lt.2 h⟩|negSucc k=>simp[sH]at h
def z0w{ix:M}(h:Pp T t x ix=some v):(Instr.indexAt t (aI m x) (aI m ix)).run P w=.ok (aI m v) w:=by
 unfold Pp at h;cases ix with
 |int k i=>
  simp only at h;rcases hd:T.und t with _|d;simp[hd]at h;cases d with
  |array n e=>
   simp[hd]at h;cases x with
   |pointer p=>rcases p with _|a;simp at h;simp only at h;rcases hr:sH i n with _|_;simp[hr]at h;rcases hs:cO T e with _|sz;simp[hr,hs]at h;simp[hr,hs]at h;subst h;have:=YS hr;simp[Instr.indexAt,asIntOf,aI,iK hT w hd,Instr.sureAddr,this,o6 hT w hs,yH,Nat.add_assoc]
   |_=>simp at h
  |slice e=>
   simp[hd]at h;cases x with
   |slice p n c=>rcases p with _|a;simp at h;simp only at h;rcases hr:sH i n with _|_;simp[hr]at h;rcases hs:cO T e with _|sz;simp[hr,hs]at h;simp[hr,hs]at h;subst h;have:=YS hr;simp[Instr.indexAt,asIntOf,aI,iK hT w hd,this,o6 hT w hs,yH,Nat.add_assoc]
   |_=>simp at h
  |_=>simp[hd]at h
 |_=>simp at h
def z7x{ix:M}(h:YB T t x ix=some v):(Instr.index t (aI m x) (aI m ix)).run P w=.ok (aI m v) w:=by
 unfold YB at h;cases ix with
 |int k i=>
  simp only at h;rcases hd:T.und t with _|d;simp[hd]at h;cases d with
  |array n e=>
   simp only[hd]at h;cases x with
   |agg cs=>obtain⟨cs⟩:=cs;simp only at h;rcases hr:sH i n with _|_;simp[hr]at h;rcases hs:cO T e with _|sz;simp[hr,hs]at h;simp only[hr,hs,zC]at h;have:=YS hr;simp[Instr.index,asIntOf,aI,iK hT w hd,this,o6 hT w hs,Pj hT m w h]
   |_=>simp at h
  |string=>
   simp only[hd]at h;cases x with
   |string s=>
    simp only[jA]at h;rcases hr:sH i s.data.toList.length with _|_;simp only[hr,zD]at h;cases h;simp only[hr,zC]at h;have hi:=YS hr;rcases hb:s.data.toList[i.toNat]? with _|b;simp[hb]at h;simp[hb]at h;subst h;have cV:s[i.toNat]? = some b:=by
     have:s.data[i.toNat]? = some b:=by simpa using hb
     have⟨aE,e⟩:=Array.getElem?_eq_some_iff.1 this;have wO:i.toNat<s.size:=aE;rw[getElem?_pos s i.toNat wO];exact congrArg some e
    simp[Instr.index,asIntOf,aI,iK hT w hd,hi.1,cV]
   |_=>simp at h
  |_=>simp[hd]at h
 |_=>simp at h
omit hT in
def z0t{x v:M}{i:Nat}(h:Hg x i=some v):(Instr.extract (aI m x) i).run P w=.ok (aI m v) w:=by
 cases x with
 |tuple vs=>have⟨vs⟩:=vs;simp[Hg,jA]at h;simp[Instr.extract,aI,mY,h]
 |_=>simp[Hg]at h
end
section
variable{P:Program}{T:Tb}(hT:lP P T)(m:Nm)(w:World)
include hT
variable{t:X}
variable{x:M}
variable{v:M}
def Au{ty:X}{ts:I X}(h:FE T t x=some v):(Builtin.len_ (t::ts).toArray ty #[aI m x]).run P w=.ok (aI m v) w:=by
 unfold FE at h;rcases hd:T.und t with _|d;simp[hd]at h;simp[hd]at h;have hu:=iK hT w hd;cases d with
 |string=>cases x<;>simp at h;subst h;rename_i s;simp[Builtin.len_,List.getElem?_toArray,List.getElem?_cons_zero,zK,hu,zJ,aI,goInt,zL]|slice e=>
  cases x with
  |slice a _ _=>simp[zA]at h;subst h;cases a<;>simp[Builtin.len_,hu,aI,goInt]|chan r=>rcases r with _|r;simp at h;simp[zA]at h;subst h;simp[Builtin.len_,hu,aI,goInt]
  |_=>simp at h
 |array n e=>simp at h;subst h;simp[Builtin.len_,hu,aI,goInt]|_=>simp at h
def En{ty:X}{ts:I X}(h:LH T t x=some v):(Builtin.cap_ (t::ts).toArray ty #[aI m x]).run P w=.ok (aI m v) w:=by
 unfold LH at h;rcases hd:T.und t with _|d;simp[hd]at h;simp[hd]at h;have hu:=iK hT w hd;cases d with
 |slice e=>
  cases x with
  |slice a _ c=>
   cases a with
   |none=>simp[zA]at h;subst h;simp[Builtin.cap_,hu,aI,goInt]|some a=>
    simp only at h;rcases hc:Nat.blt c bY with _|_;simp[hc]at h;simp[hc,zC,zA]at h;subst h;have mQ:c<bY:=by simpa[Nat.blt_eq]using hc
    simp[Builtin.cap_,hu,aI,goInt,bX,mQ]
  |chan r=>rcases r with _|r;simp at h;simp[zA]at h;subst h;simp[Builtin.cap_,hu,aI,goInt]
  |_=>simp at h
 |_=>simp at h
omit hT in
def Ar{x v:M}{l:I M}(h:yE SG x l=some v):((aJ m l).foldlM Builtin.max2 (aI m x)).run P w=.ok (aI m v) w:=by
 induction l generalizing x with
 |nil=>simp[yE]at h;simp[aJ,h]|cons y l ih=>
  simp[yE]at h;rcases DC:SG x y with _|z;simp[DC]at h;simp[DC]at h;have:(Builtin.max2 (aI m x) (aI m y)).run P w=.ok (aI m z) w:=by cases x<;>cases y<;>simp[SG]at DC;subst DC;simp[aI,Builtin.max2]
  simp[aJ,List.foldlM_cons,zK,this,zJ];exact ih h
omit hT in
def Ap{x v:M}{l:I M}(h:yE SF x l=some v):((aJ m l).foldlM Builtin.min2 (aI m x)).run P w=.ok (aI m v) w:=by
 induction l generalizing x with
 |nil=>simp[yE]at h;simp[aJ,h]|cons y l ih=>
  simp[yE]at h;rcases DC:SF x y with _|z;simp[DC]at h;simp[DC]at h;have:(Builtin.min2 (aI m x) (aI m y)).run P w=.ok (aI m z) w:=by cases x<;>cases y<;>simp[SF]at DC;subst DC;simp[aI,Builtin.min2]
  simp[aJ,List.foldlM_cons,zK,this,zJ];exact ih h
omit hT in
def SR{v:M}{y n:Nat}(h:jY v y=some n)(v07:Nat)(hY:y<=v07)(code:BoundsCode):(Instr.sliceBound (aI m v) v07 code).run P w=.ok n w/\n<=y:=by
 cases v with
 |int k i=>
  simp[jY]at h;rcases hr:sH i (y+1)with _|_;simp[hr]at h;simp[hr]at h;subst h;have:=YS hr;refine⟨?_,by omega⟩;have h2:0<=i/\i<=(v07:Int):=by omega
  simp[Instr.sliceBound,aI,asIntOf,h2]
 |_=>simp[jY]at h
omit hT in
def OZ{isS:Bool}{n c v07:Nat}{lo hi mx:V M}{l h v10:Nat}(hb:i7 n c lo hi mx=some (l,h,v10))(hY:c<=v07):
  (Instr.sliceBounds isS n v07 (lo.map (aI m)) (hi.map (aI m)) (mx.map (aI m))).run P w=.ok (l,h,if mx.isSome then v10 else v07) w/\l<=h/\(mx.isSome=true->h<=v10/\v10<=c)/\(mx=none->v10=c/\(hi.isSome=true->h<=c)/\(hi=none->h=n)):=by
 unfold i7 at hb;cases mx with
 |some v=>
  simp only at hb;rcases h1:jY v c with _|M';simp[h1]at hb;simp[h1]at hb;rcases hi with _|u;simp at hb;simp only at hb;rcases h2:jY u M' with _|h';simp[h2]at hb;simp[h2]at hb;have b1:=fun code=>SR (P:=P) m w h1 v07 hY code
  have b2:=fun code=>SR (P:=P) m w h2 M' (zF _) code;cases lo with
  |none=>simp at hb;have⟨rfl,rfl,rfl⟩:=hb;have q1:=(b1 .index).2;have q2:=(b2 .index).2;refine⟨?_,by omega,fun _=>⟨q2,q1⟩,by simp⟩;simp[Instr.sliceBounds,(b1 _).1,(b2 _).1]
  |some x=>
   simp only at hb;rcases h3:jY x h' with _|l';simp[h3]at hb;simp[h3]at hb;have⟨rfl,rfl,rfl⟩:=hb;have b3:=fun code=>SR (P:=P) m w h3 h' (zF _) code
   have q1:=(b1 .index).2;have q2:=(b2 .index).2;have q3:=(b3 .index).2;refine⟨?_,q3,fun _=>⟨q2,q1⟩,by simp⟩;simp[Instr.sliceBounds,(b1 _).1,(b2 _).1,(b3 _).1]
 |none=>
  simp only at hb;cases hi with
  |some u=>
   simp only at hb;rcases h2:jY u c with _|h';simp[h2]at hb;simp[h2]at hb;have b2:=fun code=>SR (P:=P) m w h2 v07 hY code
   have q2:=(b2 .index).2;cases lo with
   |none=>simp at hb;have⟨rfl,rfl,rfl⟩:=hb;refine⟨?_,by omega,by simp,fun _=>⟨rfl,fun _=>q2,by simp⟩⟩;simp[Instr.sliceBounds,(b2 _).1]
   |some x=>
    simp only at hb;rcases h3:jY x h' with _|l';simp[h3]at hb;simp[h3]at hb;have⟨rfl,rfl,rfl⟩:=hb;have b3:=fun code=>SR (P:=P) m w h3 h' (zF _) code
    have q3:=(b3 .index).2;refine⟨?_,q3,by simp,fun _=>⟨rfl,fun _=>q2,by simp⟩⟩;simp[Instr.sliceBounds,(b2 _).1,(b3 _).1]
  |none=>
   simp only at hb;cases lo with
   |none=>simp at hb;have⟨rfl,rfl,rfl⟩:=hb;refine⟨?_,by omega,by simp,by simp⟩;simp[Instr.sliceBounds]
   |some x=>
    simp only at hb;rcases h3:jY x n with _|l';simp[h3]at hb;simp[h3]at hb;have⟨rfl,rfl,rfl⟩:=hb;have b3:=fun code=>SR (P:=P) m w h3 n (zF _) code
    have q3:=(b3 .index).2;refine⟨?_,q3,by simp,by simp⟩;simp[Instr.sliceBounds,(b3 _).1]
def z90{lo hi mx:V M}(h:o5 T t x lo hi mx=some v):
  (Instr.sliceAt t (aI m x) (lo.map (aI m)) (hi.map (aI m)) (mx.map (aI m))).run P w=.ok (aI m v) w:=by
 unfold o5 at h;rcases hd:T.und t with _|d;simp[hd]at h;simp only[hd]at h;have hu:=iK hT w hd;cases d with
 |string=>
  cases x with
  |string s=>
   simp only at h;cases mx with
   |some _=>simp at h|none=>
    simp only at h;rcases hb:i7 s.data.toList.length s.data.toList.length lo hi none with _|r;simp only[hb]at h;cases h;obtain⟨l,hh,v10⟩:=r;simp only[hb,zA]at h;subst h;obtain⟨h1,_,_,_⟩:=OZ (P:=P) (isS:=false) m w hb (zF _);have dS:s.size=s.data.toList.length:=rfl;simp only[Option.map_none]at h1;simp only[Instr.sliceAt,zK,hu,zJ,Instr.slice,aI,Option.map_none,Option.isSome_none,Bool.false_eq_true,if_false,dS,h1,zL];have e3:s.extract l hh=⟨((s.data.toList.take hh).drop l).toArray⟩:=by apply ByteArray.ext;rw[ByteArray.data_extract];apply Array.ext';simp[List.drop_take]
    rw[e3]
  |_=>simp at h
 |slice e=>
  cases x with
  |slice a n c=>
   simp only at h;cases hc:Nat.blt c bY with
   |false=>
    simp[hc,zD]at h;unfold emptyS at h;rcases a with _|a;simp at h;cases n with
    |succ n=>simp at h|zero=>
     simp only at h;rcases hb:i7 0 0 lo hi mx with _|r;simp[hb]at h;have⟨l,hh,v10⟩:=r;simp[hb]at h;cases l with
     |succ l=>simp at h|zero=>
      cases hh with
      |succ l=>simp at h|zero=>
       cases v10 with
       |succ l=>simp at h|zero=>
        simp only at h;rcases hs:cO T e with _|sz;simp[hs]at h;simp[hs,zA]at h;subst h;have⟨h1,_,_,_⟩:=OZ (P:=P) (isS:=true) (v07:=bX m a.block c) m w hb (Nat.zero_le _);cases mx with
        |none=>simp[Option.isSome_none,Bool.false_eq_true,if_false]at h1;simp[Instr.sliceAt,zK,hu,zJ,Instr.slice,aI,h1,o6 hT w hs,zL,zM,Nat.zero_mul,Nat.sub_zero,yH,Nat.add_zero,ite_self]|some vm=>
         simp[Option.isSome_some,if_true,zM]at h1;have h0:bX m a.block 0=0:=by simp[bX,bY]
         simp[Instr.sliceAt,zK,hu,zJ,Instr.slice,aI,h1,o6 hT w hs,zL,zM,Nat.zero_mul,Nat.sub_zero,yH,Nat.add_zero,ite_self,h0]
   |true=>
    simp[hc,zC]at h;have mQ:c<bY:=by simpa[Nat.blt_eq]using hc
    rcases hb:i7 n c lo hi mx with _|r;simp[hb]at h;have⟨l,hh,v10⟩:=r;simp[hb]at h;rcases hs:cO T e with _|sz;simp[hs]at h;simp[hs,zA]at h;subst h;have hX:∀i,bX m i c=c:=fun i=>by simp[bX,mQ]
    have⟨h1,h2,h3,h4⟩:=OZ (P:=P) (isS:=true) (v07:=c) m w hb (zF _);have hM:(if mx.isSome then v10 else c)=v10:=by rcases mx with _|v;simp[(h4 rfl).1];simp
    rw[hM]at h1;have KR:v10-l<bY:=by rcases mx with _|v;have:=(h4 rfl).1;omega;have:=(h3 rfl).2;omega
    cases a with|none=>simp only[Instr.sliceAt,zK,hu,zJ,Instr.slice,aI,h1,o6 hT w hs,zL,beq_eq];by_cases e:v10=l<;>simp[e,aI]|some a=>simp[Instr.sliceAt,zK,hu,zJ,Instr.slice,aI,hX,h1,o6 hT w hs,zL,beq_eq];by_cases e:v10=l;simp[e,aI,bX,bY];simp[e,aI,bX,KR,yH,Nat.add_assoc]
  |chan r=>
   rcases r with _|r;simp at h;simp only at h;rcases hb:i7 0 0 lo hi mx with _|q;simp[hb]at h;have⟨l,hh,v10⟩:=q;simp[hb]at h;rcases hs:cO T e with _|sz;simp[hs]at h;simp[hs,zA]at h;subst h;have⟨h1,h2,h3,h4⟩:=OZ (P:=P) (isS:=true) (v07:=0) m w hb (zF _);have hz:l=0/\hh=0/\v10=0:=by
    cases mx with
    |none=>have⟨q1,q2,q3⟩:=h4 rfl;rcases hi with _|v;have:=q3 rfl;omega;have:=q2 rfl;omega
    |some v=>have:=h3 rfl;omega
   obtain⟨rfl,rfl,rfl⟩:=hz;simp only[ite_self]at h1;simp[Instr.sliceAt,zK,hu,zJ,Instr.slice,aI,h1,o6 hT w hs,zL,if_true,Nat.sub_zero]
  |_=>simp at h
 |array n e=>
  cases x with
  |pointer p=>
   rcases p with _|a;simp at h;simp only at h;rcases hb:i7 n n lo hi mx with _|r;simp only[hb]at h;cases h;have⟨l,hh,v10⟩:=r;simp[hb]at h;rcases hs:cO T e with _|sz;simp[hs]at h;simp[hs]at h;rcases hn:Nat.blt n bY with _|_;simp[hn]at h;simp[hn,zC,zA]at h;subst h;have yU:n<bY:=by simpa[Nat.blt_eq]using hn
   have⟨h1,h2,h3,h4⟩:=OZ (P:=P) (isS:=false) (v07:=n) m w hb (zF _);have hM:(if mx.isSome then v10 else n)=v10:=by rcases mx with _|v;simp[(h4 rfl).1];simp
   rw[hM]at h1;have KR:v10-l<bY:=by rcases mx with _|v;have:=(h4 rfl).1;omega;have:=(h3 rfl).2;omega
   simp[Instr.sliceAt,zK,hu,zJ,Instr.sureAddr,aI,h1,o6 hT w hs,zL,beq_eq];by_cases e:v10=l;simp[e,bX,bY];simp[e,bX,KR,yH,Nat.add_assoc]
  |_=>simp at h
 |_=>simp at h
def zca{tm:I M}{a:Act}(ha:a.tmps=⟨aJ m tm⟩)(o:Oper)(h:iZ T tm o.op=some v):(execOp a.eval o).run P w=.ok (.value (aI m v)) w:=by
 have⟨dst,op,type,pos,after,guard⟩:=o;simp only at h;unfold iZ at h;cases op with
 |move x=>simp only at h;simp[execOp,lF ha h]|assign x=>simp only at h;simp[execOp,lF ha h]
 |pick c x y=>
  simp only at h;rcases hc:evalO tm c with _|cv;simp[hc]at h;cases cv with
  |bool b=>rcases b with _|_;simp[hc]at h;simp[execOp,lF ha hc,lF ha h,aI,asBool];simp[hc]at h;simp[execOp,lF ha hc,lF ha h,aI,asBool]
  |_=>simp[hc]at h
 |build t ps=>
  simp only at h;rcases hp:IU tm ps.toList with _|qs;simp[hp]at h;simp[hp]at h;have e1:(ps.map fun x=>(x.1,a.eval x.2))=(qs.map fun p=>(p.1,aI m p.2)).toArray:=by rw[<-oc ha hp];cases ps;simp
  have:=z7b hT m w h;rw[<-e1]at this;simp only[execOp,zK];rw[this];rfl
 |nilCheck x=>
  simp only at h;rcases hx:evalO tm x with _|u;simp[hx]at h;have he:=lF ha hx;cases u with
  |pointer p=>rcases p with _|q;simp[hx]at h;simp[hx]at h;subst h;simp[execOp,he,aI]
  |func fn x y=>cases fn with|func f=>simp[hx]at h;subst h;simp[execOp,he,aI]|_=>simp[hx]at h
  |_=>simp[hx]at h
 |binOp op t x y ty=>simp only at h;rcases hx:evalO tm x with _|u;simp[hx]at h;rcases hy:evalO tm y with _|u';simp[hx,hy]at h;simp only[hx,hy]at h;have:=Eu hT m w op x y h;simp only[execOp,lF ha hx,lF ha hy];rw[zK,this];rfl
 |unOp op t x=>simp only at h;rcases hx:evalO tm x with _|u;simp[hx]at h;simp[hx]at h;simp[execOp,lF ha hx,Nd m w h]
 |convert s d x=>simp only at h;rcases hx:evalO tm x with _|u;simp[hx]at h;simp[hx]at h;simp[execOp,lF ha hx,zbe hT m w h]
 |makeFunc fn first cap=>
  simp only at h;rcases hx:kS tm first.toList with _|u
  simp[hx]at h;rcases hy:kS tm cap.toList with _|u';simp[hx,hy]at h;simp only[hx,hy,zA]at h;subst h;simp[execOp,uJ ha hx,uJ ha hy,Instr.makeFunc,aI]
 |slice t x lo hi mx=>simp only at h;rcases hx:evalO tm x with _|u;simp[hx]at h;rcases h1:sD tm lo with _|l;simp[hx,h1]at h;rcases h2:sD tm hi with _|hh;simp[hx,h1,h2]at h;rcases h3:sD tm mx with _|mm;simp[hx,h1,h2,h3]at h;simp only[hx,h1,h2,h3]at h;have:=z90 hT m w h;simp only[execOp,lF ha hx,OU ha h1,OU ha h2,OU ha h3];rw[zK,this];rfl
 |fieldAddr t x f=>simp only at h;rcases hx:evalO tm x with _|u;simp[hx]at h;simp only[hx]at h;simp[execOp,lF ha hx,z0v hT m w h]
 |field t x f=>simp only at h;rcases hx:evalO tm x with _|u;simp[hx]at h;simp only[hx]at h;simp[execOp,lF ha hx,z7q hT m w h]
 |indexAddr t x i=>simp only at h;rcases hx:evalO tm x with _|u;simp[hx]at h;rcases hy:evalO tm i with _|u';simp[hx,hy]at h;simp[hx,hy]at h;simp[execOp,lF ha hx,lF ha hy,z0w hT m w h]
 |index t x i=>simp only at h;rcases hx:evalO tm x with _|u;simp[hx]at h;rcases hy:evalO tm i with _|u';simp[hx,hy]at h;simp[hx,hy]at h;simp[execOp,lF ha hx,lF ha hy,z7x hT m w h]
 |extract x i=>simp only at h;rcases hx:evalO tm x with _|u;simp[hx]at h;simp[hx]at h;simp[execOp,lF ha hx,z0t m w h]
 |call c=>
  have⟨callee,args,ats⟩:=c;simp only at h;cases callee with
  |builtin b=>
   cases b with
   |len=>simp only at h;rcases hx:kS tm args.toList with _|vs;simp[hx]at h;rcases vs with _ |⟨x,_ |⟨y,l⟩⟩;simp[hx]at h;have⟨ats⟩:=ats;rcases ats with _|⟨t,ts⟩;simp[hx]at h;simp only[hx]at h;have e1:=uJ ha hx;simp only[aJ]at e1;have:=Au hT m w (ty:=type) (ts:=ts) h;simp only[execOp,zK,resolve,zL,zJ,invoke,builtin,e1];rw[this];rfl;simp[hx]at h
   |cap=>simp only at h;rcases hx:kS tm args.toList with _|vs;simp[hx]at h;rcases vs with _ |⟨x,_ |⟨y,l⟩⟩;simp[hx]at h;have⟨ats⟩:=ats;rcases ats with _|⟨t,ts⟩;simp[hx]at h;simp only[hx]at h;have e1:=uJ ha hx;simp only[aJ]at e1;have:=En hT m w (ty:=type) (ts:=ts) h;simp only[execOp,zK,resolve,zL,zJ,invoke,builtin,e1];rw[this];rfl;simp[hx]at h
   |max=>simp only at h;rcases hx:kS tm args.toList with _|vs;simp[hx]at h;rcases vs with _|⟨x,l⟩;simp[hx]at h;simp[hx]at h;have e1:=uJ ha hx;simp[aJ]at e1;have:=Ar (P:=P) m w h;simp[execOp,zK,resolve,zL,zJ,invoke,builtin,e1,Builtin.max_];rw[this];rfl
   |min=>simp only at h;rcases hx:kS tm args.toList with _|vs;simp[hx]at h;rcases vs with _|⟨x,l⟩;simp[hx]at h;simp[hx]at h;have e1:=uJ ha hx;simp[aJ]at e1;have:=Ap (P:=P) m w h;simp[execOp,zK,resolve,zL,zJ,invoke,builtin,e1,Builtin.min_];rw[this];rfl
   |_=>simp at h
  |_=>simp at h
 |_=>simp at h
end
def D5.cell{m:Nm}{i:Nat}{l:I M}{e:X}{w:World}{md:Nat}(h:D5 m i l e w md){j:Nat}{v:M}(hj:l[j]? = some v):
  w.cell? ⟨m.blk i,m.sh i+j,none⟩=some (aI m v):=by have aE:j<l.length:=(zG.1 hj).1;rcases md with _ |_ |n;have⟨h0,h1⟩:=h;simp[World.cell?,h1,h0,mY,hj];have⟨c,e',fr,h1,h2,_⟩:=h;simp[World.cell?,h1,h2 j v hj];have⟨pr,rest,h1,h2,_⟩:=h;simp[World.cell?,h1,Option.isSome_none,Bool.false_eq_true,if_false,List.getElem?_toArray,zT,<-h2];rw[List.getElem?_append_right (by omega),Nat.add_sub_cancel_left,List.getElem?_append_left (by simpa using aE)];simp[mY,hj]
def MQ{P:Program}{w:World}{r:Nat}{es:Array MapEntry}{c:Nat}(h:w.heap[r]? = some (.map es c)):(getObj r).run P w=.ok (.map es c) w:=by simp[getObj,Sem.run,h]
variable{s:S}
def yg{i:Nat}{l:I M}{e:X}{md:Nat}(h:cW s i=some (l,e,md)):lk s.h i=some (.inl (l,e,md))/\md≠1:=by unfold cW at h;rcases hl:lk s.h i with _|b;simp[hl]at h;rcases b with⟨l',e',md'⟩|⟨es,c⟩;rcases md' with _ |_ |n<;>simp[hl]at h<;>have⟨rfl,rfl,rfl⟩:=h<;>simp;simp[hl]at h
def Qk{a b:Nat}(h:Nat.blt a b=false):¬ a<b:=fun aE=>by
 have:Nat.blt a b=true:=Nat.ble_eq_true_of_le aE;rw[this]at h;cases h
def JA{a b:Nat}(h:Nat.blt a b=true):a<b:=zY h
def z1p(c b k:Nat)(h:b<=c):c+k-b=c-b+k:=by omega
def qyj{c:Nat}(h:bY<=c)(k:Nat):bR (c+k)=bR c+k:=z1p c bY k h
section
variable{P:Program}{T:Tb}(hT:lP P T)(m:Nm)(w:World)
include hT
variable{t:X}
variable{v:M}
def xy(hf:Fits m s w){i off:Nat}{l:I M}{e:X}{md:Nat}(hl:lk s.h i=some (.inl (l,e,md)))
  (h:(match T.und t with
    |none=>none|some d=>cond (sE d) (match cO T t with
      |some n=>match xA l off n with
       |some cs=>some (Value.agg cs.toArray)|none=>none
      |none=>none) (nth l off))=some v):
  (loadVar t ⟨m.blk i,m.sh i+off,none⟩).run P w=.ok (aI m v) w:=by
 have hr:D5 m i l e w md:=hf.ok i _ hl;rcases hd:T.und t with _|d;simp[hd]at h;simp[hd]at h;unfold loadVar;simp[zK,qwr hT w hd,zJ];cases hag:sE d with
 |true=>
  simp[hag,zC]at h;rcases hs:cO T t with _|n;simp[hs]at h;simp[hs]at h;rcases hg:xA l off n with _|cs;simp[hg]at h;simp[hg,zA]at h;subst h;have bA:(aJ m cs).length=n:=by rw[yK];exact fm hg
  have:=run_loadCells_list (P:=P) w ⟨m.blk i,m.sh i+off,none⟩ (aJ m cs) (fun j u hu=>by rw[mY,List.getElem?_map]at hu;rcases hc:cs[j]? with _|u';simp[hc]at hu;simp[hc]at hu;subst hu;rw[yH,Nat.add_assoc];exact hr.cell (z5z hg hc));rw[bA]at this;simp[o6 hT w hs,this,aI]
 |false=>simp[hag,zD,jA]at h;have:=hr.cell h;simp[this]
def z7z{K:X->M->Bool}{d:Nat}{b:Bool}(hK:∀t v w,K t v=true->(Instr.checkKey b d t (aI m v)).run P w=.ok () w)(cs:I M)(fs:I Field)(h:Ls T K cs fs=true):
  (forIn fs PUnit.unit (fun f _=>
    if f.name ≠ "_" then (do
     let x <-part f.type ⟨aJ m cs⟩ f.offset
     Instr.checkKey b d f.type x
     pure (ForInStep.yield PUnit.unit))
    else pure (ForInStep.yield PUnit.unit)):Sem PUnit).run P w=.ok PUnit.unit w:=by induction fs with|nil=>simp|cons f fs ih=>simp only[Ls]at h;simp only[List.forIn_cons];split at h;rename_i hn;rcases hp:GP T f.type cs f.offset with _|v;simp[hp]at h;simp only[hp]at h;rcases hk:K f.type v with _|_;simp[hk]at h;simp only[hk,zC]at h;have h1:=Pj hT m w hp;have h2:=hK f.type v w hk;simp only[hn,ne_eq,not_false_eq_true,if_true,zK,h1,zJ,h2,zL];exact ih h;rename_i hn;simp only[hn,if_false,zK,zL,zJ];exact ih h
def Oj(b:Bool)(d k:Nat)(w:World)(h:pA T d t v=true):(Instr.checkKey b (d+k) t (aI m v)).run P w=.ok () w:=by
 induction d generalizing t v w with
 |zero=>simp[pA]at h|succ d ih=>
  have K3:d+1+k=(d+k)+1:=by omega
  rw[K3];simp only[pA]at h;rcases hd:T.und t with _|ty;simp[hd]at h;have hu:=iK hT w hd;cases ty with
  |int kk=>simp[Instr.checkKey,hu]|string=>simp[Instr.checkKey,hu]
  |bool=>simp[Instr.checkKey,hu]|struct fs=>
   simp only[hd]at h;cases v with
   |agg cs=>obtain⟨cs⟩:=cs;simp only at h;have:=z7z hT m w (b:=b) (d:=d+k) (fun t v w hk=>ih w hk) cs fs.toList h;simp only[Instr.checkKey,zK,hu,zJ,aI,iJ];rw[<-Array.forIn_toList,this];rfl
   |_=>simp at h
  |_=>simp[hd]at h
def z2j{kt:X}{k:M}(es:I MapEntry)(i:Nat){r:V (Nat×M)}(h:rE T kt k es i=some r):
  (Instr.findAsking kt (aI m k) (es.map (fF m)) i).run P w=.ok (r.map fun p=>(p.1,aI m p.2)) w:=by induction es generalizing i with|nil=>simp[rE]at h;subst h;simp[Instr.findAsking]|cons e es ih=>simp[rE]at h;rcases he:eqv T 50 kt k e.key with _|b;simp[he]at h;have hq:=jv hT m w he;rcases b with _|_;simp[he]at h;simpa[Instr.findAsking,fF,hq]using ih (i+1) h;simp[he]at h;subst h;simp[Instr.findAsking,fF,hq]
omit hT in
def Ao{kt:X}{d:TypeDesc}(hd:T.und kt=some d){k:M}(es:I MapEntry)(i:Nat){r r':V (Nat×M)}(h:rE T kt k es i=some r)
  (h':Instr.findNow d (aI m k) (es.map (fF m)) i=some r'):r'=r.map fun p=>(p.1,aI m p.2):=by
 induction es generalizing i with
 |nil=>simp[rE]at h;subst h;simp[Instr.findNow]at h';simp[<-h']|cons e es ih=>
  simp[rE]at h;simp[zQ,Instr.findNow]at h';rcases he:eqv T 50 kt k e.key with _|b;simp[he]at h;have key:∀b',Instr.sameNow d (aI m k) (fF m e).key=some b'->b'=b:=by intro b' cV;simp[fF]at cV;rcases qv3 he with⟨x,y,hx,hy⟩|⟨kk,x,k',y,hx,hy⟩|⟨x,y,hx,hy⟩|⟨x,y,hx,hy⟩|⟨x,n,c,y,n',c',hx,hy⟩|⟨x,y,hx,hy⟩|⟨x,y,hx,hy⟩|⟨x,n,c,hx,hy⟩;rw[hx,hy]at cV he;cases d<;>simp[Instr.sameNow,aI]at cV;simp[eqv,hd]at he;exact cV.symm.trans he;rw[hx,hy]at cV he;cases d<;>simp[Instr.sameNow,aI]at cV;simp[eqv,hd]at he;exact cV.2.symm.trans he.2;rw[hx,hy]at cV he;cases d<;>simp[Instr.sameNow,aI]at cV;simp[eqv,hd]at he;rw[<-cV,<-he,vp,beq_toListBytes,ByteArray.toList_eq,ByteArray.toList_eq];rw[hx,hy]at cV;cases x<;>cases y<;>cases d<;>simp[Instr.sameNow,aI]at cV;rw[hx,hy]at cV;cases x<;>cases y<;>cases d<;>simp[Instr.sameNow,aI]at cV;rw[hx,hy]at cV;cases x<;>cases y<;>cases d<;>simp[Instr.sameNow,aI]at cV;rw[hx,hy]at cV;cases d<;>simp[Instr.sameNow,aI]at cV;rw[hx,hy]at cV;cases d<;>simp[Instr.sameNow,aI]at cV
  rcases hsn:Instr.sameNow d (aI m k) (fF m e).key with _|b';simp[hsn]at h';have:=key b' hsn;subst this;rcases b' with _|_;simp[he]at h;simp[hsn]at h';exact ih (i+1) h h';simp[he]at h;subst h;simp[hsn]at h';simp[<-h',fF]
def OQ{kt:X}{d:TypeDesc}(hd:T.und kt=some d){k:M}{es:I MapEntry}{r:V (Nat×M)}(h:rE T kt k es 0=some r):
  (Instr.findKey kt (aI m k) (es.map (fF m))).run P w=.ok (r.map fun p=>(p.1,aI m p.2)) w:=by unfold Instr.findKey;simp[zK,iK hT w hd,zJ];rcases hn:Instr.findNow d (aI m k) (es.map (fF m)) 0 with _|r';exact z2j hT m w es 0 h;simp[Ao m hd es 0 h hn]
omit hT in
def js{d:Nat}{kt:X}{v:M}(h:pA T d kt v=true):∃ty,T.und kt=some ty:=by cases d with|zero=>simp[pA]at h|succ d=>simp[pA]at h;rcases hd:T.und kt with _|ty;simp[hd]at h;exact⟨ty,rfl⟩
omit hT in
def A_{s:S}{i sz:Nat}{l:I M}(h:EQ s i sz=some l):∃e md,lk s.h i=some (.inl (l,e,md))/\(md=1/\e=sz+1\/md=sz+2):=by unfold EQ at h;rcases hl:lk s.h i with _|b;simp[hl]at h;rcases b with⟨l',e',md'⟩|⟨es,c⟩;rcases md' with _ |_ |n;simp[hl]at h;simp[hl,beq_eq]at h;by_cases he:e'=sz+1;simp[he,yC,zC,zA]at h;subst h;exact⟨_,_,rfl,.inl ⟨rfl,he⟩⟩;simp[he]at h;simp[hl,beq_eq]at h;by_cases he:n=sz;simp[he,yC,zC,zA]at h;subst h;exact⟨_,_,rfl,.inr (by rw[he])⟩;simp[he]at h;simp[hl]at h
omit hT in
def ji{s:S}(hf:Fits m s w){i c sz:Nat}{l:I M}(hl:EQ s i (sz+1)=some l){off n:Nat}(ho:off=bR c*(sz+1))(hn:off+n*(sz+1)<=l.length):n+bR c<=m.cp i:=by
 have⟨e,md,hl,qQ⟩:=A_ hl;have h3:l.length<=m.cp i*(sz+1):=by rcases qQ with⟨rfl,rfl⟩|rfl;have⟨_,_,_,_,_,h3⟩:=hf.ok i _ hl;exact h3 _ rfl;have⟨pr,rest,_,_,h3⟩:=hf.ok i _ hl;omega
 have:(n+bR c)*(sz+1)<=m.cp i*(sz+1):=by rw[Nat.add_mul];omega
 exact Nat.le_of_mul_le_mul_right this (by omega)
def z62(hf:Fits m s w){x:M}{lo hi mx:V M}(h:GT T s t x lo hi mx=some v):
  (Instr.sliceAt t (aI m x) (lo.map (aI m)) (hi.map (aI m)) (mx.map (aI m))).run P w=.ok (aI m v) w:=by
 unfold GT at h;rcases hd:T.und t with _|dd;simp[hd]at h;cases dd with
 |slice e=>
  cases x with
  |slice p n c=>
   rcases p with _|a;simp[hd]at h;simp[hd]at h;cases hc:Nat.blt c bY with
   |true=>simp[hc]at h|false=>
    have mQ:¬ c<bY:=Qk hc;simp[hc,zD]at h;rcases hs:cO T e with _|sz;simp[hs]at h;simp[hs]at h;rcases hr:EQ s a.block sz with _|l;simp[hr]at h;simp[hr,beq_eq]at h;by_cases eQ:a.off=bR c*sz;rw[decide_eq_true eQ]at h;simp[zC]at h;rcases f0:Nat.blt 0 sz with _|_;simp[f0]at h;have tL:0<sz:=JA f0;simp[f0,zC]at h;obtain⟨sz,rfl⟩:∃q,sz=q+1:=⟨sz-1,by omega⟩;have⟨_,_,NE,_⟩:=A_ hr;have hl:=hr;have gX:=hf.bd _ _ NE;have uS:aI m (.slice (some a) n c)=.slice (some ⟨m.blk a.block,m.sh a.block+a.off,none⟩) n (m.cp a.block-bR c):=by simp[aI,bX,mQ]
    have CE:(l.length-a.off)/(sz+1)<=m.cp a.block-bR c:=by
     rcases Nat.eq_zero_or_pos ((l.length-a.off)/(sz+1))with h0 |hp;omega;have oN:=Nat.div_mul_le_self (l.length-a.off) (sz+1);have wQ:a.off<=l.length:=by rcases Nat.lt_or_ge l.length a.off with aE |wQ;rw[show l.length-a.off=0 by omega]at hp;simp at hp;exact wQ
     have:=ji m w hf (c:=c) (n:=(l.length-a.off)/(sz+1)) (off:=a.off) hl eQ (by omega);omega
    have hu:=iK hT w hd;cases mx with
    |some vm=>
     simp only at h;rcases wZ:jY vm ((l.length-a.off)/(sz+1))with _|M0;simp[wZ]at h;simp[wZ]at h;rcases pZ:Nat.ble (a.off+M0*(sz+1)) l.length with _|_;simp[pZ]at h;simp[pZ,zC]at h;rcases hb:i7 n M0 lo hi (some vm)with _|q;simp[hb]at h;have⟨l1,hh,v10⟩:=q;simp[hb]at h;rcases hMc:Nat.blt v10 bY with _|_;simp[hMc]at h;simp[hMc,zC,zA]at h;subst h;have Cv:v10<bY:=JA hMc;have hM0:M0<=m.cp a.block-bR c:=by have:=(SR (P:=P) m w wZ _ (zF _) .index).2;omega
     have⟨b1,b2,b3,_⟩:=OZ (P:=P) (isS:=true) m w hb hM0;simp[Option.isSome_some,if_true,zM]at b1;have KR:v10-l1<bY:=Nat.lt_of_le_of_lt (Nat.sub_le _ _) Cv;have cX:(Instr.sliceAt t (aI m (.slice (some a) n c)) (lo.map (aI m)) (hi.map (aI m)) ((some vm).map (aI m))).run P w=.ok (.slice (if v10=l1 then some ⟨m.blk a.block,m.sh a.block+a.off,none⟩else some ⟨m.blk a.block,m.sh a.block+a.off+l1*(sz+1),none⟩) (hh-l1) (v10-l1)) w:=by rw[uS];simp only[Instr.sliceAt,zK,hu,zJ,Instr.slice,b1,o6 hT w hs,zL,zM,yH]
     rw[cX];by_cases CJ:v10=l1;rw[CJ]at KR ⊢;simp only[yC,zC,aI,if_true,bX,if_pos KR];simp only[decide_eq_false CJ,zD,aI,if_neg CJ,bX,if_pos KR,Nat.add_assoc]
    |none=>
     simp only at h;rcases hb:i7 n ((l.length-a.off)/(sz+1)) lo hi none with _|q;simp[hb]at h;have⟨l1,hh,v10⟩:=q;simp[hb]at h;rcases pZ:Nat.ble (a.off+hh*(sz+1)) l.length with _|_;simp[pZ]at h;simp[pZ,zC]at h;have Cc:a.off+hh*(sz+1)<=l.length:=zY pZ;have hhC:=ji m w hf (c:=c) (n:=hh) (off:=a.off) hl eQ Cc;have⟨b1,b2,_,b4⟩:=OZ (P:=P) (isS:=true) m w hb CE;simp[Option.isSome_none,Bool.false_eq_true,if_false]at b1;have cX:(Instr.sliceAt t (aI m (.slice (some a) n c)) (lo.map (aI m)) (hi.map (aI m)) ((none:V M).map (aI m))).run P w=.ok (.slice (if m.cp a.block-bR c=l1 then some ⟨m.blk a.block,m.sh a.block+a.off,none⟩else some ⟨m.blk a.block,m.sh a.block+a.off+l1*(sz+1),none⟩) (hh-l1) (m.cp a.block-bR c-l1)) w:=by rw[uS];simp[Instr.sliceAt,zK,hu,zJ,Instr.slice,b1,o6 hT w hs,zL,zM,yH]
     cases l1 with
     |zero=>simp[zA]at h;subst h;rw[Nat.sub_zero,Nat.sub_zero,Nat.zero_mul,Nat.add_zero]at cX;by_cases hC:m.cp a.block-bR c=0;rw[if_pos hC]at cX;rw[cX];simp[aI,bX,if_neg mQ];rw[if_neg hC]at cX;rw[cX];simp[aI,bX,if_neg mQ]|succ l1=>
      simp only at h;rcases aE:Nat.blt (l1+1) hh with _|_;simp[aE]at h;have wO:l1+1<hh:=JA aE;simp[aE,zC,zA]at h;subst h;have d5:¬ m.cp a.block-bR c=l1+1:=by omega
      have v7:¬ c+(l1+1)<bY:=fun hh=>mQ (Nat.lt_of_le_of_lt (Nat.le_add_right _ _) hh);have B6:bR (c+(l1+1))=bR c+(l1+1):=qyj (Nat.le_of_not_lt mQ) _;rw[cX];simp[aI,bX,if_neg v7,if_neg d5,B6,Nat.add_assoc,Nat.sub_sub]
    rw[decide_eq_false eQ]at h;simp at h
  |_=>simp[hd]at h
 |_=>simp[hd]at h
def xv(hf:Fits m s w){tm:I M}{a:Act}(ha:a.tmps=⟨aJ m tm⟩)(o:Oper)(h:o3 T tm s o.op=some v): (execOp a.eval o).run P w=.ok (.value (aI m v)) w:=by
  have⟨dst,op,type,pos,after,guard⟩:=o;simp only at h;unfold o3 at h;cases op with
  |load t x=>
    simp only at h;rcases hx:evalO tm x with _|u;simp[hx]at h;cases u with
    |pointer p=>rcases p with _|b;simp[hx]at h;simp[hx]at h;rcases hl:lk s.h b.block with _|blk;simp[hl]at h;rcases blk with⟨l,e,md⟩|⟨es,c⟩;simp[hl]at h;have:=xy hT m w hf hl h;simp[execOp,lF ha hx,aI,Instr.loadAt,Instr.sureAddr,this];simp[hl]at h
    |_=> simp[hx]at h
  |slice t x lo hi mx=>simp only at h;rcases hx:evalO tm x with _|u;simp[hx]at h;rcases h1:sD tm lo with _|l;simp[hx,h1]at h;rcases h2:sD tm hi with _|hh;simp[hx,h1,h2]at h;rcases h3:sD tm mx with _|mm;simp[hx,h1,h2,h3]at h;simp[hx,h1,h2,h3]at h;have:=z62 hT m w hf h;simp only[execOp,lF ha hx,OU ha h1,OU ha h2,OU ha h3];rw[zK,this];rfl
  |lookup t x k ok=>
    simp only at h;rcases hd:T.und t with _|d;simp[hd]at h;cases d with
    |map kt et=>
      simp[hd]at h;rcases hx:evalO tm x with _|u;simp[hx]at h;cases u with
      |map r=>
        simp[hx]at h;rcases hk:evalO tm k with _|kv;simp[hk]at h;simp[hk]at h;rcases rJ:pA T 50 kt kv with _|_;simp[rJ]at h;simp[rJ,zC]at h;have⟨ty,pI⟩:=js rJ;have main : ∀ es : I MapEntry, (match rE T kt kv es 0 with
              |none=> none|some (some (_,v))=> some (cond ok (.tuple #[v, .bool true]) v)
              |some none=> match T.inf et with
                |some (_,_,z)=> some (cond ok (.tuple #[z, .bool false]) z)|none=> none)=some v->
            (Instr.checkKey (es.map (fF m)).toArray.isEmpty 10000 kt (aI m kv)).run P w=.ok () w/\
            ((∃pi pv,(Instr.findKey kt (aI m kv) (es.map (fF m))).run P w=.ok (some (pi,pv)) w/\aI m v=if ok=true then Value.tuple #[pv, .bool true]else pv)\/
             (∃z,(Instr.findKey kt (aI m kv) (es.map (fF m))).run P w=.ok none w/\(zeroValue et).run P w=.ok z w/\aI m v=if ok=true then Value.tuple #[z, .bool false]else z)):=by
          intro es he;refine⟨Oj hT m _ 50 9950 w rJ, ?_⟩;rcases hfx:rE T kt kv es 0 with _|fr;simp[hfx]at he;have h2:=OQ hT m w pI hfx;cases fr with
          |none=>simp[hfx]at he;rcases hi:T.inf et with _|y;simp[hi]at he;have⟨y1,y2,z⟩:=y;have⟨hz,uN⟩:=J7 hT m w hi;simp only at hz uN;simp[hi]at he;subst he;refine .inr ⟨z,h2,hz, ?_⟩;cases ok<;>simp[aI,aJ,uN]
          |some p=>have⟨pi,pv⟩:=p;simp[hfx]at he;subst he;refine .inl ⟨pi,aI m pv,h2, ?_⟩;cases ok<;>simp[aI,aJ]
        cases r with
        |none=>simp only at h;obtain⟨h1,⟨pi,pv,h2,h3⟩|⟨z,h2,HN,h3⟩⟩:=main [] h;simp[List.map_nil]at h1 h2;simp[execOp,lF ha hx,lF ha hk,zK,Instr.lookup,iK hT w hd,zJ,aI,zL,h1,h2,h3];simp[List.map_nil]at h1 h2;simp[execOp,lF ha hx,lF ha hk,zK,Instr.lookup,iK hT w hd,zJ,aI,zL,h1,h2,HN,h3]
        |some r=>simp only at h;rcases hl:lk s.h r with _|blk;simp[hl]at h;rcases blk with x |⟨es,c⟩;simp[hl]at h;simp only[hl]at h;have hb:w.heap[m.blk r]? = some (.map (es.map (fF m)).toArray c):=hf.ok r _ hl;obtain⟨h1,⟨pi,pv,h2,h3⟩|⟨z,h2,HN,h3⟩⟩:=main es h;simp only[execOp,lF ha hx,lF ha hk,zK,Instr.lookup,iK hT w hd,zJ,aI,zL,MQ hb,h1,h2,h3];simp only[execOp,lF ha hx,lF ha hk,zK,Instr.lookup,iK hT w hd,zJ,aI,zL,MQ hb,h1,h2,HN,h3]
      |_=> simp[hx]at h
    |_=> simp[hd]at h
  |call c=>
    have⟨callee,args,ats⟩:=c;simp only at h;cases callee with
    |builtin b=>
      cases b with
      |len=>
        simp only at h;rcases hx:kS tm args.toList with _|vs;simp[hx]at h;rcases vs with _ |⟨x,_ |⟨y,l⟩⟩;simp[hx]at h;cases x with
        |map r=>
          have⟨ats⟩:=ats;rcases ats with _|⟨t,ts⟩;simp[hx]at h;simp[hx]at h;have e1:=uJ ha hx;simp only[aJ]at e1;rcases hd:T.und t with _|d;simp[hd]at h;cases d with
          |map kt et=>
            simp only[hd]at h;simp only[execOp,zK,resolve,zL,zJ,invoke,builtin,e1];cases r with
            |none=>simp at h;subst h;simp[Builtin.len_,iK hT w hd,aI,goInt]|some r=>simp only at h;rcases hl:lk s.h r with _|blk;simp[hl]at h;rcases blk with x |⟨es,c⟩;simp[hl]at h;simp[hl,zA]at h;subst h;have hb:w.heap[m.blk r]? = some (.map (es.map (fF m)).toArray c):=hf.ok r _ hl;simp[Builtin.len_,iK hT w hd,aI,goInt,MQ hb]
          |_=> simp[hd]at h
        |_=> simp[hx]at h
        simp[hx]at h
      |_=> simp at h
    |_=> simp at h
  |_=> simp at h
end
end Go.Rx
