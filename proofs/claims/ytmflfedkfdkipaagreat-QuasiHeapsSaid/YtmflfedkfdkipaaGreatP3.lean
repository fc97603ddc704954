import Derived.Laws.StructEq
import Derived.Test.YtmflfedkfdkipaaGreatP2
set_option linter.all false
set_option maxHeartbeats 2000000
open List Go.IntKind
open Nat hiding beq_eq
namespace Go.Rx
open Go
structure j0(P:Ib)(T:Tb):Prop where
 G4:∀t d,T.G4 t=some d->P.underlying t=some d
 inf:∀t a b z,T.inf t=some (a,b,z)->plain z=true/\∃i,P.info? t=some i/\i.size=a/\i.bytes=b/\i.zero=some z
 fn : ∀ f g, T.fn f = some g → P.funcs[f]? = some g ∧ (g.body.isSome = true → (g.name == "runtime.NumGoroutine") = false)
 eqs:∀t,T.eqs t=true->P.stoodInHeld t=false/\P.eqGuardType P.depth t=false
 mixed:P.follows .mixedOrders=true
def jT{b:Type}(l:X b)(n:Nat):nth l n=l[n]?:=by induction l generalizing n with|nil=>simp[nth]|cons a l c=>cases n<;>simp[nth,c]
variable{l:X I}{n:Nat}{r:X I}
def qyq(h:IW l n=some r):r=l.take n/\n<=l.length:=by induction l generalizing n r with|nil=>cases n<;>simp_all[IW]|cons v l c=>cases n with|zero=>simp_all[IW]|succ n=>simp only[IW]at h;rcases a:IW l n with _|r';simp[a]at h;simp[a]at h;obtain⟨e,b⟩:=c a;subst h;simp[e];exact b
variable{off:Nat}
def sx(h:wK l off n=some r):r=(l.drop off).take n/\n<=l.length-off:=by have:=qyq h;simpa using this
def quw(h:wK l off n=some r):r.length=n:=by obtain⟨rfl,a⟩:=sx h;simp;omega
def z3g(h:wK l off n=some r){j:Nat}{v:I}(a:r[j]? = some v):l[off+j]? = some v:=by obtain⟨rfl,b⟩:=sx h;rw[l8]at a;split at a;simpa using a;cases a
def z2o{a:X I}(h:GP l a=some r):a.length<=l.length/\r=a++l.drop a.length:=by induction a generalizing l r with|nil=>simp[GP]at h;simp[h]|cons v a e=>obtain _|⟨x,l⟩:=l;simp[GP]at h;simp only[GP]at h;rcases b:GP l a with _|r';simp[b]at h;simp[b]at h;obtain⟨c,d⟩:=e b;subst h;simp[d];exact c
def qsg{a:X I}(h:AQ l off a=some r):off+a.length<=l.length/\r=l.take off++a++l.drop (off+a.length):=by
 induction off generalizing l r with
 |zero=>
  have e:GP l a=some r:=by cases l<;>simpa[AQ]using h
  obtain⟨d,b⟩:=z2o e;simp[b];exact d
 |succ n f=>
  obtain _|⟨x,l⟩:=l;simp[AQ]at h;simp only[AQ]at h;rcases c:AQ l n a with _|r';simp[c]at h;simp[c]at h;obtain⟨d,b⟩:=f c;subst h;simp only[zO,Fe,fV,b];refine⟨by omega,?_⟩;have:n+1+a.length=(n+a.length)+1:=by omega
  rw[this,drop_succ_cons]
def qxn(h:xD l=true):∀v∈l,v.oneCell'=true:=by induction l with|nil=>simp|cons v l c=>simp only[xD]at h;rcases b:v.oneCell' with _|_;simp[b]at h;simp[b]at h;intro u a;obtain rfl |a:=zI.1 a;exact b;exact c h u a
def qnr{m:Nm}(h:xD l=true):∀v∈aF m l,v.oneCell'=true:=by intro v a;rw[lM]at a;obtain⟨u,b,rfl⟩:=mem_map.1 a;rw[qu6];exact qxn h u b
mutual
def PR(m:Nm):(v:I)->plain v=true->G0 m v=v
 |.bool _,_=>by simp[G0]
 |.int _ _,_=>by simp[G0]
 |.string _,_=>by simp[G0]
 |.pointer none,_=>by simp[G0]
 |.slice none _ _,_=>by simp[G0]
 |.map none,_=>by simp[G0]
 |.nilFunc,_=>by simp[G0]
 |.nilIface,_=>by simp[G0]
 |.agg ⟨l⟩,h=>by simp only[plain]at h;simp[G0,qjp m l h]
 |.tuple ⟨l⟩,h=>by simp only[plain]at h;simp[G0,qjp m l h]
 |.float _ _,h=>by simp[plain]at h
 |.complex _ _ _,h=>by simp[plain]at h
 |.pointer (some _),h=>by simp[plain]at h
 |.slice (some _) _ _,h=>by simp[plain]at h
 |.map (some _),h=>by simp[plain]at h
 |.chan _,h=>by simp[plain]at h
 |.func _ _ _,h=>by simp[plain]at h
 |.iface _ _,h=>by simp[plain]at h
def qjp(m:Nm):(l:X I)->TU l=true->aF m l=l
 |[],_=>by simp[aF]
 |v::l,h=>by simp only[TU]at h;rcases a:plain v with _|_;simp[a]at h;simp[a]at h;simp[aF,PR m v a,qjp m l h]
end
def bo(a b:X RX):lX a b=(a==b):=by
 induction a generalizing b with
 |nil=>cases b<;>simp[lX]|cons x a c=>
  obtain _|⟨y,b⟩:=b;simp[lX];simp only[lX,beq_eq,c];by_cases e:x=y;subst e;simp;have:x.toNat≠y.toNat:=fun h=>e (UInt8.toNat_inj.1 h)
  simp[this,e]
def qxu(a b:X RX):lE a b=Op.bytesLess a b:=by
 induction a generalizing b with
 |nil=>cases b<;>simp[lE,Op.bytesLess]|cons x a f=>
  obtain _|⟨y,b⟩:=b;simp[lE,Op.bytesLess];simp only[lE,Op.bytesLess,f,beq_eq];have d:blt x.toNat y.toNat=decide (x<y):=by rw[ve];simp[tp,UInt8.lt_iff_toNat_lt]
  rw[d];by_cases c:x<y;simp[c];by_cases e:x=y;subst e;simp;have:x.toNat≠y.toNat:=fun h=>e<|UInt8.toNat_inj.1 h;simp[c,e,this]
section
variable{P:Ib}{T:Tb}(c:j0 P T)(m:Nm){tm:X I}{a:Act}(w:Jb)
include c
variable{t:TypeId}
def iI{d:TypeDesc}(h:T.G4 t=some d):(underlying t).run P w=.ok d w:=run_underlying (c.G4 t d h) w
def qS(h:cC T t=some n):(sizeOf t).run P w=.ok n w:=by unfold cC at h;rcases d:T.inf t with _|x;simp[d]at h;obtain⟨a,b,z⟩:=x;simp[d]at h;obtain⟨_,i,e,f,_,_⟩:=c.inf t a b z d;simp[sizeOf,typeInfo,e,f,h]
def NE{x:Nat×Nat×I}(h:T.inf t=some x):(zeroValue t).run P w=.ok x.2.2 w/\G0 m x.2.2=x.2.2:=by obtain⟨a,b,z⟩:=x;obtain⟨f,i,d,_,_,e⟩:=c.inf t a b z h;exact⟨by simp[zeroValue,typeInfo,d,e],PR m z f⟩
def qsx{d:TypeDesc}(h:T.G4 t=some d):(isAgg t).run P w=.ok (rH d) w:=by unfold isAgg;simp only[zK,iI c w h,zJ];cases d<;>rfl
def Tc{g:X I}{v:I}(h:GV T t g off=some v):
  (part t ⟨aF m g⟩ off).run P w=.ok (G0 m v) w:=by
 unfold GV at h;rcases b:T.G4 t with _|d;simp[b]at h;simp only[b]at h;unfold part;simp only[zK,qsx c w b,zJ];cases f:rH d with
 |true=>simp only[f,zC]at h;rcases e:cC T t with _|n;simp[e]at h;simp[e]at h;subst h;simp only[It,zK,qS c w e,zJ,zL,G0];simp[lM,zy,zp]
 |false=>simp only[f,zD,jT]at h;simp[lM,h]
def z9y{E:TypeId->I->I->A Rl}{d:Nat}(s:∀t x y b w,E t x y=some b->(Op.equalIn d t (G0 m x)<|G0 m y).run P w=.ok b w)
  (o p:X I) (e:X Field) {b:Rl} (w:Jb) (h:G8 T E o p e=some b):
  (Op.eqFields d ⟨aF m o⟩ ⟨aF m p⟩ e).run P w=.ok b w:=by induction e generalizing w with|nil=>simp[G8]at h;simp[Op.eqFields,h]|cons f e q=>simp only[G8]at h;simp only[Op.eqFields];split at h;rename_i k;simp only[k,dG,gP,It];rcases i:GV T f.type o f.offset with _|x;simp[i]at h;simp only[i]at h;rcases j:GV T f.type p f.offset with _|y;simp[j]at h;simp only[j]at h;rcases g:E f.type x y with _|r;simp[g]at h;simp only[zK,Tc c m w i,zJ,Tc c m w j,s _ _ _ _ w g];obtain _|_:=r;simp[g]at h;simp[h];simp only[g]at h;simpa using q w h;rename_i k;simp only[k,LX];exact q w h
def v15(d k:Nat){x y:I}{b:Rl}(w:Jb)(h:eqv T d t x y=some b):
  (Op.equalIn (d+k) t (G0 m x)<|G0 m y).run P w=.ok b w:=by
 induction d generalizing t x y b w with
 |zero=>simp[eqv]at h|succ d B=>
  have z:d+1+k=(d+k)+1:=by omega
  rw[z];simp only[eqv]at h;rcases f:T.G4 t with _|C;simp[f]at h;have g:=iI c w f;cases C with
  |bool=>simp only[f]at h;cases x<;>cases y<;>simp at h;subst h;simp[Op.equalIn,g,G0]|int kk=>simp only[f]at h;cases x<;>cases y<;>simp at h;obtain⟨rfl,h⟩:=h;simp[Op.equalIn,g,G0,h]
  |string=>simp only[f]at h;cases x<;>cases y<;>simp at h;subst h;rename_i E F;simp only[Op.equalIn,zK,g,G0,zJ,zL,bo];rw[beq_toListBytes,ByteArray.toList_eq,ByteArray.toList_eq]|pointer e=>
   simp only[f]at h;cases x<;>cases y<;>try simp at h
   rename_i p q;cases p<;>cases q<;>simp at h<;>subst h<;>simp[Op.equalIn,g,G0]
  |slice e=>
   simp only[f]at h;cases x<;>cases y<;>try simp at h
   rename_i p _ _ q _ _;cases p<;>cases q<;>simp at h<;>subst h<;>simp[Op.equalIn,g,G0];rename_i p q _ _;cases p<;>cases q<;>simp at h<;>subst h<;>simp[Op.equalIn,g,G0]
  |map e D=>
   simp only[f]at h;cases x<;>cases y<;>try simp at h
   rename_i p q;cases p<;>cases q<;>simp at h<;>subst h<;>simp[Op.equalIn,g,G0]
  |struct u=>
   simp only[f]at h;cases x<;>cases y<;>simp at h;rename_i j o;obtain⟨j⟩:=j;obtain⟨o⟩:=o;rcases i:T.eqs t with _|_;simp[i]at h;simp only[i,zC]at h;have s:=c.G4 t _ f;have v:P.fieldsOf t=u:=by simp[Program.fieldsOf,s]
   simp only[G0,hJ];rw[run_equalIn_struct w (d+k) t _ _ (by rw[v];exact s) (c.eqs t i).1,v];exact z9y c m (fun t x y b w A=>B w A) j o u.toList w h
  |_=>simp[f]at h
end
end Go.Rx
namespace Go.Rx
open Go
variable{m:Nm}{tm:X I}{a:Act}{v:I}
def lN(d:a.tmps=⟨aF m tm⟩){x:Qo}(h:F8 tm x=some v):a.eval x=G0 m v:=by
 cases x with
 |tmp t=>simp only[F8,jT]at h;simp[Act.eval,d,lM,h]|const c=>simp only[F8]at h;rcases b:plain c with _|_;simp[b]at h;simp[b]at h;subst h;simp[Act.eval,PR m c b]
 |func f=>simp[F8]at h;subst h;simp[Act.eval,G0,aF]|global g=>simp[F8]at h
def z5j(e:a.tmps=⟨aF m tm⟩){l:X Qo}{d:X I}(h:oS tm l=some d):l.map a.eval=aF m d:=by induction l generalizing d with|nil=>simp[oS]at h;subst h;simp[aF]|cons x l f=>simp only[oS]at h;rcases b:F8 tm x with _|v;simp[b]at h;rcases c:oS tm l with _|r;simp[b,c]at h;simp[b,c]at h;subst h;simp[aF,lN e b,f c]
def HA(c:a.tmps=⟨aF m tm⟩){l:Ie Qo}{b:X I}(h:oS tm l.toList=some b):l.map a.eval=⟨aF m b⟩:=by rw[<-z5j c h];cases l;simp
def WG(e:a.tmps=⟨aF m tm⟩){l:X (Nat×Qo)}{d:X (Nat×I)}(h:J3 tm l=some d):
  l.map (fun p=>(p.1,a.eval p.2))=d.map (fun p=>(p.1,G0 m p.2)):=by induction l generalizing d with|nil=>simp[J3]at h;subst h;simp|cons x l f=>obtain⟨i,x⟩:=x;simp only[J3]at h;rcases b:F8 tm x with _|v;simp[b]at h;rcases c:J3 tm l with _|r;simp[b,c]at h;simp[b,c]at h;subst h;simp[lN e b,f c]
def Ml(c:a.tmps=⟨aF m tm⟩){x:A Qo}{v:A I}(h:wV tm x=some v):x.map a.eval=v.map (G0 m):=by obtain _|x:=x;simp[wV]at h;subst h;rfl;simp only[wV]at h;rcases b:F8 tm x with _|u;simp[b]at h;simp[b]at h;subst h;simp[lN c b]
def qrg(op:BinOp)(t:TypeId)(x y:Qo)(u v:I)(c : ∀a b, ¬ (u=.agg a/\v=.agg b))(d : ¬ (u=.nilIface/\v=.nilIface)): eqGuard op t x y u v=pure ():=by
  cases op<;>simp only[eqGuard]<;>first
    |rfl
    | (simp only [fX, XM, LX]
       split;simp_all;simp_all;rfl)
def z02(off:Nat):∀(b:X I)(k:Nat)(cells:X I),off+k+b.length<=cells.length->
  (b.zipIdx k).foldl (fun(c:Ie I) (p:I×Nat)=>c.setIfInBounds (off+p.2) p.1) ⟨cells⟩=⟨cells.take (off+k)++b++cells.drop (off+k+b.length)⟩
 |[],k,cells,_=>by simp
 |v::b,k,cells,h=>by
  simp only[zO]at h;simp only[QI,oe,qcF];rw[z02 off b (k+1) (cells.set (off+k) v) (by simp;omega)];congr 1;have d:(cells.set (off+k) v).take (off+(k+1))=cells.take (off+k)++[v]:=by rw[show off+(k+1)=off+k+1 by omega,take_set,take_succ_eq_append_getElem ag];rw[qb9 _ _ (by simp;omega)];simp[wv<|show off+k<=cells.length by omega]
  have e:(cells.set (off+k) v).drop (off+(k+1)+b.length)=cells.drop (off+k+(v::b).length):=by rw[drop_set_of_lt ag];congr 1;simp;omega
  rw[d,e];simp
def Sx(m:Nm)(place:Nat->A (Nat×Nat)):∀(b:X (Nat×I))(cells r:X I),F1 place cells b=some r->
  Instr.fill place ⟨aF m cells⟩ (b.map fun p=>(p.1,G0 m p.2))=some ⟨aF m r⟩
 |[],cells,r,h=>by simp[F1]at h;simp[Instr.fill,h]
 |(i,v)::b,cells,r,h=>by
  simp only[F1]at h;rcases d:place i with _|x;simp[d]at h;obtain⟨off,size⟩:=x;simp only[d,beq_eq]at h;by_cases f:v.cells.toList.length=size;simp only[f,yC,zC]at h;rcases e:AQ cells off v.cells.toList with _|c;simp[e]at h;simp only[e]at h;obtain⟨j,n⟩:=qsg e;have g:v.cells.size=size:=by simpa using f
  simp only[zQ,Instr.fill,d,bc,EV,g];have l:(decide (size≠size)||decide (off+size>(⟨aF m cells⟩:Ie I).size))=false:=by simp;simp[g]at j;omega
  rw[l];simp only[XM,LX];have o:((uS m v.cells).zipIdx.foldl (fun(k:Ie I) (p:I×Nat)=>k.setIfInBounds (off+p.2) p.1) ⟨aF m cells⟩)=⟨aF m c⟩:=by rw[<-Array.foldl_toList,Array.toList_zipIdx,mB,z02 off _ 0 _ (by simp;simpa using j)];rw[n];simp[lM,zy,zp]
  exact(congrArg (fun z=>Instr.fill place z<|b.map fun p=>(p.1,G0 m p.2)) o).trans (Sx m place b c r h);simp only[f,yB,zD]at h;cases h
variable{t:TypeId}{x:I}{y:I}
def qzs{T:Tb}{d:Nat}{r:Rl}(h:eqv T d t x y=some r):
  (∃a b,x=.bool a/\y=.bool b)\/(∃k a g b,x=.int k a/\y=.int g b)\/(∃a b,x=.string a/\y=.string b)\/(∃a b,x=.pointer a/\y=.pointer b)\/
  (∃a n c b i f,x=.slice a n c/\y=.slice b i f)\/(∃a b,x=.map a/\y=.map b)\/(∃a b,x=.agg a/\y=.agg b)\/(∃r n c,x=.chan (some r)/\y=.slice none n c):=by
 cases d with
 |zero=>simp[eqv]at h|succ d=>
  simp only[eqv]at h;rcases e:T.G4 t with _|j;simp[e]at h;cases j<;>simp only[e]at h<;>first
   |(simp at h;done)
   |(cases x<;>cases y<;>first |(simp at h;done)|(simp;done)|(rename_i p q _ _;cases p<;>cases q<;>simp at h ⊢))
section
variable{P:Ib}{T:Tb}(j:j0 P T)(m:Nm)(w:Jb)
include j
def v16(op:BinOp)(g i:Qo){b:Rl}(h:SD T t x y=some b):(eqGuard op t g i (G0 m x)<|G0 m y).run P w=.ok () w/\
  (binOp .eql t (G0 m x)<|G0 m y).run P w=.ok (.bool b) w/\(binOp .neq t (G0 m x)<|G0 m y).run P w=.ok (.bool<|!b) w:=by
 unfold SD at h;obtain⟨k,e⟩:∃k,∀u v,Op.equal t u v=Op.equalIn (k+1) t u v:=⟨9999,fun _ _=>rfl⟩;have fin:∀{x y:I}(d:(∀a c,¬ (G0 m x=.agg a/\G0 m y=.agg c))/\¬ (G0 m x=.nilIface/\G0 m y=.nilIface)),(eqGuard op t g i (G0 m x)<|G0 m y).run P w=.ok () w:=fun d=>by rw[qrg op t g i _ _ d.1 d.2];rfl
 split at h;rename_i f;have d:=iI j w f;cases h;exact⟨fin (by simp[G0]),by simp[G0,binOp,e,Op.equalIn,d],by simp[G0,binOp,e,Op.equalIn,d]⟩;rename_i a c f;have d:=iI j w f;cases a<;>cases c<;>simp[HC]at h<;>subst h<;>exact⟨fin (by simp[G0]),by simp[G0,binOp,e,Op.equalIn,d],by simp[G0,binOp,e,Op.equalIn,d]⟩;rename_i a c f;have d:=iI j w f;cases a<;>cases c<;>simp[HC]at h<;>subst h<;>exact⟨fin (by simp[G0]),by simp[G0,binOp,e,Op.equalIn,d],by simp[G0,binOp,e,Op.equalIn,d]⟩;rename_i a _ _ c _ _ f;have d:=iI j w f;cases a<;>cases c<;>simp[HC]at h<;>subst h<;>exact⟨fin (by simp[G0]),by simp[G0,binOp,e,Op.equalIn,d],by simp[G0,binOp,e,Op.equalIn,d]⟩;rename_i f;have d:=iI j w f;cases h;exact⟨fin (by simp[G0]),by simp[G0,binOp,e,Op.equalIn,d],by simp[G0,binOp,e,Op.equalIn,d]⟩;cases h
def OY{b:Rl}(h:eqv T 50 t x y=some b):(Op.equal t (G0 m x)<|G0 m y).run P w=.ok b w :=
 v15 j m 50 9950 w h
def v17(op:BinOp)(l n:Qo)(h:u6 T op t x y=some v):
  (do eqGuard op t l n (G0 m x) (G0 m y);binOp op t (G0 m x) (G0 m y):Sem I).run P w=.ok (G0 m v) w:=by
 by_cases f:∃k a d b,x=.int k a/\y=.int d b
 ·obtain⟨k,a,d,b,rfl,rfl⟩:=f;simp only[u6]at h;simp only[G0,eqGuard_at_int,zK,zL,zJ];by_cases g:k=d
  ·subst g;cases op<;>simp[lD]at h<;>first
    |(subst h;simp[binOp,Op.intArith,Op.intBits,Op.intCmp,G0];done)
    |(obtain⟨c,rfl⟩:=h;simp[binOp,Op.intDiv,Op.shift,G0,c];done)
    |(obtain⟨c,rfl⟩:=h;simp[binOp,Op.shift,G0];omega)
  cases op<;>simp[lD,g]at h<;>first
   |(obtain⟨c,rfl⟩:=h;simp[binOp,Op.shift,G0];omega)
 ·by_cases i:∃a b,x=.string a/\y=.string b
  ·obtain⟨a,b,rfl,rfl⟩:=i;simp only[u6]at h;simp only[G0,eqGuard_at_string,zK,zL,zJ];have o:a.toList=a.data.toList:=ByteArray.toList_eq a;have p:b.toList=b.data.toList:=ByteArray.toList_eq b;cases op<;>simp[IL]at h<;>first
    |(subst h;simp[binOp,Op.stringOp,G0,o,p,bo,qxu];done)
    |skip
   obtain⟨c,rfl⟩:=h;have u:¬ ((a.size+b.size:Nat):Int)>9223372036854775807:=by have r:a.size=a.data.size:=rfl;have s:b.size=b.data.size:=rfl;rw[r,s];omega
   simp only[binOp,Op.stringOp,max_i64,iy u,zL,G0];have q:a++b=⟨(a.data.toList++b.data.toList).toArray⟩:=by apply ByteArray.ext;simp
   rw[q]
  unfold u6 at h;split at h;exact absurd ⟨_,_,_,_,rfl,rfl⟩ f;exact absurd ⟨_,_,rfl,rfl⟩ i;split at h;rename_i b z;obtain⟨e,g1,g2⟩:=v16 j m w op l n z;cases op<;>simp at h<;>subst h;simp[e,g1,G0];simp[e,g2,G0];cases h
omit j in
def v18{op:UnOp}{x v:I}(h:T5 op x=some v):(Op.unary op (G0 m x)).run P w=.ok (G0 m v) w:=by cases op<;>cases x<;>simp[T5]at h<;>subst h<;>simp[Op.unary,G0,Op.intArith,Op.intBits]
def z9u{src b:TypeId}(h:P6 T src b x=some v):(convert src b<|G0 m x).run P w=.ok (G0 m v) w:=by unfold P6 at h;rcases c:T.G4 src with _|d1;simp[c]at h;rcases d:T.G4 b with _|d2;simp[c,d]at h;simp only[c,d]at h;unfold convert;simp only[zK,iI j w c,iI j w d,zJ];cases d2<;>cases x<;>simp at h<;>subst h<;>cases d1<;>simp[G0,Conv.intToInt]
def qy8(b:X Field)(d:J6 T b=true):(b.mapM (fun f=>do pure (f.offset,<-sizeOf f.type):Field->Sem (Nat×Nat))).run P w=.ok (b.map fun f=>(f.offset,(cC T f.type).getD 0)) w:=by induction b with|nil=>simp|cons f b e=>simp only[J6]at d;rcases c:cC T f.type with _|n;simp[c]at d;simp only[c]at d;have g:=e d;simp only[Kc,zK,qS j w c,zJ,zL,g,zQ,c,gK]
omit j in
def qyn{b:X Field}(d:J6 T b=true){i:Nat}{f:Field}(c:b[i]? = some f):∃n,cC T f.type=some n:=by
 induction b generalizing i with
 |nil=>simp at c|cons g b h=>
  simp only[J6]at d;rcases e:cC T g.type with _|n;simp[e]at d;simp only[e]at d;cases i with
  |zero=>simp at c;subst c;exact⟨n,e⟩|succ i=>exact h d (by simpa using c)
def z4z{o:X (Nat×I)}(h:Sh T t o=some v):
  (Instr.build t (o.map fun p=>(p.1,G0 m p.2)).toArray).run P w=.ok (G0 m v) w:=by
 unfold Sh at h;rcases s:T.inf t with _|x;simp[s]at h;obtain⟨a,b,z⟩:=x;obtain⟨B,C⟩:=NE j m w s;simp only at B C;have A:z.cells=⟨aF m z.cells.toList⟩:=by
  conv=>lhs;rw[<-C,bc]
  cases z.cells;simp
 simp only[s]at h;unfold Instr.build;simp only[zK,B,zJ];rcases q:T.G4 t with _|d;simp[q]at h;simp only[iI j w q,zJ];cases d with
 |struct c=>
  simp only[q]at h;rcases g:J6 T c.toList with _|_;simp[g]at h;simp only[g,zC]at h;rcases l:F1 (ND T c.toList) z.cells.toList o with _|cs;simp[l]at h;simp[l]at h;subst h;have hm:=qy8 j w c.toList g;have D:(c.mapM (fun f=>do pure (f.offset,<-sizeOf f.type):Field->Sem (Nat×Nat))).run P w=.ok ⟨c.toList.map fun f=>(f.offset,(cC T f.type).getD 0)⟩ w:=by rw[qcN];simp only[Sem.run_map,hm,zJ]
  have F:(fun i=>(⟨c.toList.map fun f=>(f.offset,(cC T f.type).getD 0)⟩:Ie (Nat×Nat))[i]?)=ND T c.toList:=by
   funext i;simp only[ND,jT];rcases r:c.toList[i]? with _|f;simp at r;simp[r];obtain⟨n,E⟩:=qyn g r;have:c[i]? = some f:=by simpa using r
   simp[this,E]
  have u:=Sx m (ND T c.toList) o z.cells.toList cs l;simp only[zK,D,zJ,F];rw[A];simp only[u,zL,G0,hJ]
 |array n e=>simp only[q]at h;rcases g:cC T e with _|k;simp[g]at h;simp only[g]at h;rcases l:F1 (fun i=>some (i*k,k)) z.cells.toList o with _|cs;simp[l]at h;simp[l]at h;subst h;have u:=Sx m (fun i=>some (i*k,k)) o z.cells.toList cs l;simp only[zK,qS j w g,zJ];rw[A];simp only[u,zL,G0,hJ]
 |_=>simp[q]at h
omit j in
def H5(b o n:Nat):(⟨b,o,none⟩:Addr).add n=⟨b,o+n,none⟩:=Addr.add_lit b o n
def qy4{st:TypeId}{f:Nat}(h:Tm T st x f=some v):(Instr.fieldAt st (G0 m x) f).run P w=.ok (G0 m v) w:=by
 unfold Tm at h;rcases b:T.G4 st with _|d;simp[b]at h;cases d with
 |struct g=>
  simp only[b,jT]at h;rcases c:g.toList[f]? with _|fd;simp at c;simp[c]at h;have i:g[f]? = some fd:=by simpa using c
  simp only[c]at h;cases x with
  |pointer p=>obtain _|a:=p;simp at h;simp only at h;rcases e:cC T fd.type with _|n;simp[e]at h;cases n with|zero=>simp[e]at h|succ n=>simp[e]at h;subst h;simp[Instr.fieldAt,iI j w b,i,G0,Instr.sureAddr,fieldPlace,qS j w e,H5,my]
  |_=>simp at h
 |_=>simp[b]at h
def z5l{st:TypeId}{f:Nat}(h:Sc T st x f=some v):(Instr.field st (G0 m x) f).run P w=.ok (G0 m v) w:=by
 unfold Sc at h;rcases b:T.G4 st with _|d;simp[b]at h;cases d with
 |struct g=>
  simp only[b,jT]at h;rcases c:g.toList[f]? with _|fd;simp at c;simp[c]at h;have i:g[f]? = some fd:=by simpa using c
  simp only[c]at h;cases x with
  |agg e=>obtain⟨e⟩:=e;simp only at h;simp[Instr.field,iI j w b,i,G0,asAgg,Tc j m w h]
  |_=>simp at h
 |_=>simp[b]at h
omit j in
def Md{i:Int}{n:Nat}(h:tO i n=true):0<=i/\i<n:=by cases i with|ofNat k=>simp only[tO,tp]at h;exact⟨KR k,Int.ofNat_lt.2 h⟩|negSucc k=>simp[tO]at h
def qy6{ix:I}(h:Ti T t x ix=some v):(Instr.indexAt t (G0 m x)<|G0 m ix).run P w=.ok (G0 m v) w:=by
 unfold Ti at h;cases ix with
 |int k i=>
  simp only at h;rcases g:T.G4 t with _|d;simp[g]at h;cases d with
  |array n e=>
   simp only[g]at h;cases x with
   |pointer p=>obtain _|a:=p;simp at h;simp only at h;rcases b:tO i n with _|_;simp[b]at h;rcases f:cC T e with _|sz;simp[b,f]at h;simp[b,f]at h;subst h;have:=Md b;simp[Instr.indexAt,asIntOf,G0,iI j w g,Instr.sureAddr,this,qS j w f,H5,my]
   |_=>simp at h
  |slice e=>
   simp only[g]at h;cases x with
   |slice p n c=>obtain _|a:=p;simp at h;simp only at h;rcases b:tO i n with _|_;simp[b]at h;rcases f:cC T e with _|sz;simp[b,f]at h;simp[b,f]at h;subst h;have:=Md b;simp[Instr.indexAt,asIntOf,G0,iI j w g,this,qS j w f,H5,my]
   |_=>simp at h
  |_=>simp[g]at h
 |_=>simp at h
def z5t{ix:I}(h:Aq T t x ix=some v):(Instr.index t (G0 m x)<|G0 m ix).run P w=.ok (G0 m v) w:=by
 unfold Aq at h;cases ix with
 |int k i=>
  simp only at h;rcases f:T.G4 t with _|d;simp[f]at h;cases d with
  |array n e=>
   simp only[f]at h;cases x with
   |agg o=>obtain⟨o⟩:=o;simp only at h;rcases c:tO i n with _|_;simp[c]at h;rcases l:cC T e with _|sz;simp[c,l]at h;simp only[c,l,zC]at h;have:=Md c;simp[Instr.index,asIntOf,G0,iI j w f,this,qS j w l,Tc j m w h]
   |_=>simp at h
  |string=>
   simp only[f]at h;cases x with
   |string s=>
    simp only[jT]at h;rcases c:tO i s.data.toList.length with _|_;simp only[c,zD]at h;cases h;simp only[c,zC]at h;have r:=Md c;rcases g:s.data.toList[i.toNat]? with _|b;simp[g]at h;simp[g]at h;subst h;have q:s[i.toNat]? = some b:=by
     have:s.data[i.toNat]? = some b:=by simpa using g
     obtain⟨p,e⟩:=Array.getElem?_eq_some_iff.1 this;have u:i.toNat<s.size:=p;rw[getElem?_pos s i.toNat u];exact congrArg some e
    simp[Instr.index,asIntOf,G0,iI j w f,r.1,q]
   |_=>simp at h
  |_=>simp[f]at h
 |_=>simp at h
omit j in
def qy2{x v:I}{i:Nat}(h:Mk x i=some v):(Instr.extract (G0 m x) i).run P w=.ok (G0 m v) w:=by
 cases x with
 |tuple b=>obtain⟨b⟩:=b;simp only[Mk,jT]at h;simp[Instr.extract,G0,lM,h]
 |_=>simp[Mk]at h
end
end Go.Rx
namespace Go.Rx
open Go
section
variable{P:Ib}{T:Tb}(g:j0 P T)(m:Nm)(w:Jb)
include g
variable{v:I}
def Dt{t ty:TypeId}{ts:X TypeId}{x:I}(h:JM T t x=some v):(Builtin.len_ (t::ts).toArray ty #[G0 m x]).run P w=.ok (G0 m v) w:=by
 unfold JM at h;rcases c:T.G4 t with _|d;simp[c]at h;simp only[c]at h;have b:=iI g w c;cases d with
 |string=>cases x<;>simp at h;subst h;rename_i s;simp only[Builtin.len_,vv,Ih,zK,b,zJ,G0,goInt,zL]|slice e=>
  cases x with
  |slice a _ _=>simp only[zA]at h;subst h;cases a<;>simp[Builtin.len_,b,G0,goInt]|chan r=>obtain _|r:=r;simp at h;simp only[zA]at h;subst h;simp[Builtin.len_,b,G0,goInt]
  |_=>simp at h
 |array n e=>simp at h;subst h;simp[Builtin.len_,b,G0,goInt]|_=>simp at h
omit g in
def Dp{x v:I}{l:X I}(h:B0 Ah x l=some v):((aF m l).foldlM Builtin.max2 (G0 m x)).run P w=.ok (G0 m v) w:=by
 induction l generalizing x with
 |nil=>simp[B0]at h;simp[aF,h]|cons y l b=>
  simp only[B0]at h;rcases a:Ah x y with _|z;simp[a]at h;simp only[a]at h;have:(Builtin.max2 (G0 m x) (G0 m y)).run P w=.ok (G0 m z) w:=by cases x<;>cases y<;>simp[Ah]at a;subst a;simp[G0,Builtin.max2]
  simp only[aF,foldlM_cons,zK,this,zJ];exact b h
omit g in
def Dn{x v:I}{l:X I}(h:B0 TP x l=some v):((aF m l).foldlM Builtin.min2 (G0 m x)).run P w=.ok (G0 m v) w:=by
 induction l generalizing x with
 |nil=>simp[B0]at h;simp[aF,h]|cons y l b=>
  simp only[B0]at h;rcases a:TP x y with _|z;simp[a]at h;simp only[a]at h;have:(Builtin.min2 (G0 m x) (G0 m y)).run P w=.ok (G0 m z) w:=by cases x<;>cases y<;>simp[TP]at a;subst a;simp[G0,Builtin.min2]
  simp only[aF,foldlM_cons,zK,this,zJ];exact b h
omit g in
def T!{v:I}{y n:Nat}(h:y4 v y=some n)(a:Nat)(d:y<=a)(code:BoundsCode):(Instr.sliceBound (G0 m v) a code).run P w=.ok n w/\n<=y:=by
 cases v with
 |int k i=>
  simp only[y4]at h;rcases b:tO i (y+1)with _|_;simp[b]at h;simp[b]at h;subst h;have:=Md b;refine⟨?_,by omega⟩;have c:0<=i/\i<=(a:Int):=by omega
  simp[Instr.sliceBound,G0,asIntOf,c]
 |_=>simp[y4]at h
omit g in
def Tz{isS:Rl}{n c v00:Nat}{f e:A I}{l h M:Nat}(a:nQ n c f e=some (l,h,M))(k:c<=v00):
  (Instr.sliceBounds isS n v00 (f.map (G0 m)) (e.map (G0 m)) none).run P w=.ok (l,h,v00) w/\l<=h/\M=c/\(e.isSome=true->h<=c)/\(e=none->h=n):=by
 unfold nQ at a;cases e with
 |some u=>
  simp only at a;rcases j:y4 u c with _|h';simp[j]at a;simp only[j]at a;have i:=fun code=>T! (P:=P) m w j v00 k code
  have q2:=(i .index).2;cases f with
  |none=>simp at a;obtain⟨rfl,rfl,rfl⟩:=a;refine⟨?_,by omega,rfl,fun _=>q2,by simp⟩;simp[Instr.sliceBounds,(i _).1]
  |some x=>
   simp only at a;rcases b:y4 x h' with _|l';simp[b]at a;simp[b]at a;obtain⟨rfl,rfl,rfl⟩:=a;have d:=fun code=>T! (P:=P) m w b h' (zF _) code
   have q3:=(d .index).2;refine⟨?_,q3,rfl,fun _=>q2,by simp⟩;simp[Instr.sliceBounds,(i _).1,(d _).1]
 |none=>
  simp only at a;cases f with
  |none=>simp at a;obtain⟨rfl,rfl,rfl⟩:=a;refine⟨?_,by omega,rfl,by simp,by simp⟩;simp[Instr.sliceBounds]
  |some x=>
   simp only at a;rcases b:y4 x n with _|l';simp[b]at a;simp[b]at a;obtain⟨rfl,rfl,rfl⟩:=a;have d:=fun code=>T! (P:=P) m w b n (zF _) code
   have q3:=(d .index).2;refine⟨?_,q3,rfl,by simp,by simp⟩;simp[Instr.sliceBounds,(d _).1]
def z74{t:TypeId}{x:I}{o k:A I}(h:uZ T t x o k=some v):
  (Instr.sliceAt t (G0 m x) (o.map<|G0 m) (k.map<|G0 m) none).run P w=.ok (G0 m v) w:=by
 unfold uZ at h;rcases z:T.G4 t with _|d;simp[z]at h;simp only[z]at h;have s:=iI g w z;cases d with
 |slice e=>
  cases x with
  |slice a n c=>
   simp only at h;cases y:blt c cP with
   |false=>
    simp only[y,zD]at h;unfold ei at h;obtain _|a:=a;simp at h;cases n with
    |succ n=>simp at h|zero=>
     simp only at h;rcases f:nQ 0 0 o k with _|r;simp[f]at h;obtain⟨l,p,M⟩:=r;simp only[f]at h;cases l with
     |succ l=>simp at h|zero=>cases p with|succ l=>simp at h|zero=>cases M with|succ l=>simp at h|zero=>simp only at h;rcases b:cC T e with _|sz;simp[b]at h;simp only[b,zA]at h;subst h;obtain⟨j,_⟩:=Tz (P:=P) (isS:=true) (v00:=cM m a.block c) m w f<|qq _;simp only[Instr.sliceAt,zK,s,zJ,Instr.slice,G0,j,qS g w b,zL,zM,lg,sc,H5,ek,ite_self]
   |true=>
    simp only[y,zC]at h;have H:c<cP:=by simpa[tp]using y
    rcases f:nQ n c o k with _|r;simp[f]at h;obtain⟨l,p,M⟩:=r;simp only[f]at h;rcases b:cC T e with _|sz;simp[b]at h;simp only[b,zA]at h;subst h;have E:∀i,cM m i c=c:=fun i=>by simp[cM,H]
    obtain⟨j,F,B,C,D⟩:=Tz (P:=P) (isS:=true) (v00:=c) m w f<|zF _;subst B;have u:M-l<cP:=by omega
    cases a with|none=>simp only[Instr.sliceAt,zK,s,zJ,Instr.slice,G0,j,qS g w b,zL,beq_eq];by_cases e:M=l<;>simp[e,G0]|some a=>simp only[Instr.sliceAt,zK,s,zJ,Instr.slice,G0,E,j,qS g w b,zL,beq_eq];by_cases e:M=l;simp[e,G0,cM,cP];simp[e,G0,cM,u,H5,my]
  |chan r=>
   obtain _|r:=r;simp at h;simp only at h;rcases f:nQ 0 0 o k with _|q;simp[f]at h;obtain⟨l,p,M⟩:=q;simp only[f]at h;rcases b:cC T e with _|sz;simp[b]at h;simp only[b,zA]at h;subst h;obtain⟨j,F,B,C,D⟩:=Tz (P:=P) (isS:=true) (v00:=0) m w f<|zF _;have G:l=0/\p=0/\M=0:=by obtain _|v:=k;have:=D rfl;omega;have:=C rfl;omega
   obtain⟨rfl,rfl,rfl⟩:=G;simp only[Instr.sliceAt,zK,s,zJ,Instr.slice,G0,j,qS g w b,zL,It,sc]
  |_=>simp at h
 |_=>simp at h
def zav{k:X I}{a:Act}(j:a.tmps=⟨aF m k⟩)(o:Oper)(h:jR T k o.op=some v):(execOp a.eval o).run P w=.ok (.value<|G0 m v) w:=by
 obtain⟨H,op,type,pos,after,guard⟩:=o;simp only at h;unfold jR at h;cases op with
 |move x=>simp only at h;simp[execOp,lN j h]|assign x=>simp only at h;simp[execOp,lN j h]
 |pick c x y=>
  simp only at h;rcases A:F8 k c with _|G;simp[A]at h;cases G with
  |bool b=>obtain _|_:=b;simp only[A]at h;simp[execOp,lN j A,lN j h,G0,asBool];simp only[A]at h;simp[execOp,lN j A,lN j h,G0,asBool]
  |_=>simp[A]at h
 |build t E=>
  simp only at h;rcases D:J3 k E.toList with _|qs;simp[D]at h;simp only[D]at h;have r:(E.map fun x=>(x.1,a.eval x.2))=(qs.map fun p=>(p.1,G0 m p.2)).toArray:=by rw[<-WG j D];cases E;simp
  have:=z4z g m w h;rw[<-r]at this;simp only[execOp,zK];rw[this];rfl
 |nilCheck x=>
  simp only at h;rcases e:F8 k x with _|u;simp[e]at h;have F:=lN j e;cases u with
  |pointer p=>obtain _|q:=p;simp[e]at h;simp[e]at h;subst h;simp[execOp,F,G0]
  |func fn x y=>cases fn with|func f=>simp[e]at h;subst h;simp[execOp,F,G0]|_=>simp[e]at h
  |_=>simp[e]at h
 |binOp op t x y ty=>simp only at h;rcases e:F8 k x with _|u;simp[e]at h;rcases n:F8 k y with _|u';simp[e,n]at h;simp only[e,n]at h;have:=v17 g m w op x y h;simp only[execOp,lN j e,lN j n];rw[zK,this];rfl
 |unOp op t x=>simp only at h;rcases e:F8 k x with _|u;simp[e]at h;simp only[e]at h;simp[execOp,lN j e,v18 m w h]
 |convert s d x=>simp only at h;rcases e:F8 k x with _|u;simp[e]at h;simp only[e]at h;simp[execOp,lN j e,z9u g m w h]
 |makeFunc fn first cap=>
  simp only at h;rcases e:oS k first.toList with _|u
  simp[e]at h;rcases n:oS k cap.toList with _|u';simp[e,n]at h;simp only[e,n,zA]at h;subst h;simp[execOp,HA j e,HA j n,Instr.makeFunc,G0]
 |slice t x K J L=>
  cases L with|some _=>simp at h|none=>
  simp only at h;rcases e:F8 k x with _|u;simp[e]at h;rcases B:wV k K with _|l;simp[e,B]at h;rcases C:wV k J with _|hh;simp[e,B,C]at h;simp only[e,B,C]at h;have:=z74 g m w h;simp only[execOp,lN j e,Ml j B,Ml j C,uv];rw[zK,this];rfl
 |fieldAddr t x f=>simp only at h;rcases e:F8 k x with _|u;simp[e]at h;simp only[e]at h;simp[execOp,lN j e,qy4 g m w h]
 |field t x f=>simp only at h;rcases e:F8 k x with _|u;simp[e]at h;simp only[e]at h;simp[execOp,lN j e,z5l g m w h]
 |indexAddr t x i=>simp only at h;rcases e:F8 k x with _|u;simp[e]at h;rcases n:F8 k i with _|u';simp[e,n]at h;simp only[e,n]at h;simp[execOp,lN j e,lN j n,qy6 g m w h]
 |index t x i=>simp only at h;rcases e:F8 k x with _|u;simp[e]at h;rcases n:F8 k i with _|u';simp[e,n]at h;simp only[e,n]at h;simp[execOp,lN j e,lN j n,z5t g m w h]
 |extract x i=>simp only at h;rcases e:F8 k x with _|u;simp[e]at h;simp only[e]at h;simp[execOp,lN j e,qy2 m w h]
 |call c=>
  obtain⟨callee,args,z⟩:=c;simp only at h;cases callee with
  |builtin b=>
   cases b with
   |len=>simp only at h;rcases e:oS k args.toList with _|vs;simp[e]at h;obtain _ |⟨x,_ |⟨y,l⟩⟩:=vs;simp[e]at h;obtain⟨z⟩:=z;obtain _|⟨t,ts⟩:=z;simp[e]at h;simp only[e]at h;have r:=HA j e;simp only[aF]at r;have:=Dt g m w (ty:=type) (ts:=ts) h;simp only[execOp,zK,resolve,zL,zJ,invoke,builtin,r];rw[this];rfl;simp[e]at h
   |max=>simp only at h;rcases e:oS k args.toList with _|vs;simp[e]at h;obtain _|⟨x,l⟩:=vs;simp[e]at h;simp only[e]at h;have r:=HA j e;simp only[aF]at r;have:=Dp (P:=P) m w h;simp only[execOp,zK,resolve,zL,zJ,invoke,builtin,r,Builtin.max_];rw[this];rfl
   |min=>simp only at h;rcases e:oS k args.toList with _|vs;simp[e]at h;obtain _|⟨x,l⟩:=vs;simp[e]at h;simp only[e]at h;have r:=HA j e;simp only[aF]at r;have:=Dn (P:=P) m w h;simp only[execOp,zK,resolve,zL,zJ,invoke,builtin,r,Builtin.min_];rw[this];rfl
   |_=>simp at h
  |_=>simp at h
 |_=>simp at h
end
def wW.cell{m:Nm}{i:Nat}{l:X I}{e:TypeId}{w:Jb}{f:Nat}(h:wW m i l e w f){j:Nat}{v:I}(b:l[j]? = some v):
  w.cell? ⟨m.I4 i,m.sh i+j,none⟩=some (G0 m v):=by have k:j<l.length:=(zG.1 b).1;obtain _ |_ |n:=f;obtain⟨o,a⟩:=h;simp[World.cell?,a,o,lM,b];obtain⟨c,p,fr,a,d,_⟩:=h;simp[World.cell?,a,d j v b];obtain⟨q,g,a,d,_⟩:=h;simp only[World.cell?,a,KF,XM,LX,vv,zT,<-d];rw[kq ag,nv,kl<|by simpa using k];simp[lM,b]
variable{c:Nat}
def run_getObj_map{P:Ib}{w:Jb}{r:Nat}{a:Ie MapEntry}(h:w.heap[r]? = some (.map a c)):(getObj r).run P w=.ok (.map a c) w:=by simp[getObj,Sem.run,h]
variable{s:S}
def WH{i:Nat}{l:X I}{e:TypeId}{d:Nat}(h:eQ s i=some (l,e,d)):lk s.h i=some (.inl (l,e,d))/\d≠1:=by unfold eQ at h;rcases a:lk s.h i with _|b;simp[a]at h;obtain⟨k,g,f⟩|⟨j,c⟩:=b;obtain _ |_ |n:=f<;>simp[a]at h<;>obtain⟨rfl,rfl,rfl⟩:=h<;>simp;simp[a]at h
def be{a b:Nat}(h:blt a b=false):¬ a<b:=fun d=>by
 have:blt a b=true:=tA d;rw[this]at h;cases h
def Bk{a b:Nat}(h:blt a b=true):a<b:=zY h
def qyo(c b k:Nat)(h:b<=c):c+k-b=c-b+k:=ag
def z57(h:cP<=c)(k:Nat):cJ (c+k)=cJ c+k:=qyo c cP k h
section
variable{P:Ib}{T:Tb}(g:j0 P T)(m:Nm)(w:Jb)
include g
variable{t:TypeId}{v:I}
def sr(z:Fits m s w){i off:Nat}{l:X I}{e:TypeId}{x:Nat}(A:lk s.h i=some (.inl (l,e,x)))
  (h:(match T.G4 t with
    |none=>none|some d=>cond (rH d) (match cC T t with
      |some n=>match wK l off n with
       |some a=>some (Value.agg a.toArray)|none=>none
      |none=>none)<|nth l off)=some v):
  (loadVar t ⟨m.I4 i,m.sh i+off,none⟩).run P w=.ok (G0 m v) w:=by
 have r:wW m i l e w x:=z.ok i _ A;rcases o:T.G4 t with _|d;simp[o]at h;simp only[o]at h;unfold loadVar;simp only[zK,qsx g w o,zJ];cases q:rH d with
 |true=>
  simp only[q,zC]at h;rcases p:cC T t with _|n;simp[p]at h;simp only[p]at h;rcases b:wK l off n with _|a;simp[b]at h;simp only[b,zA]at h;subst h;have y:(aF m a).length=n:=by rw[y9];exact quw b
  have:=run_loadCells_list (P:=P) w ⟨m.I4 i,m.sh i+off,none⟩ (aF m a) (fun j u f=>by rw[lM,vz]at f;rcases k:a[j]? with _|u';simp[k]at f;simp[k]at f;subst f;rw[H5,my];exact r.cell<|z3g b k);rw[y]at this;simp[qS g w p,this,G0]
 |false=>simp only[q,zD,jT]at h;have:=r.cell h;simp[this]
def z5v{K:TypeId->I->Rl}{d:Nat}{b:Rl}(p:∀t v w,K t v=true->(Instr.checkKey b d t (G0 m v)).run P w=.ok () w)(e:X I)(a:X Field)(h:Pq T K e a=true):
  (forIn a PUnit.unit (fun f _=>
    if f.name ≠ "_" then (do
     let x <-part f.type ⟨aF m e⟩ f.offset
     Instr.checkKey b d f.type x
     pure (ForInStep.yield PUnit.unit))
    else pure (ForInStep.yield PUnit.unit)):Sem PUnit).run P w=.ok PUnit.unit w:=by induction a with|nil=>simp|cons f a l=>simp only[Pq]at h;simp only[forIn_cons];split at h;rename_i j;rcases k:GV T f.type e f.offset with _|v;simp[k]at h;simp only[k]at h;rcases i:K f.type v with _|_;simp[i]at h;simp only[i,zC]at h;have n:=Tc g m w k;have o:=p f.type v w i;simp only[j,dG,gP,It,zK,n,zJ,o,zL];exact l h;rename_i j;simp only[j,LX,zK,zL,zJ];exact l h
def z8h(b:Rl)(d k:Nat)(w:Jb)(h:xW T d t v=true):(Instr.checkKey b (d+k) t<|G0 m v).run P w=.ok () w:=by
 induction d generalizing t v w with
 |zero=>simp[xW]at h|succ d n=>
  have i:d+1+k=(d+k)+1:=by omega
  rw[i];simp only[xW]at h;rcases a:T.G4 t with _|o;simp[a]at h;have e:=iI g w a;cases o with
  |int kk=>simp[Instr.checkKey,e]|string=>simp[Instr.checkKey,e]
  |bool=>simp[Instr.checkKey,e]|struct j=>
   simp only[a]at h;cases v with
   |agg f=>obtain⟨f⟩:=f;simp only at h;have:=z5v g m w (b:=b) (d:=d+k) (fun t v w l=>n w l) f j.toList h;simp only[Instr.checkKey,zK,e,zJ,G0,hJ];rw[<-Array.forIn_toList,this];rfl
   |_=>simp at h
  |_=>simp[a]at h
def qz7{f:TypeId}{k:I}(a:X MapEntry)(i:Nat){r:A (Nat×I)}(h:wU T f k a i=some r):
  (Instr.findAsking f (G0 m k) (a.map<|jP m) i).run P w=.ok (r.map fun p=>(p.1,G0 m p.2)) w:=by induction a generalizing i with|nil=>simp[wU]at h;subst h;simp[Instr.findAsking]|cons e a l=>simp only[wU]at h;rcases d:eqv T 50 f k e.key with _|b;simp[d]at h;have j:=OY g m w d;obtain _|_:=b;simp only[d]at h;simpa[Instr.findAsking,jP,j]using l (i+1) h;simp[d]at h;subst h;simp[Instr.findAsking,jP,j]
omit g in
def Dm{C:TypeId}{d:TypeDesc}(B:T.G4 C=some d){k:I}(z:X MapEntry)(i:Nat){r D:A (Nat×I)}(h:wU T C k z i=some r)
  (q:Instr.findNow d (G0 m k) (z.map (jP m)) i=some D):D=r.map fun p=>(p.1,G0 m p.2):=by
 induction z generalizing i with
 |nil=>simp[wU]at h;subst h;simp[Instr.findNow]at q;simp[<-q]|cons e z E=>
  simp only[wU]at h;simp only[zQ,Instr.findNow]at q;rcases l:eqv T 50 C k e.key with _|b;simp[l]at h;have key:∀u,Instr.sameNow d (G0 m k) (jP m e).key=some u->u=b:=by intro u a;simp only[jP]at a;obtain⟨x,y,f,j⟩|⟨kk,x,G,y,f,j⟩|⟨x,y,f,j⟩|⟨x,y,f,j⟩|⟨x,n,c,y,H,F,f,j⟩|⟨x,y,f,j⟩|⟨x,y,f,j⟩|⟨x,n,c,f,j⟩:=qzs l;rw[f,j]at a l;cases d<;>simp[Instr.sameNow,G0]at a;simp[eqv,B]at l;exact a.symm.trans l;rw[f,j]at a l;cases d<;>simp[Instr.sameNow,G0]at a;simp[eqv,B]at l;exact a.2.symm.trans l.2;rw[f,j]at a l;cases d<;>simp[Instr.sameNow,G0]at a;simp[eqv,B]at l;rw[<-a,<-l,bo,beq_toListBytes,ByteArray.toList_eq,ByteArray.toList_eq];rw[f,j]at a;cases x<;>cases y<;>cases d<;>simp[Instr.sameNow,G0]at a;rw[f,j]at a;cases x<;>cases y<;>cases d<;>simp[Instr.sameNow,G0]at a;rw[f,j]at a;cases x<;>cases y<;>cases d<;>simp[Instr.sameNow,G0]at a;rw[f,j]at a;cases d<;>simp[Instr.sameNow,G0]at a;rw[f,j]at a;cases d<;>simp[Instr.sameNow,G0]at a
  rcases o:Instr.sameNow d (G0 m k) (jP m e).key with _|u;simp[o]at q;have:=key u o;subst this;obtain _|_:=u;simp only[l]at h;simp only[o]at q;exact E (i+1) h q;simp[l]at h;subst h;simp[o]at q;simp[<-q,jP]
def U9{b:TypeId}{d:TypeDesc}(e:T.G4 b=some d){k:I}{a:X MapEntry}{r:A (Nat×I)}(h:wU T b k a 0=some r):
  (Instr.findKey b (G0 m k)<|a.map<|jP m).run P w=.ok (r.map fun p=>(p.1,G0 m p.2)) w:=by unfold Instr.findKey;simp only[zK,iI g w e,zJ];rcases f:Instr.findNow d (G0 m k) (a.map<|jP m) 0 with _|r';exact qz7 g m w a 0 h;simp[Dm m e a 0 h f]
omit g in
def qw1{d:Nat}{a:TypeId}{v:I}(h:xW T d a v=true):∃b,T.G4 a=some b:=by cases d with|zero=>simp[xW]at h|succ d=>simp only[xW]at h;rcases e:T.G4 a with _|b;simp[e]at h;exact⟨b,rfl⟩
omit g in
def qln{s:S}{i f:Nat}{l:X I}(h:N7 s i f=some l):∃e j,lk s.h i=some (.inl (l,e,j))/\(j=1/\e=f+1\/j=f+2):=by unfold N7 at h;rcases d:lk s.h i with _|b;simp[d]at h;obtain⟨q,o,k⟩|⟨p,c⟩:=b;obtain _ |_ |n:=k;simp[d]at h;simp only[d,beq_eq]at h;by_cases a:o=f+1;simp only[a,yC,zC,zA]at h;subst h;exact⟨_,_,rfl,.inl ⟨rfl,a⟩⟩;simp[a]at h;simp only[d,beq_eq]at h;by_cases a:n=f;simp only[a,yC,zC,zA]at h;subst h;exact⟨_,_,rfl,.inr (by rw[a])⟩;simp[a]at h;simp[d]at h
omit g in
def qxd{s:S}(f:Fits m s w){i c a:Nat}{l:X I}(b:N7 s i (a+1)=some l){off n:Nat}(o:off=cJ c*(a+1))(k:off+n*(a+1)<=l.length):n+cJ c<=m.cp i:=by
 obtain⟨e,p,b,j⟩:=qln b;have d:l.length<=m.cp i*(a+1):=by obtain⟨rfl,rfl⟩|rfl:=j;obtain⟨_,_,_,_,_,d⟩:=f.ok i _ b;exact d _ rfl;obtain⟨q,h,_,_,d⟩:=f.ok i _ b;omega
 have:(n+cJ c)*(a+1)<=m.cp i*(a+1):=by rw[dR];omega
 exact TH this ag
def Ov(G:Fits m s w){x:I}{D z:A I}{i o J:Nat}{a:Addr}(h:An T s t x D z=some (i,o,a,c,J)):
  (Instr.sliceAt t (G0 m x) (D.map<|G0 m) (z.map<|G0 m) none).run P w=.ok (.slice (if m.cp a.block-cJ c=i then some ⟨m.I4 a.block,m.sh a.block+a.off,none⟩else some ⟨m.I4 a.block,m.sh a.block+a.off+i*J,none⟩) (o-i)<|m.cp a.block-cJ c-i) w/\
  i<=o/\o+cJ c<=m.cp a.block/\¬ c<cP/\∃q,lk s.h a.block=some q:=by
 unfold An at h;rcases f:T.G4 t with _|Q;simp[f]at h;cases Q with
 |slice e=>
  cases x with
  |slice p n d=>
   obtain _|a':=p;simp[f]at h;simp only[f]at h;cases y:blt d cP with
   |true=>simp[y]at h|false=>
    have H:¬ d<cP:=be y;simp only[y,zD]at h;rcases B:cC T e with _|b;simp[B]at h;simp only[B]at h;rcases j:N7 s a'.block b with _|l;simp[j]at h;simp only[j,beq_eq]at h;by_cases k:a'.off=cJ d*b;rw[jl k]at h;simp only[zC]at h;rcases C:blt 0 b with _|_;simp[C]at h;have R:0<b:=Bk C;simp only[C,zC]at h;obtain⟨b,rfl⟩:∃q,b=q+1:=⟨b-1,by omega⟩;rcases u:nQ n ((l.length-a'.off)/(b+1)) D z with _|q;simp[u]at h;obtain⟨W,F,M⟩:=q;simp only[u]at h;rcases r:ble (a'.off+F*(b+1)) l.length with _|_;simp[r]at h;simp only[r,zC,zA,zB]at h;obtain⟨rfl,rfl,rfl,rfl,rfl⟩:=h;obtain⟨_,_,L,_⟩:=qln j;have K:(l.length-a'.off)/(b+1)<=m.cp a'.block-cJ d:=by
     rcases Fz ((l.length-a'.off)/(b+1))with V |hp;omega;have X:=div_mul_le_self (l.length-a'.off)<|b+1;have E:a'.off<=l.length:=by obtain U |E:=XL l.length a'.off;rw[show l.length-a'.off=0 by omega]at hp;simp at hp;exact E
     have:=qxd m w G (c:=d) (n:=(l.length-a'.off)/(b+1)) (off:=a'.off) j k ag;omega
    obtain⟨N,O,_⟩:=Tz (P:=P) (isS:=true) m w u K;refine⟨?_,O,qxd m w G (c:=d) (n:=F) (off:=a'.off) j k<|zY r,H,_,L⟩;simp only[G0,cM,iy H,Instr.sliceAt,zK,iI g w f,zJ,Instr.slice,N,qS g w B,zL,zM,H5];rw[eJ k]at h;simp at h
  |_=>simp[f]at h
 |_=>simp[f]at h
def z3k(l:Fits m s w){x:I}{o n:A I}(h:N4 T s t x o n=some v):
  (Instr.sliceAt t (G0 m x) (o.map<|G0 m) (n.map<|G0 m) none).run P w=.ok (G0 m v) w:=by
 unfold N4 at h;split at h;rename_i e a c u k;obtain⟨b,_,_,f,_⟩:=Ov g m w l k;cases h;rw[sc,sc,lg,ek]at b;by_cases j:m.cp a.block-cJ c=0;rw[kh j]at b;rw[b];simp only[G0,cM,iy f];rw[iy j]at b;rw[b];simp only[G0,cM,iy f];rename_i d e a c u k;obtain⟨b,_,j,f,_⟩:=Ov g m w l k;rcases i:blt (d+1) e with _|_;simp[i]at h;have y:d+1<e:=Bk i;simp only[i,zC,zA]at h;subst h;have r:¬ m.cp a.block-cJ c=d+1:=by omega
 have p:¬ c+(d+1)<cP:=fun e=>f<|Gr (jG _ _) e;have q:cJ (c+(d+1))=cJ c+(d+1):=z57 (qcv f) _;rw[b];simp only[G0,cM,iy p,iy r,q,my,Nat.sub_sub];cases h
def quq(U:Fits m s w){D:X I}{a:Act}(n:a.tmps=⟨aF m D⟩)(o:Oper)(h:qQ T D s o.op=some v): (execOp a.eval o).run P w=.ok (.value<|G0 m v) w:=by
  obtain⟨Z,op,type,pos,after,guard⟩:=o;simp only at h;unfold qQ at h;cases op with
  |load t x=>
    simp only at h;rcases f:F8 D x with _|u;simp[f]at h;cases u with
    |pointer p=>obtain _|b:=p;simp[f]at h;simp only[f]at h;rcases B:lk s.h b.block with _|I4;simp[B]at h;obtain⟨l,e,md⟩|⟨q,c⟩:=I4;simp only[B]at h;have:=sr g m w U B h;simp[execOp,lN n f,G0,Instr.loadAt,Instr.sureAddr,this];simp[B]at h
    |_=> simp[f]at h
  |slice t x lo M mx=>
    cases mx with|some _=> simp at h|none=>
    simp only at h;rcases f:F8 D x with _|u;simp[f]at h;rcases j:wV D lo with _|l;simp[f,j]at h;rcases i:wV D M with _|hh;simp[f,j,i]at h;simp only[f,j,i]at h;have:=z3k g m w U h;simp only[execOp,lN n f,Ml n j,Ml n i,uv];rw[zK,this];rfl
  |lookup t x k ok=>
    simp only at h;rcases F:T.G4 t with _|d;simp[F]at h;cases d with
    |map K R=>
      simp only[F]at h;rcases f:F8 D x with _|u;simp[f]at h;cases u with
      |map r=>
        simp only[f]at h;rcases J:F8 D k with _|L;simp[J]at h;simp only[J]at h;rcases O:xW T 50 K L with _|_;simp[O]at h;simp only[O,zC]at h;obtain⟨ty,yK⟩:=qw1 O;have C : ∀ q : X MapEntry, (match wU T K L q 0 with
              |none=> none|some (some (_,v))=> some (cond ok (.tuple #[v, .bool true]) v)
              |some none=> match T.inf R with
                |some (_,_,z)=> some (cond ok (.tuple #[z, .bool false]) z)|none=> none)=some v->
            (Instr.checkKey (q.map<|jP m).toArray.isEmpty 10000 K (G0 m L)).run P w=.ok () w/\
            ((∃N H,(Instr.findKey K (G0 m L)<|q.map<|jP m).run P w=.ok (some (N,H)) w/\G0 m v=if ok=true then Value.tuple #[H, .bool true]else H)\/
             (∃z,(Instr.findKey K (G0 m L)<|q.map<|jP m).run P w=.ok none w/\(zeroValue R).run P w=.ok z w/\G0 m v=if ok=true then Value.tuple #[z, .bool false]else z)):=by
          intro q G;refine⟨z8h g m _ 50 9950 w O, ?_⟩;rcases A:wU T K L q 0 with _|fr;simp[A]at G;have i:=U9 g m w yK A;cases fr with
          |none=>simp only[A]at G;rcases M:T.inf R with _|y;simp[M]at G;obtain⟨y1,y2,z⟩:=y;obtain⟨W,Y⟩:=NE g m w M;simp only at W Y;simp[M]at G;subst G;refine .inr ⟨z,i,W, ?_⟩;cases ok<;>simp[G0,aF,Y]
          |some p=>obtain⟨N,H⟩:=p;simp[A]at G;subst G;refine .inl ⟨N,G0 m H,i, ?_⟩;cases ok<;>simp[G0,aF]
        cases r with
        |none=>simp only at h;obtain⟨j,⟨N,H,i,E⟩|⟨z,i,Q,E⟩⟩:=C [] h;simp only[gg]at j i;simp only[execOp,lN n f,lN n J,zK,Instr.lookup,iI g w F,zJ,G0,zL,j,i,E];simp only[gg]at j i;simp only[execOp,lN n f,lN n J,zK,Instr.lookup,iI g w F,zJ,G0,zL,j,i,Q,E]
        |some r=>simp only at h;rcases B:lk s.h r with _|I4;simp[B]at h;obtain x |⟨q,c⟩:=I4;simp[B]at h;simp only[B]at h;have V:w.heap[m.I4 r]? = some (.map (q.map<|jP m).toArray c):=U.ok r _ B;obtain⟨j,⟨N,H,i,E⟩|⟨z,i,Q,E⟩⟩:=C q h;simp only[execOp,lN n f,lN n J,zK,Instr.lookup,iI g w F,zJ,G0,zL,run_getObj_map V,j,i,E];simp only[execOp,lN n f,lN n J,zK,Instr.lookup,iI g w F,zJ,G0,zL,run_getObj_map V,j,i,Q,E]
      |_=> simp[f]at h
    |_=> simp[F]at h
  |_=> simp at h
end
end Go.Rx
