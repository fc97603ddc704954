import Derived.Laws.StructEq
import Derived.Test.YtmflfedkfdkipaaGreatP2
set_option linter.all false
namespace Go.Rx
open Go
structure eZ(P:Program)(T:Tb):Prop where
 und:∀t d,T.und t=some d->P.underlying t=some d
 inf:∀t a b z,T.inf t=some (a,b,z)->plain z=true/\∃i,P.info? t=some i/\i.size=a/\i.bytes=b/\i.zero=some z
 fn : ∀ f g, T.fn f = some g → P.funcs[f]? = some g ∧ (g.body.isSome = true → (g.name == "runtime.NumGoroutine") = false)
 eqs:∀t,T.eqs t=true->P.stoodInHeld t=false/\P.eqGuardType P.depth t=false
 mixed:P.follows .mixedOrders=true
theorem eR{α:Type}(l:List α)(n:Nat):nth l n=l[n]?:=by
 induction l generalizing n with|nil=>simp[nth]|cons a l ih=>cases n<;>simp[nth,ih]
variable{l:List Value}
variable{n:Nat}
variable{r:List Value}
theorem D'(h:wE l n=some r):r=l.take n/\n<=l.length:=by
 induction l generalizing n r with|nil=>cases n<;>simp_all[wE]|cons v l ih=>cases n with|zero=>simp_all[wE]|succ n=>simp only[wE]at h;rcases hl:wE l n with _|r';simp[hl]at h;simp[hl]at h;obtain⟨e,hn⟩:=ih hl;subst h;simp[e];exact hn
variable{off:Nat}
theorem V8(h:nS l off n=some r):r=(l.drop off).take n/\n<=l.length-off:=by
 have:=D' h;simpa using this
theorem Mw(h:nS l off n=some r):r.length=n:=by
 obtain⟨rfl,hn⟩:=V8 h;simp;omega
theorem Wz(h:nS l off n=some r){j:Nat}{v:Value}(hj:r[j]? = some v):l[off+j]? = some v:=by
 obtain⟨rfl,hn⟩:=V8 h;rw[List.getElem?_take]at hj;split at hj;simpa using hj;cases hj
theorem ef{vs:List Value}(h:uS l vs=some r):vs.length<=l.length/\r=vs++l.drop vs.length:=by
 induction vs generalizing l r with|nil=>simp[uS]at h;simp[h]|cons v vs ih=>rcases l with _|⟨x,l⟩;simp[uS]at h;simp only[uS]at h;rcases hp:uS l vs with _|r';simp[hp]at h;simp[hp]at h;obtain⟨e1,e2⟩:=ih hp;subst h;simp[e2];exact e1
theorem ze{vs:List Value}(h:lV l off vs=some r):off+vs.length<=l.length/\r=l.take off++vs++l.drop (off+vs.length):=by
 induction off generalizing l r with
 |zero=>
  have h':uS l vs=some r:=by cases l<;>simpa[lV]using h
  obtain⟨e1,e2⟩:=ef h';simp[e2];exact e1
 |succ n ih=>
  rcases l with _|⟨x,l⟩;simp[lV]at h;simp only[lV]at h;rcases hp:lV l n vs with _|r';simp[hp]at h;simp[hp]at h;obtain⟨e1,e2⟩:=ih hp;subst h;simp only[zO,List.take_succ_cons,List.cons_append,e2];refine⟨by omega,?_⟩;have:n+1+vs.length=(n+vs.length)+1:=by omega
  rw[this,List.drop_succ_cons]
theorem aq(h:lI l=true):∀v∈l,v.oneCell'=true:=by
 induction l with|nil=>simp|cons v l ih=>simp only[lI]at h;rcases hv:v.oneCell' with _|_;simp[hv]at h;simp[hv]at h;intro u hu;rcases zI.1 hu with rfl |hu;exact hv;exact ih h u hu
theorem xi{m:Nm}(h:lI l=true):∀v∈aD m l,v.oneCell'=true:=by
 intro v hv;rw[hX]at hv;obtain⟨u,hu,rfl⟩:=List.mem_map.1 hv;rw[ay];exact aq h u hu
mutual
theorem qS(m:Nm):(v:Value)->plain v=true->ren m v=v
 |.bool _,_=>by simp[ren]
 |.int _ _,_=>by simp[ren]
 |.string _,_=>by simp[ren]
 |.pointer none,_=>by simp[ren]
 |.slice none _ _,_=>by simp[ren]
 |.map none,_=>by simp[ren]
 |.nilFunc,_=>by simp[ren]
 |.nilIface,_=>by simp[ren]
 |.agg ⟨l⟩,h=>by simp only[plain]at h;simp[ren,Qc m l h]
 |.tuple ⟨l⟩,h=>by simp only[plain]at h;simp[ren,Qc m l h]
 |.float _ _,h=>by simp[plain]at h
 |.complex _ _ _,h=>by simp[plain]at h
 |.pointer (some _),h=>by simp[plain]at h
 |.slice (some _) _ _,h=>by simp[plain]at h
 |.map (some _),h=>by simp[plain]at h
 |.chan _,h=>by simp[plain]at h
 |.func _ _ _,h=>by simp[plain]at h
 |.iface _ _,h=>by simp[plain]at h
theorem Qc(m:Nm):(l:List Value)->FH l=true->aD m l=l
 |[],_=>by simp[aD]
 |v::l,h=>by simp only[FH]at h;rcases hv:plain v with _|_;simp[hv]at h;simp[hv]at h;simp[aD,qS m v hv,Qc m l h]
end
theorem Fa(a b:List UInt8):gE a b=(a==b):=by
 induction a generalizing b with
 |nil=>cases b<;>simp[gE]|cons x a ih=>
  rcases b with _|⟨y,b⟩;simp[gE];simp only[gE,beq_eq,ih];by_cases e:x=y;subst e;simp;have:x.toNat≠y.toNat:=fun h=>e (UInt8.toNat_inj.1 h)
  simp[this,e]
theorem aj(a b:List UInt8):fS a b=Op.bytesLess a b:=by
 induction a generalizing b with
 |nil=>cases b<;>simp[fS,Op.bytesLess]|cons x a ih=>
  rcases b with _|⟨y,b⟩;simp[fS,Op.bytesLess];simp only[fS,Op.bytesLess,ih,beq_eq];have hlt:Nat.blt x.toNat y.toNat=decide (x<y):=by rw[Bool.eq_iff_iff];simp[Nat.blt_eq,UInt8.lt_iff_toNat_lt]
  rw[hlt];by_cases h1:x<y;simp[h1];by_cases e:x=y;subst e;simp;have:x.toNat≠y.toNat:=fun h=>e (UInt8.toNat_inj.1 h);simp[h1,e,this]
section
variable{P:Program}{T:Tb}(hT:eZ P T)(m:Nm){tm:List Value}{a:Act}(w:World)
include hT
variable{t:TypeId}
theorem dH{d:TypeDesc}(h:T.und t=some d):(underlying t).run P w=.ok d w:=run_underlying (hT.und t d h) w
theorem i4(h:bJ T t=some n):(sizeOf t).run P w=.ok n w:=by
 unfold bJ at h;rcases hi:T.inf t with _|x;simp[hi]at h;obtain⟨a,b,z⟩:=x;simp[hi]at h;obtain⟨_,i,h1,h2,_,_⟩:=hT.inf t a b z hi;simp[sizeOf,typeInfo,h1,h2,h]
theorem tM{x:Nat×Nat×Value}(h:T.inf t=some x):(zeroValue t).run P w=.ok x.2.2 w/\ren m x.2.2=x.2.2:=by
 obtain⟨a,b,z⟩:=x;obtain⟨hp,i,h1,_,_,h4⟩:=hT.inf t a b z h;exact⟨by simp[zeroValue,typeInfo,h1,h4],qS m z hp⟩
theorem qz{d:TypeDesc}(h:T.und t=some d):(isAgg t).run P w=.ok (kQ d) w:=by
 unfold isAgg;simp only[zK,dH hT w h,zJ];cases d<;>rfl
theorem V9{cs:List Value}{v:Value}(h:uX T t cs off=some v):
  (part t ⟨aD m cs⟩ off).run P w=.ok (ren m v) w:=by
 unfold uX at h;rcases hd:T.und t with _|d;simp[hd]at h;simp only[hd]at h;unfold part;simp only[zK,qz hT w hd,zJ];cases hag:kQ d with
 |true=>simp only[hag,zC]at h;rcases hs:bJ T t with _|n;simp[hs]at h;simp[hs]at h;subst h;simp only[if_true,zK,i4 hT w hs,zJ,zL,ren];simp[hX,List.map_drop,List.map_take]
 |false=>simp only[hag,zD,eR]at h;simp[hX,h]
theorem mg{E:TypeId->Value->Value->Option Bool}{d:Nat}(hE:∀t x y b w,E t x y=some b->(Op.equalIn d t (ren m x) (ren m y)).run P w=.ok b w)
  (xs ys:List Value) (fs:List Field) {b:Bool} (w:World) (h:uF T E xs ys fs=some b):
  (Op.eqFields d ⟨aD m xs⟩ ⟨aD m ys⟩ fs).run P w=.ok b w:=by
 induction fs generalizing w with|nil=>simp[uF]at h;simp[Op.eqFields,h]|cons f fs ih=>simp only[uF]at h;simp only[Op.eqFields];split at h;rename_i hn;simp only[hn,ne_eq,not_false_eq_true,if_true];rcases h1:uX T f.type xs f.offset with _|x;simp[h1]at h;simp only[h1]at h;rcases h2:uX T f.type ys f.offset with _|y;simp[h2]at h;simp only[h2]at h;rcases h3:E f.type x y with _|r;simp[h3]at h;simp only[zK,V9 hT m w h1,zJ,V9 hT m w h2,hE _ _ _ _ w h3];rcases r with _|_;simp[h3]at h;simp[h];simp only[h3]at h;simpa using ih w h;rename_i hn;simp only[hn,if_false];exact ih w h
theorem O3(d k:Nat){x y:Value}{b:Bool}(w:World)(h:eqv T d t x y=some b):
  (Op.equalIn (d+k) t (ren m x) (ren m y)).run P w=.ok b w:=by
 induction d generalizing t x y b w with
 |zero=>simp[eqv]at h|succ d ih=>
  have hsucc:d+1+k=(d+k)+1:=by omega
  rw[hsucc];simp only[eqv]at h;rcases hd:T.und t with _|ty;simp[hd]at h;have hu:=dH hT w hd;cases ty with
  |bool=>simp only[hd]at h;cases x<;>cases y<;>simp at h;subst h;simp[Op.equalIn,hu,ren]|int kk=>simp only[hd]at h;cases x<;>cases y<;>simp at h;obtain⟨rfl,h⟩:=h;simp[Op.equalIn,hu,ren,h]
  |string=>simp only[hd]at h;cases x<;>cases y<;>simp at h;subst h;rename_i s1 s2;simp only[Op.equalIn,zK,hu,ren,zJ,zL,Fa];rw[beq_toListBytes,ByteArray.toList_eq,ByteArray.toList_eq]|pointer e=>
   simp only[hd]at h;cases x<;>cases y<;>try simp at h
   rename_i p q;cases p<;>cases q<;>simp at h<;>subst h<;>simp[Op.equalIn,hu,ren]
  |slice e=>
   simp only[hd]at h;cases x<;>cases y<;>try simp at h
   rename_i p _ _ q _ _;cases p<;>cases q<;>simp at h<;>subst h<;>simp[Op.equalIn,hu,ren];rename_i p q _ _;cases p<;>cases q<;>simp at h<;>subst h<;>simp[Op.equalIn,hu,ren]
  |map e e'=>
   simp only[hd]at h;cases x<;>cases y<;>try simp at h
   rename_i p q;cases p<;>cases q<;>simp at h<;>subst h<;>simp[Op.equalIn,hu,ren]
  |struct fs=>
   simp only[hd]at h;cases x<;>cases y<;>simp at h;rename_i xs ys;obtain⟨xs⟩:=xs;obtain⟨ys⟩:=ys;rcases he:T.eqs t with _|_;simp[he]at h;simp only[he,zC]at h;have hund:=hT.und t _ hd;have hfo:P.fieldsOf t=fs:=by simp[Program.fieldsOf,hund]
   simp only[ren,gT];rw[run_equalIn_struct w (d+k) t _ _ (by rw[hfo];exact hund) (hT.eqs t he).1,hfo];exact mg hT m (fun t x y b w hh=>ih w hh) xs ys fs.toList w h
  |_=>simp[hd]at h
end
end Go.Rx
namespace Go.Rx
open Go
variable{m:Nm}
variable{tm:List Value}
variable{a:Act}
variable{v:Value}
theorem gP(ha:a.tmps=⟨aD m tm⟩){x:Operand}(h:evalO tm x=some v):a.eval x=ren m v:=by
 cases x with
 |tmp t=>simp only[evalO,eR]at h;simp[Act.eval,ha,hX,h]|const c=>simp only[evalO]at h;rcases hp:plain c with _|_;simp[hp]at h;simp[hp]at h;subst h;simp[Act.eval,qS m c hp]
 |func f=>simp[evalO]at h;subst h;simp[Act.eval,ren,aD]|global g=>simp[evalO]at h
theorem gg(ha:a.tmps=⟨aD m tm⟩){l:List Operand}{vs:List Value}(h:fX tm l=some vs):l.map a.eval=aD m vs:=by
 induction l generalizing vs with|nil=>simp[fX]at h;subst h;simp[aD]|cons x l ih=>simp only[fX]at h;rcases hx:evalO tm x with _|v;simp[hx]at h;rcases hl:fX tm l with _|r;simp[hx,hl]at h;simp[hx,hl]at h;subst h;simp[aD,gP ha hx,ih hl]
theorem mR(ha:a.tmps=⟨aD m tm⟩){l:Array Operand}{vs:List Value}(h:fX tm l.toList=some vs):l.map a.eval=⟨aD m vs⟩:=by
 rw[<-gg ha h];cases l;simp
theorem Oy(ha:a.tmps=⟨aD m tm⟩){l:List (Nat×Operand)}{vs:List (Nat×Value)}(h:wJ tm l=some vs):
  l.map (fun p=>(p.1,a.eval p.2))=vs.map (fun p=>(p.1,ren m p.2)):=by
 induction l generalizing vs with|nil=>simp[wJ]at h;subst h;simp|cons x l ih=>obtain⟨i,x⟩:=x;simp only[wJ]at h;rcases hx:evalO tm x with _|v;simp[hx]at h;rcases hl:wJ tm l with _|r;simp[hx,hl]at h;simp[hx,hl]at h;subst h;simp[gP ha hx,ih hl]
theorem D6(ha:a.tmps=⟨aD m tm⟩){x:Option Operand}{v:Option Value}(h:kP tm x=some v):x.map a.eval=v.map (ren m):=by
 rcases x with _|x;simp[kP]at h;subst h;rfl;simp only[kP]at h;rcases hx:evalO tm x with _|u;simp[hx]at h;simp[hx]at h;subst h;simp[gP ha hx]
theorem fi(op:BinOp)(t:TypeId)(x y:Operand)(u v:Value)(h1 : ∀a b, ¬ (u=.agg a/\v=.agg b))(h2 : ¬ (u=.nilIface/\v=.nilIface)): eqGuard op t x y u v=pure ():=by
  cases op<;>simp only[eqGuard]<;>first
    |rfl
    | (simp only [Bool.not_true, Bool.false_eq_true, if_false]
       split;simp_all;simp_all;rfl)
theorem Xe{c:Array Value}(h:ren m v=.agg c):∃d,v=.agg d:=by
 cases v with
 |pointer a=>cases a<;>simp[ren]at h|slice a n c=>cases a<;>simp[ren]at h
 |map r=>cases r<;>simp[ren]at h|chan r=>cases r<;>simp[ren]at h
 |agg d=>exact⟨d,rfl⟩|_=>simp[ren]at h
theorem xx(h:ren m v=.nilIface):v=.nilIface:=by
 cases v with
 |pointer a=>cases a<;>simp[ren]at h|slice a n c=>cases a<;>simp[ren]at h
 |map r=>cases r<;>simp[ren]at h|chan r=>cases r<;>simp[ren]at h
 |nilIface=>rfl|_=>simp[ren]at h
theorem Yg(off:Nat):∀(vs:List Value)(k:Nat)(cells:List Value),off+k+vs.length<=cells.length->
  (vs.zipIdx k).foldl (fun(cs:Array Value) (p:Value×Nat)=>cs.setIfInBounds (off+p.2) p.1) ⟨cells⟩=⟨cells.take (off+k)++vs++cells.drop (off+k+vs.length)⟩
 |[],k,cells,_=>by simp
 |v::vs,k,cells,h=>by
  simp only[zO]at h;simp only[List.zipIdx_cons,List.foldl_cons,List.setIfInBounds_toArray];rw[Yg off vs (k+1) (cells.set (off+k) v) (by simp;omega)];congr 1;have e1:(cells.set (off+k) v).take (off+(k+1))=cells.take (off+k)++[v]:=by rw[show off+(k+1)=off+k+1 by omega,List.take_set,List.take_succ_eq_append_getElem (by omega)];rw[List.set_append_right _ _ (by simp;omega)];simp[Nat.min_eq_left (show off+k<=cells.length by omega)]
  have e2:(cells.set (off+k) v).drop (off+(k+1)+vs.length)=cells.drop (off+k+(v::vs).length):=by rw[List.drop_set_of_lt (by omega)];congr 1;simp;omega
  rw[e1,e2];simp
theorem V4(m:Nm)(place:Nat->Option (Nat×Nat)):∀(ps:List (Nat×Value))(cells r:List Value),tH place cells ps=some r->
  Instr.fill place ⟨aD m cells⟩ (ps.map fun p=>(p.1,ren m p.2))=some ⟨aD m r⟩
 |[],cells,r,h=>by simp[tH]at h;simp[Instr.fill,h]
 |(i,v)::ps,cells,r,h=>by
  simp only[tH]at h;rcases hp:place i with _|x;simp[hp]at h;obtain⟨off,size⟩:=x;simp only[hp,beq_eq]at h;by_cases hs:v.cells.toList.length=size;simp only[hs,yC,zC]at h;rcases hq:lV cells off v.cells.toList with _|c;simp[hq]at h;simp only[hq]at h;obtain⟨h1,h2⟩:=ze hq;have hsz:v.cells.size=size:=by simpa using hs
  simp only[zQ,Instr.fill,hp,En,tB,hsz];have hno:(decide (size≠size)||decide (off+size>(⟨aD m cells⟩:Array Value).size))=false:=by simp;simp[hsz]at h1;omega
  rw[hno];simp only[Bool.false_eq_true,if_false];have hfold:((nH m v.cells).zipIdx.foldl (fun(cs:Array Value) (p:Value×Nat)=>cs.setIfInBounds (off+p.2) p.1) ⟨aD m cells⟩)=⟨aD m c⟩:=by rw[<-Array.foldl_toList,Array.toList_zipIdx,gN,Yg off _ 0 _ (by simp;simpa using h1)];rw[h2];simp[hX,List.map_drop,List.map_take]
  exact(congrArg (fun z=>Instr.fill place z (ps.map fun p=>(p.1,ren m p.2))) hfold).trans (V4 m place ps c r h);simp only[hs,yB,zD]at h;cases h
variable{t:TypeId}
variable{x:Value}
variable{y:Value}
theorem wb{T:Tb}{d:Nat}{r:Bool}(h:eqv T d t x y=some r):
  (∃a b,x=.bool a/\y=.bool b)\/(∃k a k' b,x=.int k a/\y=.int k' b)\/(∃a b,x=.string a/\y=.string b)\/(∃a b,x=.pointer a/\y=.pointer b)\/
  (∃a n c b n' c',x=.slice a n c/\y=.slice b n' c')\/(∃a b,x=.map a/\y=.map b)\/(∃a b,x=.agg a/\y=.agg b)\/(∃r n c,x=.chan (some r)/\y=.slice none n c):=by
 cases d with
 |zero=>simp[eqv]at h|succ d=>
  simp only[eqv]at h;rcases hd:T.und t with _|ty;simp[hd]at h;cases ty<;>simp only[hd]at h<;>first
   |(simp at h;done)
   |(cases x<;>cases y<;>first |(simp at h;done)|(simp;done)|(rename_i p q _ _;cases p<;>cases q<;>simp at h ⊢))
section
variable{P:Program}{T:Tb}(hT:eZ P T)(m:Nm)(w:World)
include hT
theorem pp(op:BinOp)(ox oy:Operand)(h:sC T t x y=true):(eqGuard op t ox oy (ren m x) (ren m y)).run P w=.ok () w:=by
 by_cases ha:∃c d,x=.agg c/\y=.agg d;obtain⟨c,d,rfl,rfl⟩:=ha;simp only[sC]at h;simp only[ren];exact run_eqGuard_agg w op t ox oy _ _ (hT.eqs t h).2;rw[fi op t ox oy];rfl;rintro a b ⟨h1,h2⟩;obtain⟨c,rfl⟩:=Xe h1;obtain⟨d,rfl⟩:=Xe h2;exact ha ⟨c,d,rfl,rfl⟩;rintro⟨h1,h2⟩;rw[xx h1,xx h2]at h;simp[sC]at h
theorem Ea{b:Bool}(h:eqv T 50 t x y=some b):(Op.equal t (ren m x) (ren m y)).run P w=.ok b w :=
 O3 hT m 50 9950 w h
theorem OR(op:BinOp)(ox oy:Operand)(h:mN T op t x y=some v):
  (do eqGuard op t ox oy (ren m x) (ren m y);binOp op t (ren m x) (ren m y):Sem Value).run P w=.ok (ren m v) w:=by
 by_cases hi:∃k a k' b,x=.int k a/\y=.int k' b
 ·obtain⟨k,a,k',b,rfl,rfl⟩:=hi;simp only[mN]at h;simp only[ren,eqGuard_at_int,zK,zL,zJ];by_cases hk:k=k'
  ·subst hk;cases op<;>simp[fP]at h<;>first
    |(subst h;simp[binOp,Op.intArith,Op.intBits,Op.intCmp,ren];done)
    |(obtain⟨h1,rfl⟩:=h;simp[binOp,Op.intDiv,Op.shift,ren,h1];done)
    |(obtain⟨h1,rfl⟩:=h;simp[binOp,Op.shift,ren];omega)
  cases op<;>simp[fP,hk]at h<;>first
   |(obtain⟨h1,rfl⟩:=h;simp[binOp,Op.shift,ren];omega)
 ·by_cases hs:∃a b,x=.string a/\y=.string b
  ·obtain⟨a,b,rfl,rfl⟩:=hs;simp only[mN]at h;simp only[ren,eqGuard_at_string,zK,zL,zJ];have e1:a.toList=a.data.toList:=ByteArray.toList_eq a;have e2:b.toList=b.data.toList:=ByteArray.toList_eq b;cases op<;>simp[w7]at h<;>first
    |(subst h;simp[binOp,Op.stringOp,ren,e1,e2,Fa,aj];done)
    |skip
   obtain⟨h1,rfl⟩:=h;have h2:¬ ((a.size+b.size:Nat):Int)>9223372036854775807:=by have ea:a.size=a.data.size:=rfl;have eb:b.size=b.data.size:=rfl;rw[ea,eb];omega
   simp only[binOp,Op.stringOp,IntKind.max_i64,if_neg h2,zL,ren];have e3:a++b=⟨(a.data.toList++b.data.toList).toArray⟩:=by apply ByteArray.ext;simp
   rw[e3]
  have hb:(op=.eql\/op=.neq)/\sC T t x y=true/\∃r,eqv T 50 t x y=some r/\v=.bool (if op=.eql then r else !r):=by unfold mN at h;split at h;exact absurd ⟨_,_,_,_,rfl,rfl⟩ hi;exact absurd ⟨_,_,rfl,rfl⟩ hs;cases op<;>simp at h;rcases hg:sC T t x y with _|_;simp[hg]at h;rcases he:eqv T 50 t x y with _|r;simp[hg,he]at h;simp[hg,he]at h;subst h;simp;rcases hg:sC T t x y with _|_;simp[hg]at h;rcases he:eqv T 50 t x y with _|r;simp[hg,he]at h;simp[hg,he]at h;subst h;simp
  obtain⟨hop,hg,r,he,rfl⟩:=hb;have hq:=Ea hT m w he;simp only[zK,pp hT m w op ox oy hg,zJ];have hsh:=wb he;rcases hop with rfl |rfl;have key:binOp .eql t (ren m x) (ren m y)=(do pure (.bool (<-Op.equal t (ren m x) (ren m y))):Sem Value):=by rcases hsh with⟨a,b,rfl,rfl⟩|⟨k,a,k',b,rfl,rfl⟩|⟨a,b,rfl,rfl⟩|⟨a,b,rfl,rfl⟩|⟨a,n,c,b,n',c',rfl,rfl⟩|⟨a,b,rfl,rfl⟩|⟨a,b,rfl,rfl⟩|⟨r,n,c,rfl,rfl⟩;simp[ren,binOp];exact absurd ⟨_,_,_,_,rfl,rfl⟩ hi;exact absurd ⟨_,_,rfl,rfl⟩ hs;cases a<;>cases b<;>simp[ren,binOp];cases a<;>cases b<;>simp[ren,binOp];cases a<;>cases b<;>simp[ren,binOp];simp[ren,binOp];simp[ren,binOp]
  rw[key];simp[hq,ren];have key:binOp .neq t (ren m x) (ren m y)=(do pure (.bool (!(<-Op.equal t (ren m x) (ren m y)))):Sem Value):=by rcases hsh with⟨a,b,rfl,rfl⟩|⟨k,a,k',b,rfl,rfl⟩|⟨a,b,rfl,rfl⟩|⟨a,b,rfl,rfl⟩|⟨a,n,c,b,n',c',rfl,rfl⟩|⟨a,b,rfl,rfl⟩|⟨a,b,rfl,rfl⟩|⟨r,n,c,rfl,rfl⟩;simp[ren,binOp];exact absurd ⟨_,_,_,_,rfl,rfl⟩ hi;exact absurd ⟨_,_,rfl,rfl⟩ hs;cases a<;>cases b<;>simp[ren,binOp];cases a<;>cases b<;>simp[ren,binOp];cases a<;>cases b<;>simp[ren,binOp];simp[ren,binOp];simp[ren,binOp]
  rw[key];simp[hq,ren]
omit hT in
theorem TC{op:UnOp}{x v:Value}(h:EY op x=some v):(Op.unary op (ren m x)).run P w=.ok (ren m v) w:=by
 cases op<;>cases x<;>simp[EY]at h<;>subst h<;>simp[Op.unary,ren,Op.intArith,Op.intBits]
theorem ml{src dst:TypeId}(h:KF T src dst x=some v):(convert src dst (ren m x)).run P w=.ok (ren m v) w:=by
 unfold KF at h;rcases h1:T.und src with _|d1;simp[h1]at h;rcases h2:T.und dst with _|d2;simp[h1,h2]at h;simp only[h1,h2]at h;unfold convert;simp only[zK,dH hT w h1,dH hT w h2,zJ];cases d2<;>cases x<;>simp at h<;>subst h<;>cases d1<;>simp[ren,Conv.intToInt]
theorem V'(fs:List Field)(hs:wM T fs=true):(fs.mapM (fun f=>do pure (f.offset,<-sizeOf f.type):Field->Sem (Nat×Nat))).run P w=.ok (fs.map fun f=>(f.offset,(bJ T f.type).getD 0)) w:=by
 induction fs with|nil=>simp|cons f fs ih=>simp only[wM]at hs;rcases hf:bJ T f.type with _|n;simp[hf]at hs;simp only[hf]at hs;have ih':=ih hs;simp only[List.mapM_cons,zK,i4 hT w hf,zJ,zL,ih',zQ,hf,Option.getD_some]
omit hT in
theorem G'{fs:List Field}(hs:wM T fs=true){i:Nat}{f:Field}(hf:fs[i]? = some f):∃n,bJ T f.type=some n:=by
 induction fs generalizing i with
 |nil=>simp at hf|cons g fs ih=>
  simp only[wM]at hs;rcases hg:bJ T g.type with _|n;simp[hg]at hs;simp only[hg]at hs;cases i with
  |zero=>simp at hf;subst hf;exact⟨n,hg⟩|succ i=>exact ih hs (by simpa using hf)
theorem be{ps:List (Nat×Value)}(h:UP T t ps=some v):
  (Instr.build t (ps.map fun p=>(p.1,ren m p.2)).toArray).run P w=.ok (ren m v) w:=by
 unfold UP at h;rcases hi:T.inf t with _|x;simp[hi]at h;obtain⟨a,b,z⟩:=x;obtain⟨hz,hzr⟩:=tM hT m w hi;simp only at hz hzr;have hzc:z.cells=⟨aD m z.cells.toList⟩:=by
  conv=>lhs;rw[<-hzr,En]
  cases z.cells;simp
 simp only[hi]at h;unfold Instr.build;simp only[zK,hz,zJ];rcases hd:T.und t with _|d;simp[hd]at h;simp only[dH hT w hd,zJ];cases d with
 |struct fs=>
  simp only[hd]at h;rcases hs:wM T fs.toList with _|_;simp[hs]at h;simp only[hs,zC]at h;rcases hf:tH (BG T fs.toList) z.cells.toList ps with _|cs;simp[hf]at h;simp[hf]at h;subst h;have hm:=V' hT w fs.toList hs;have hm':(fs.mapM (fun f=>do pure (f.offset,<-sizeOf f.type):Field->Sem (Nat×Nat))).run P w=.ok ⟨fs.toList.map fun f=>(f.offset,(bJ T f.type).getD 0)⟩ w:=by rw[Array.mapM_eq_mapM_toList];simp only[Sem.run_map,hm,zJ]
  have hpl:(fun i=>(⟨fs.toList.map fun f=>(f.offset,(bJ T f.type).getD 0)⟩:Array (Nat×Nat))[i]?)=BG T fs.toList:=by
   funext i;simp only[BG,eR];rcases hfi:fs.toList[i]? with _|f;simp at hfi;simp[hfi];obtain⟨n,hn⟩:=G' hs hfi;have:fs[i]? = some f:=by simpa using hfi
   simp[this,hn]
  have hfill:=V4 m (BG T fs.toList) ps z.cells.toList cs hf;simp only[zK,hm',zJ,hpl];rw[hzc];simp only[hfill,zL,ren,gT]
 |array n e=>simp only[hd]at h;rcases hs:bJ T e with _|k;simp[hs]at h;simp only[hs]at h;rcases hf:tH (fun i=>some (i*k,k)) z.cells.toList ps with _|cs;simp[hf]at h;simp[hf]at h;subst h;have hfill:=V4 m (fun i=>some (i*k,k)) ps z.cells.toList cs hf;simp only[zK,i4 hT w hs,zJ];rw[hzc];simp only[hfill,zL,ren,gT]
 |_=>simp[hd]at h
omit hT in
theorem o3(b o n:Nat):(⟨b,o,none⟩:Addr).add n=⟨b,o+n,none⟩:=Addr.add_lit b o n
theorem aa{st:TypeId}{f:Nat}(h:VP T st x f=some v):(Instr.fieldAt st (ren m x) f).run P w=.ok (ren m v) w:=by
 unfold VP at h;rcases hd:T.und st with _|d;simp[hd]at h;cases d with
 |struct fs=>
  simp only[hd,eR]at h;rcases hf:fs.toList[f]? with _|fd;simp at hf;simp[hf]at h;have hf':fs[f]? = some fd:=by simpa using hf
  simp only[hf]at h;cases x with
  |pointer p=>rcases p with _|a;simp at h;simp only at h;rcases hs:bJ T fd.type with _|n;simp[hs]at h;cases n with|zero=>simp[hs]at h|succ n=>simp[hs]at h;subst h;simp[Instr.fieldAt,dH hT w hd,hf',ren,Instr.sureAddr,fieldPlace,i4 hT w hs,o3,Nat.add_assoc]
  |_=>simp at h
 |_=>simp[hd]at h
theorem gc{st:TypeId}{f:Nat}(h:UL T st x f=some v):(Instr.field st (ren m x) f).run P w=.ok (ren m v) w:=by
 unfold UL at h;rcases hd:T.und st with _|d;simp[hd]at h;cases d with
 |struct fs=>
  simp only[hd,eR]at h;rcases hf:fs.toList[f]? with _|fd;simp at hf;simp[hf]at h;have hf':fs[f]? = some fd:=by simpa using hf
  simp only[hf]at h;cases x with
  |agg cs=>obtain⟨cs⟩:=cs;simp only at h;simp[Instr.field,dH hT w hd,hf',ren,asAgg,V9 hT m w h]
  |_=>simp at h
 |_=>simp[hd]at h
omit hT in
theorem KV{i:Int}{n:Nat}(h:kG i n=true):0<=i/\i<n:=by
 cases i with|ofNat k=>simp only[kG,Nat.blt_eq]at h;exact⟨Int.natCast_nonneg k,Int.ofNat_lt.2 h⟩|negSucc k=>simp[kG]at h
theorem Z'{ix:Value}(h:VJ T t x ix=some v):(Instr.indexAt t (ren m x) (ren m ix)).run P w=.ok (ren m v) w:=by
 unfold VJ at h;cases ix with
 |int k i=>
  simp only at h;rcases hd:T.und t with _|d;simp[hd]at h;cases d with
  |array n e=>
   simp only[hd]at h;cases x with
   |pointer p=>rcases p with _|a;simp at h;simp only at h;rcases hr:kG i n with _|_;simp[hr]at h;rcases hs:bJ T e with _|sz;simp[hr,hs]at h;simp[hr,hs]at h;subst h;have:=KV hr;simp[Instr.indexAt,asIntOf,ren,dH hT w hd,Instr.sureAddr,this,i4 hT w hs,o3,Nat.add_assoc]
   |_=>simp at h
  |slice e=>
   simp only[hd]at h;cases x with
   |slice p n c=>rcases p with _|a;simp at h;simp only at h;rcases hr:kG i n with _|_;simp[hr]at h;rcases hs:bJ T e with _|sz;simp[hr,hs]at h;simp[hr,hs]at h;subst h;have:=KV hr;simp[Instr.indexAt,asIntOf,ren,dH hT w hd,this,i4 hT w hs,o3,Nat.add_assoc]
   |_=>simp at h
  |_=>simp[hd]at h
 |_=>simp at h
theorem pm{ix:Value}(h:KJ T t x ix=some v):(Instr.index t (ren m x) (ren m ix)).run P w=.ok (ren m v) w:=by
 unfold KJ at h;cases ix with
 |int k i=>
  simp only at h;rcases hd:T.und t with _|d;simp[hd]at h;cases d with
  |array n e=>
   simp only[hd]at h;cases x with
   |agg cs=>obtain⟨cs⟩:=cs;simp only at h;rcases hr:kG i n with _|_;simp[hr]at h;rcases hs:bJ T e with _|sz;simp[hr,hs]at h;simp only[hr,hs,zC]at h;have:=KV hr;simp[Instr.index,asIntOf,ren,dH hT w hd,this,i4 hT w hs,V9 hT m w h]
   |_=>simp at h
  |string=>
   simp only[hd]at h;cases x with
   |string s=>
    simp only[eR]at h;rcases hr:kG i s.data.toList.length with _|_;simp only[hr,zD]at h;cases h;simp only[hr,zC]at h;have hi:=KV hr;rcases hb:s.data.toList[i.toNat]? with _|b;simp[hb]at h;simp[hb]at h;subst h;have hb':s[i.toNat]? = some b:=by
     have:s.data[i.toNat]? = some b:=by simpa using hb
     obtain⟨hlt,e⟩:=Array.getElem?_eq_some_iff.1 this;have hlt':i.toNat<s.size:=hlt;rw[getElem?_pos s i.toNat hlt'];exact congrArg some e
    simp[Instr.index,asIntOf,ren,dH hT w hd,hi.1,hb']
   |_=>simp at h
  |_=>simp[hd]at h
 |_=>simp at h
omit hT in
theorem ad{x v:Value}{i:Nat}(h:QS x i=some v):(Instr.extract (ren m x) i).run P w=.ok (ren m v) w:=by
 cases x with
 |tuple vs=>obtain⟨vs⟩:=vs;simp only[QS,eR]at h;simp[Instr.extract,ren,hX,h]
 |_=>simp[QS]at h
end
section
variable{P:Program}{T:Tb}(hT:eZ P T)(m:Nm)(w:World)
include hT
variable{t:TypeId}
variable{x:Value}
variable{v:Value}
theorem MD{ty:TypeId}{ts:List TypeId}(h:tY T t x=some v):(Builtin.len_ (t::ts).toArray ty #[ren m x]).run P w=.ok (ren m v) w:=by
 unfold tY at h;rcases hd:T.und t with _|d;simp[hd]at h;simp only[hd]at h;have hu:=dH hT w hd;cases d with
 |string=>cases x<;>simp at h;subst h;rename_i s;simp only[Builtin.len_,List.getElem?_toArray,List.getElem?_cons_zero,zK,hu,zJ,ren,goInt,zL]|slice e=>
  cases x with
  |slice a _ _=>simp only[zA]at h;subst h;cases a<;>simp[Builtin.len_,hu,ren,goInt]|chan r=>rcases r with _|r;simp at h;simp only[zA]at h;subst h;simp[Builtin.len_,hu,ren,goInt]
  |_=>simp at h
 |array n e=>simp at h;subst h;simp[Builtin.len_,hu,ren,goInt]|_=>simp at h
theorem ON{ty:TypeId}{ts:List TypeId}(h:A3 T t x=some v):(Builtin.cap_ (t::ts).toArray ty #[ren m x]).run P w=.ok (ren m v) w:=by
 unfold A3 at h;rcases hd:T.und t with _|d;simp[hd]at h;simp only[hd]at h;have hu:=dH hT w hd;cases d with
 |slice e=>
  cases x with
  |slice a _ c=>
   cases a with
   |none=>simp only[zA]at h;subst h;simp[Builtin.cap_,hu,ren,goInt]|some a=>
    simp only at h;rcases hc:Nat.blt c b7 with _|_;simp[hc]at h;simp only[hc,zC,zA]at h;subst h;have hc':c<b7:=by simpa[Nat.blt_eq]using hc
    simp[Builtin.cap_,hu,ren,goInt,bF,hc']
  |chan r=>rcases r with _|r;simp at h;simp only[zA]at h;subst h;simp[Builtin.cap_,hu,ren,goInt]
  |_=>simp at h
 |_=>simp at h
omit hT in
theorem MA{x v:Value}{l:List Value}(h:pM KC x l=some v):((aD m l).foldlM Builtin.max2 (ren m x)).run P w=.ok (ren m v) w:=by
 induction l generalizing x with
 |nil=>simp[pM]at h;simp[aD,h]|cons y l ih=>
  simp only[pM]at h;rcases hxy:KC x y with _|z;simp[hxy]at h;simp only[hxy]at h;have:(Builtin.max2 (ren m x) (ren m y)).run P w=.ok (ren m z) w:=by cases x<;>cases y<;>simp[KC]at hxy;subst hxy;simp[ren,Builtin.max2]
  simp only[aD,List.foldlM_cons,zK,this,zJ];exact ih h
omit hT in
theorem M9{x v:Value}{l:List Value}(h:pM FE x l=some v):((aD m l).foldlM Builtin.min2 (ren m x)).run P w=.ok (ren m v) w:=by
 induction l generalizing x with
 |nil=>simp[pM]at h;simp[aD,h]|cons y l ih=>
  simp only[pM]at h;rcases hxy:FE x y with _|z;simp[hxy]at h;simp only[hxy]at h;have:(Builtin.min2 (ren m x) (ren m y)).run P w=.ok (ren m z) w:=by cases x<;>cases y<;>simp[FE]at hxy;subst hxy;simp[ren,Builtin.min2]
  simp only[aD,List.foldlM_cons,zK,this,zJ];exact ih h
omit hT in
theorem FX{v:Value}{y n:Nat}(h:eS v y=some n)(Y:Nat)(hY:y<=Y)(code:BoundsCode):(Instr.sliceBound (ren m v) Y code).run P w=.ok n w/\n<=y:=by
 cases v with
 |int k i=>
  simp only[eS]at h;rcases hr:kG i (y+1)with _|_;simp[hr]at h;simp[hr]at h;subst h;have:=KV hr;refine⟨?_,by omega⟩;have h2:0<=i/\i<=(Y:Int):=by omega
  simp[Instr.sliceBound,ren,asIntOf,h2]
 |_=>simp[eS]at h
omit hT in
theorem BL{isS:Bool}{n c Y:Nat}{lo hi mx:Option Value}{l h M:Nat}(hb:dN n c lo hi mx=some (l,h,M))(hY:c<=Y):
  (Instr.sliceBounds isS n Y (lo.map (ren m)) (hi.map (ren m)) (mx.map (ren m))).run P w=.ok (l,h,if mx.isSome then M else Y) w/\l<=h/\(mx.isSome=true->h<=M/\M<=c)/\(mx=none->M=c/\(hi.isSome=true->h<=c)/\(hi=none->h=n)):=by
 unfold dN at hb;cases mx with
 |some v=>
  simp only at hb;rcases h1:eS v c with _|M';simp[h1]at hb;simp only[h1]at hb;rcases hi with _|u;simp at hb;simp only at hb;rcases h2:eS u M' with _|h';simp[h2]at hb;simp only[h2]at hb;have b1:=fun code=>FX (P:=P) m w h1 Y hY code
  have b2:=fun code=>FX (P:=P) m w h2 M' (zF _) code;cases lo with
  |none=>simp at hb;obtain⟨rfl,rfl,rfl⟩:=hb;have q1:=(b1 .index).2;have q2:=(b2 .index).2;refine⟨?_,by omega,fun _=>⟨q2,q1⟩,by simp⟩;simp[Instr.sliceBounds,(b1 _).1,(b2 _).1]
  |some x=>
   simp only at hb;rcases h3:eS x h' with _|l';simp[h3]at hb;simp[h3]at hb;obtain⟨rfl,rfl,rfl⟩:=hb;have b3:=fun code=>FX (P:=P) m w h3 h' (zF _) code
   have q1:=(b1 .index).2;have q2:=(b2 .index).2;have q3:=(b3 .index).2;refine⟨?_,q3,fun _=>⟨q2,q1⟩,by simp⟩;simp[Instr.sliceBounds,(b1 _).1,(b2 _).1,(b3 _).1]
 |none=>
  simp only at hb;cases hi with
  |some u=>
   simp only at hb;rcases h2:eS u c with _|h';simp[h2]at hb;simp only[h2]at hb;have b2:=fun code=>FX (P:=P) m w h2 Y hY code
   have q2:=(b2 .index).2;cases lo with
   |none=>simp at hb;obtain⟨rfl,rfl,rfl⟩:=hb;refine⟨?_,by omega,by simp,fun _=>⟨rfl,fun _=>q2,by simp⟩⟩;simp[Instr.sliceBounds,(b2 _).1]
   |some x=>
    simp only at hb;rcases h3:eS x h' with _|l';simp[h3]at hb;simp[h3]at hb;obtain⟨rfl,rfl,rfl⟩:=hb;have b3:=fun code=>FX (P:=P) m w h3 h' (zF _) code
    have q3:=(b3 .index).2;refine⟨?_,q3,by simp,fun _=>⟨rfl,fun _=>q2,by simp⟩⟩;simp[Instr.sliceBounds,(b2 _).1,(b3 _).1]
  |none=>
   simp only at hb;cases lo with
   |none=>simp at hb;obtain⟨rfl,rfl,rfl⟩:=hb;refine⟨?_,by omega,by simp,by simp⟩;simp[Instr.sliceBounds]
   |some x=>
    simp only at hb;rcases h3:eS x n with _|l';simp[h3]at hb;simp[h3]at hb;obtain⟨rfl,rfl,rfl⟩:=hb;have b3:=fun code=>FX (P:=P) m w h3 n (zF _) code
    have q3:=(b3 .index).2;refine⟨?_,q3,by simp,by simp⟩;simp[Instr.sliceBounds,(b3 _).1]
theorem uk{lo hi mx:Option Value}(h:iX T t x lo hi mx=some v):
  (Instr.sliceAt t (ren m x) (lo.map (ren m)) (hi.map (ren m)) (mx.map (ren m))).run P w=.ok (ren m v) w:=by
 unfold iX at h;rcases hd:T.und t with _|d;simp[hd]at h;simp only[hd]at h;have hu:=dH hT w hd;cases d with
 |string=>
  cases x with
  |string s=>
   simp only at h;cases mx with
   |some _=>simp at h|none=>
    simp only at h;rcases hb:dN s.data.toList.length s.data.toList.length lo hi none with _|r;simp only[hb]at h;cases h;obtain⟨l,hh,M⟩:=r;simp only[hb,zA]at h;subst h;obtain⟨h1,_,_,_⟩:=BL (P:=P) (isS:=false) m w hb (zF _);have hsz:s.size=s.data.toList.length:=rfl;simp only[Option.map_none]at h1;simp only[Instr.sliceAt,zK,hu,zJ,Instr.slice,ren,Option.map_none,Option.isSome_none,Bool.false_eq_true,if_false,hsz,h1,zL];have e3:s.extract l hh=⟨((s.data.toList.take hh).drop l).toArray⟩:=by apply ByteArray.ext;rw[ByteArray.data_extract];apply Array.ext';simp[List.drop_take]
    rw[e3]
  |_=>simp at h
 |slice e=>
  cases x with
  |slice a n c=>
   simp only at h;cases hc:Nat.blt c b7 with
   |false=>
    simp only[hc,zD]at h;unfold emptyS at h;rcases a with _|a;simp at h;cases n with
    |succ n=>simp at h|zero=>
     simp only at h;rcases hb:dN 0 0 lo hi mx with _|r;simp[hb]at h;obtain⟨l,hh,M⟩:=r;simp only[hb]at h;cases l with
     |succ l=>simp at h|zero=>
      cases hh with
      |succ l=>simp at h|zero=>
       cases M with
       |succ l=>simp at h|zero=>
        simp only at h;rcases hs:bJ T e with _|sz;simp[hs]at h;simp only[hs,zA]at h;subst h;obtain⟨h1,_,_,_⟩:=BL (P:=P) (isS:=true) (Y:=bF m a.block c) m w hb (Nat.zero_le _);cases mx with
        |none=>simp only[Option.isSome_none,Bool.false_eq_true,if_false]at h1;simp only[Instr.sliceAt,zK,hu,zJ,Instr.slice,ren,h1,i4 hT w hs,zL,zM,Nat.zero_mul,Nat.sub_zero,o3,Nat.add_zero,ite_self]|some vm=>
         simp only[Option.isSome_some,if_true,zM]at h1;have h0:bF m a.block 0=0:=by simp[bF,b7]
         simp only[Instr.sliceAt,zK,hu,zJ,Instr.slice,ren,h1,i4 hT w hs,zL,zM,Nat.zero_mul,Nat.sub_zero,o3,Nat.add_zero,ite_self,h0]
   |true=>
    simp only[hc,zC]at h;have hc':c<b7:=by simpa[Nat.blt_eq]using hc
    rcases hb:dN n c lo hi mx with _|r;simp[hb]at h;obtain⟨l,hh,M⟩:=r;simp only[hb]at h;rcases hs:bJ T e with _|sz;simp[hs]at h;simp only[hs,zA]at h;subst h;have hcap:∀i,bF m i c=c:=fun i=>by simp[bF,hc']
    obtain⟨h1,h2,h3,h4⟩:=BL (P:=P) (isS:=true) (Y:=c) m w hb (zF _);have hM:(if mx.isSome then M else c)=M:=by rcases mx with _|v;simp[(h4 rfl).1];simp
    rw[hM]at h1;have hMl:M-l<b7:=by rcases mx with _|v;have:=(h4 rfl).1;omega;have:=(h3 rfl).2;omega
    cases a with|none=>simp only[Instr.sliceAt,zK,hu,zJ,Instr.slice,ren,h1,i4 hT w hs,zL,beq_eq];by_cases e:M=l<;>simp[e,ren]|some a=>simp only[Instr.sliceAt,zK,hu,zJ,Instr.slice,ren,hcap,h1,i4 hT w hs,zL,beq_eq];by_cases e:M=l;simp[e,ren,bF,b7];simp[e,ren,bF,hMl,o3,Nat.add_assoc]
  |chan r=>
   rcases r with _|r;simp at h;simp only at h;rcases hb:dN 0 0 lo hi mx with _|q;simp[hb]at h;obtain⟨l,hh,M⟩:=q;simp only[hb]at h;rcases hs:bJ T e with _|sz;simp[hs]at h;simp only[hs,zA]at h;subst h;obtain⟨h1,h2,h3,h4⟩:=BL (P:=P) (isS:=true) (Y:=0) m w hb (zF _);have hz:l=0/\hh=0/\M=0:=by
    cases mx with
    |none=>obtain⟨q1,q2,q3⟩:=h4 rfl;rcases hi with _|v;have:=q3 rfl;omega;have:=q2 rfl;omega
    |some v=>have:=h3 rfl;omega
   obtain⟨rfl,rfl,rfl⟩:=hz;simp only[ite_self]at h1;simp only[Instr.sliceAt,zK,hu,zJ,Instr.slice,ren,h1,i4 hT w hs,zL,if_true,Nat.sub_zero]
  |_=>simp at h
 |array n e=>
  cases x with
  |pointer p=>
   rcases p with _|a;simp at h;simp only at h;rcases hb:dN n n lo hi mx with _|r;simp only[hb]at h;cases h;obtain⟨l,hh,M⟩:=r;simp only[hb]at h;rcases hs:bJ T e with _|sz;simp[hs]at h;simp only[hs]at h;rcases hn:Nat.blt n b7 with _|_;simp[hn]at h;simp only[hn,zC,zA]at h;subst h;have hn':n<b7:=by simpa[Nat.blt_eq]using hn
   obtain⟨h1,h2,h3,h4⟩:=BL (P:=P) (isS:=false) (Y:=n) m w hb (zF _);have hM:(if mx.isSome then M else n)=M:=by rcases mx with _|v;simp[(h4 rfl).1];simp
   rw[hM]at h1;have hMl:M-l<b7:=by rcases mx with _|v;have:=(h4 rfl).1;omega;have:=(h3 rfl).2;omega
   simp only[Instr.sliceAt,zK,hu,zJ,Instr.sureAddr,ren,h1,i4 hT w hs,zL,beq_eq];by_cases e:M=l;simp[e,bF,b7];simp[e,bF,hMl,o3,Nat.add_assoc]
  |_=>simp at h
 |_=>simp at h
theorem yz{tm:List Value}{a:Act}(ha:a.tmps=⟨aD m tm⟩)(o:Oper)(h:eF T tm o.op=some v):(execOp a.eval o).run P w=.ok (.value (ren m v)) w:=by
 obtain⟨dst,op,type,pos,after,guard⟩:=o;simp only at h;unfold eF at h;cases op with
 |move x=>simp only at h;simp[execOp,gP ha h]|assign x=>simp only at h;simp[execOp,gP ha h]
 |pick c x y=>
  simp only at h;rcases hc:evalO tm c with _|cv;simp[hc]at h;cases cv with
  |bool b=>rcases b with _|_;simp only[hc]at h;simp[execOp,gP ha hc,gP ha h,ren,asBool];simp only[hc]at h;simp[execOp,gP ha hc,gP ha h,ren,asBool]
  |_=>simp[hc]at h
 |build t ps=>
  simp only at h;rcases hp:wJ tm ps.toList with _|qs;simp[hp]at h;simp only[hp]at h;have e1:(ps.map fun x=>(x.1,a.eval x.2))=(qs.map fun p=>(p.1,ren m p.2)).toArray:=by rw[<-Oy ha hp];cases ps;simp
  have:=be hT m w h;rw[<-e1]at this;simp only[execOp,zK];rw[this];rfl
 |nilCheck x=>
  simp only at h;rcases hx:evalO tm x with _|u;simp[hx]at h;have he:=gP ha hx;cases u with
  |pointer p=>rcases p with _|q;simp[hx]at h;simp[hx]at h;subst h;simp[execOp,he,ren]
  |func fn x y=>cases fn with|func f=>simp[hx]at h;subst h;simp[execOp,he,ren]|_=>simp[hx]at h
  |_=>simp[hx]at h
 |binOp op t x y ty=>simp only at h;rcases hx:evalO tm x with _|u;simp[hx]at h;rcases hy:evalO tm y with _|u';simp[hx,hy]at h;simp only[hx,hy]at h;have:=OR hT m w op x y h;simp only[execOp,gP ha hx,gP ha hy];rw[zK,this];rfl
 |unOp op t x=>simp only at h;rcases hx:evalO tm x with _|u;simp[hx]at h;simp only[hx]at h;simp[execOp,gP ha hx,TC m w h]
 |convert s d x=>simp only at h;rcases hx:evalO tm x with _|u;simp[hx]at h;simp only[hx]at h;simp[execOp,gP ha hx,ml hT m w h]
 |makeFunc fn first cap=>
  simp only at h;rcases hx:fX tm first.toList with _|u
  simp[hx]at h;rcases hy:fX tm cap.toList with _|u';simp[hx,hy]at h;simp only[hx,hy,zA]at h;subst h;simp[execOp,mR ha hx,mR ha hy,Instr.makeFunc,ren]
 |slice t x lo hi mx=>simp only at h;rcases hx:evalO tm x with _|u;simp[hx]at h;rcases h1:kP tm lo with _|l;simp[hx,h1]at h;rcases h2:kP tm hi with _|hh;simp[hx,h1,h2]at h;rcases h3:kP tm mx with _|mm;simp[hx,h1,h2,h3]at h;simp only[hx,h1,h2,h3]at h;have:=uk hT m w h;simp only[execOp,gP ha hx,D6 ha h1,D6 ha h2,D6 ha h3];rw[zK,this];rfl
 |fieldAddr t x f=>simp only at h;rcases hx:evalO tm x with _|u;simp[hx]at h;simp only[hx]at h;simp[execOp,gP ha hx,aa hT m w h]
 |field t x f=>simp only at h;rcases hx:evalO tm x with _|u;simp[hx]at h;simp only[hx]at h;simp[execOp,gP ha hx,gc hT m w h]
 |indexAddr t x i=>simp only at h;rcases hx:evalO tm x with _|u;simp[hx]at h;rcases hy:evalO tm i with _|u';simp[hx,hy]at h;simp only[hx,hy]at h;simp[execOp,gP ha hx,gP ha hy,Z' hT m w h]
 |index t x i=>simp only at h;rcases hx:evalO tm x with _|u;simp[hx]at h;rcases hy:evalO tm i with _|u';simp[hx,hy]at h;simp only[hx,hy]at h;simp[execOp,gP ha hx,gP ha hy,pm hT m w h]
 |extract x i=>simp only at h;rcases hx:evalO tm x with _|u;simp[hx]at h;simp only[hx]at h;simp[execOp,gP ha hx,ad m w h]
 |call c=>
  obtain⟨callee,args,ats⟩:=c;simp only at h;cases callee with
  |builtin b=>
   cases b with
   |len=>simp only at h;rcases hx:fX tm args.toList with _|vs;simp[hx]at h;rcases vs with _ |⟨x,_ |⟨y,l⟩⟩;simp[hx]at h;obtain⟨ats⟩:=ats;rcases ats with _|⟨t,ts⟩;simp[hx]at h;simp only[hx]at h;have e1:=mR ha hx;simp only[aD]at e1;have:=MD hT m w (ty:=type) (ts:=ts) h;simp only[execOp,zK,resolve,zL,zJ,invoke,builtin,e1];rw[this];rfl;simp[hx]at h
   |cap=>simp only at h;rcases hx:fX tm args.toList with _|vs;simp[hx]at h;rcases vs with _ |⟨x,_ |⟨y,l⟩⟩;simp[hx]at h;obtain⟨ats⟩:=ats;rcases ats with _|⟨t,ts⟩;simp[hx]at h;simp only[hx]at h;have e1:=mR ha hx;simp only[aD]at e1;have:=ON hT m w (ty:=type) (ts:=ts) h;simp only[execOp,zK,resolve,zL,zJ,invoke,builtin,e1];rw[this];rfl;simp[hx]at h
   |max=>simp only at h;rcases hx:fX tm args.toList with _|vs;simp[hx]at h;rcases vs with _|⟨x,l⟩;simp[hx]at h;simp only[hx]at h;have e1:=mR ha hx;simp only[aD]at e1;have:=MA (P:=P) m w h;simp only[execOp,zK,resolve,zL,zJ,invoke,builtin,e1,Builtin.max_];rw[this];rfl
   |min=>simp only at h;rcases hx:fX tm args.toList with _|vs;simp[hx]at h;rcases vs with _|⟨x,l⟩;simp[hx]at h;simp only[hx]at h;have e1:=mR ha hx;simp only[aD]at e1;have:=M9 (P:=P) m w h;simp only[execOp,zK,resolve,zL,zJ,invoke,builtin,e1,Builtin.min_];rw[this];rfl
   |_=>simp at h
  |_=>simp at h
 |_=>simp at h
end
theorem pN.cell{m:Nm}{i:Nat}{l:List Value}{e:TypeId}{w:World}{md:Nat}(h:pN m i l e w md){j:Nat}{v:Value}(hj:l[j]? = some v):
  w.cell? ⟨m.blk i,m.sh i+j,none⟩=some (ren m v):=by
 have hlt:j<l.length:=(zG.1 hj).1;rcases md with _ |_ |n;obtain⟨h0,h1⟩:=h;simp[World.cell?,h1,h0,hX,hj];obtain⟨c,e',fr,h1,h2,_⟩:=h;simp[World.cell?,h1,h2 j v hj];obtain⟨pr,rest,h1,h2,_⟩:=h;simp only[World.cell?,h1,Option.isSome_none,Bool.false_eq_true,if_false,List.getElem?_toArray,zT,<-h2];rw[List.getElem?_append_right (by omega),Nat.add_sub_cancel_left,List.getElem?_append_left (by simpa using hlt)];simp[hX,hj]
theorem run_getObj_map{P:Program}{w:World}{r:Nat}{es:Array MapEntry}{c:Nat}(h:w.heap[r]? = some (.map es c)):(getObj r).run P w=.ok (.map es c) w:=by
 simp[getObj,Sem.run,h]
variable{s:S}
theorem Fi{i:Nat}{l:List Value}{e:TypeId}{md:Nat}(h:bR s i=some (l,e,md)):lk s.h i=some (.inl (l,e,md))/\md≠1:=by
 unfold bR at h;rcases hl:lk s.h i with _|b;simp[hl]at h;rcases b with⟨l',e',md'⟩|⟨es,c⟩;rcases md' with _ |_ |n<;>simp[hl]at h<;>obtain⟨rfl,rfl,rfl⟩:=h<;>simp;simp[hl]at h
theorem VZ{a b:Nat}(h:Nat.blt a b=false):¬ a<b:=fun hlt=>by
 have:Nat.blt a b=true:=Nat.ble_eq_true_of_le hlt;rw[this]at h;cases h
theorem wV{a b:Nat}(h:Nat.blt a b=true):a<b:=zY h
theorem F'(c b k:Nat)(h:b<=c):c+k-b=c-b+k:=by omega
theorem ql{c:Nat}(h:b7<=c)(k:Nat):aW (c+k)=aW c+k:=F' c b7 k h
section
variable{P:Program}{T:Tb}(hT:eZ P T)(m:Nm)(w:World)
include hT
variable{t:TypeId}
variable{v:Value}
theorem Xw(hf:Fits m s w){i off:Nat}{l:List Value}{e:TypeId}{md:Nat}(hl:lk s.h i=some (.inl (l,e,md)))
  (h:(match T.und t with
    |none=>none|some d=>cond (kQ d) (match bJ T t with
      |some n=>match nS l off n with
       |some cs=>some (Value.agg cs.toArray)|none=>none
      |none=>none) (nth l off))=some v):
  (loadVar t ⟨m.blk i,m.sh i+off,none⟩).run P w=.ok (ren m v) w:=by
 have hr:pN m i l e w md:=hf.ok i _ hl;rcases hd:T.und t with _|d;simp[hd]at h;simp only[hd]at h;unfold loadVar;simp only[zK,qz hT w hd,zJ];cases hag:kQ d with
 |true=>
  simp only[hag,zC]at h;rcases hs:bJ T t with _|n;simp[hs]at h;simp only[hs]at h;rcases hg:nS l off n with _|cs;simp[hg]at h;simp only[hg,zA]at h;subst h;have hlen:(aD m cs).length=n:=by rw[oP];exact Mw hg
  have:=run_loadCells_list (P:=P) w ⟨m.blk i,m.sh i+off,none⟩ (aD m cs) (fun j u hu=>by rw[hX,List.getElem?_map]at hu;rcases hc:cs[j]? with _|u';simp[hc]at hu;simp[hc]at hu;subst hu;rw[o3,Nat.add_assoc];exact hr.cell (Wz hg hc));rw[hlen]at this;simp[i4 hT w hs,this,ren]
 |false=>simp only[hag,zD,eR]at h;have:=hr.cell h;simp[this]
theorem pk{K:TypeId->Value->Bool}{d:Nat}{b:Bool}(hK:∀t v w,K t v=true->(Instr.checkKey b d t (ren m v)).run P w=.ok () w)(cs:List Value)(fs:List Field)(h:U6 T K cs fs=true):
  (forIn fs PUnit.unit (fun f _=>
    if f.name ≠ "_" then (do
     let x <-part f.type ⟨aD m cs⟩ f.offset
     Instr.checkKey b d f.type x
     pure (ForInStep.yield PUnit.unit))
    else pure (ForInStep.yield PUnit.unit)):Sem PUnit).run P w=.ok PUnit.unit w:=by
 induction fs with|nil=>simp|cons f fs ih=>simp only[U6]at h;simp only[List.forIn_cons];split at h;rename_i hn;rcases hp:uX T f.type cs f.offset with _|v;simp[hp]at h;simp only[hp]at h;rcases hk:K f.type v with _|_;simp[hk]at h;simp only[hk,zC]at h;have h1:=V9 hT m w hp;have h2:=hK f.type v w hk;simp only[hn,ne_eq,not_false_eq_true,if_true,zK,h1,zJ,h2,zL];exact ih h;rename_i hn;simp only[hn,if_false,zK,zL,zJ];exact ih h
theorem UJ(b:Bool)(d k:Nat)(w:World)(h:jX T d t v=true):(Instr.checkKey b (d+k) t (ren m v)).run P w=.ok () w:=by
 induction d generalizing t v w with
 |zero=>simp[jX]at h|succ d ih=>
  have hsucc:d+1+k=(d+k)+1:=by omega
  rw[hsucc];simp only[jX]at h;rcases hd:T.und t with _|ty;simp[hd]at h;have hu:=dH hT w hd;cases ty with
  |int kk=>simp[Instr.checkKey,hu]|string=>simp[Instr.checkKey,hu]
  |bool=>simp[Instr.checkKey,hu]|struct fs=>
   simp only[hd]at h;cases v with
   |agg cs=>obtain⟨cs⟩:=cs;simp only at h;have:=pk hT m w (b:=b) (d:=d+k) (fun t v w hk=>ih w hk) cs fs.toList h;simp only[Instr.checkKey,zK,hu,zJ,ren,gT];rw[<-Array.forIn_toList,this];rfl
   |_=>simp at h
  |_=>simp[hd]at h
theorem B'{kt:TypeId}{k:Value}(es:List MapEntry)(i:Nat){r:Option (Nat×Value)}(h:kE T kt k es i=some r):
  (Instr.findAsking kt (ren m k) (es.map (cJ m)) i).run P w=.ok (r.map fun p=>(p.1,ren m p.2)) w:=by
 induction es generalizing i with|nil=>simp[kE]at h;subst h;simp[Instr.findAsking]|cons e es ih=>simp only[kE]at h;rcases he:eqv T 50 kt k e.key with _|b;simp[he]at h;have hq:=Ea hT m w he;rcases b with _|_;simp only[he]at h;simpa[Instr.findAsking,cJ,hq]using ih (i+1) h;simp[he]at h;subst h;simp[Instr.findAsking,cJ,hq]
omit hT in
theorem M8{kt:TypeId}{d:TypeDesc}(hd:T.und kt=some d){k:Value}(es:List MapEntry)(i:Nat){r r':Option (Nat×Value)}(h:kE T kt k es i=some r)
  (h':Instr.findNow d (ren m k) (es.map (cJ m)) i=some r'):r'=r.map fun p=>(p.1,ren m p.2):=by
 induction es generalizing i with
 |nil=>simp[kE]at h;subst h;simp[Instr.findNow]at h';simp[<-h']|cons e es ih=>
  simp only[kE]at h;simp only[zQ,Instr.findNow]at h';rcases he:eqv T 50 kt k e.key with _|b;simp[he]at h;have key:∀b',Instr.sameNow d (ren m k) (cJ m e).key=some b'->b'=b:=by intro b' hb';simp only[cJ]at hb';rcases wb he with⟨x,y,hx,hy⟩|⟨kk,x,k',y,hx,hy⟩|⟨x,y,hx,hy⟩|⟨x,y,hx,hy⟩|⟨x,n,c,y,n',c',hx,hy⟩|⟨x,y,hx,hy⟩|⟨x,y,hx,hy⟩|⟨x,n,c,hx,hy⟩;rw[hx,hy]at hb' he;cases d<;>simp[Instr.sameNow,ren]at hb';simp[eqv,hd]at he;exact hb'.symm.trans he;rw[hx,hy]at hb' he;cases d<;>simp[Instr.sameNow,ren]at hb';simp[eqv,hd]at he;exact hb'.2.symm.trans he.2;rw[hx,hy]at hb' he;cases d<;>simp[Instr.sameNow,ren]at hb';simp[eqv,hd]at he;rw[<-hb',<-he,Fa,beq_toListBytes,ByteArray.toList_eq,ByteArray.toList_eq];rw[hx,hy]at hb';cases x<;>cases y<;>cases d<;>simp[Instr.sameNow,ren]at hb';rw[hx,hy]at hb';cases x<;>cases y<;>cases d<;>simp[Instr.sameNow,ren]at hb';rw[hx,hy]at hb';cases x<;>cases y<;>cases d<;>simp[Instr.sameNow,ren]at hb';rw[hx,hy]at hb';cases d<;>simp[Instr.sameNow,ren]at hb';rw[hx,hy]at hb';cases d<;>simp[Instr.sameNow,ren]at hb'
  rcases hsn:Instr.sameNow d (ren m k) (cJ m e).key with _|b';simp[hsn]at h';have:=key b' hsn;subst this;rcases b' with _|_;simp only[he]at h;simp only[hsn]at h';exact ih (i+1) h h';simp[he]at h;subst h;simp[hsn]at h';simp[<-h',cJ]
theorem BE{kt:TypeId}{d:TypeDesc}(hd:T.und kt=some d){k:Value}{es:List MapEntry}{r:Option (Nat×Value)}(h:kE T kt k es 0=some r):
  (Instr.findKey kt (ren m k) (es.map (cJ m))).run P w=.ok (r.map fun p=>(p.1,ren m p.2)) w:=by
 unfold Instr.findKey;simp only[zK,dH hT w hd,zJ];rcases hn:Instr.findNow d (ren m k) (es.map (cJ m)) 0 with _|r';exact B' hT m w es 0 h;simp[M8 m hd es 0 h hn]
omit hT in
theorem Dw{d:Nat}{kt:TypeId}{v:Value}(h:jX T d kt v=true):∃ty,T.und kt=some ty:=by
 cases d with|zero=>simp[jX]at h|succ d=>simp only[jX]at h;rcases hd:T.und kt with _|ty;simp[hd]at h;exact⟨ty,rfl⟩
omit hT in
theorem Qp{s:S}{i sz:Nat}{l:List Value}(h:tJ s i sz=some l):∃e md,lk s.h i=some (.inl (l,e,md))/\(md=1/\e=sz+1\/md=sz+2):=by
 unfold tJ at h;rcases hl:lk s.h i with _|b;simp[hl]at h;rcases b with⟨l',e',md'⟩|⟨es,c⟩;rcases md' with _ |_ |n;simp[hl]at h;simp only[hl,beq_eq]at h;by_cases he:e'=sz+1;simp only[he,yC,zC,zA]at h;subst h;exact⟨_,_,rfl,.inl ⟨rfl,he⟩⟩;simp[he]at h;simp only[hl,beq_eq]at h;by_cases he:n=sz;simp only[he,yC,zC,zA]at h;subst h;exact⟨_,_,rfl,.inr (by rw[he])⟩;simp[he]at h;simp[hl]at h
omit hT in
theorem Do{s:S}(hf:Fits m s w){i c sz:Nat}{l:List Value}(hl:tJ s i (sz+1)=some l){off n:Nat}(ho:off=aW c*(sz+1))(hn:off+n*(sz+1)<=l.length):n+aW c<=m.cp i:=by
 obtain⟨e,md,hl,hmd⟩:=Qp hl;have h3:l.length<=m.cp i*(sz+1):=by rcases hmd with⟨rfl,rfl⟩|rfl;obtain⟨_,_,_,_,_,h3⟩:=hf.ok i _ hl;exact h3 _ rfl;obtain⟨pr,rest,_,_,h3⟩:=hf.ok i _ hl;omega
 have:(n+aW c)*(sz+1)<=m.cp i*(sz+1):=by rw[Nat.add_mul];omega
 exact Nat.le_of_mul_le_mul_right this (by omega)
theorem cq(hf:Fits m s w){x:Value}{lo hi mx:Option Value}(h:v6 T s t x lo hi mx=some v):
  (Instr.sliceAt t (ren m x) (lo.map (ren m)) (hi.map (ren m)) (mx.map (ren m))).run P w=.ok (ren m v) w:=by
 unfold v6 at h;rcases hd:T.und t with _|dd;simp[hd]at h;cases dd with
 |slice e=>
  cases x with
  |slice p n c=>
   rcases p with _|a;simp[hd]at h;simp only[hd]at h;cases hc:Nat.blt c b7 with
   |true=>simp[hc]at h|false=>
    have hc':¬ c<b7:=VZ hc;simp only[hc,zD]at h;rcases hs:bJ T e with _|sz;simp[hs]at h;simp only[hs]at h;rcases hr:tJ s a.block sz with _|l;simp[hr]at h;simp only[hr,beq_eq]at h;by_cases hoff:a.off=aW c*sz;rw[decide_eq_true hoff]at h;simp only[zC]at h;rcases hpos:Nat.blt 0 sz with _|_;simp[hpos]at h;have hpos':0<sz:=wV hpos;simp only[hpos,zC]at h;obtain⟨sz,rfl⟩:∃q,sz=q+1:=⟨sz-1,by omega⟩;obtain⟨_,_,sK,_⟩:=Qp hr;have hl:=hr;have hbd:=hf.bd _ _ sK;have ecx:ren m (.slice (some a) n c)=.slice (some ⟨m.blk a.block,m.sh a.block+a.off,none⟩) n (m.cp a.block-aW c):=by simp[ren,bF,hc']
    have hknown:(l.length-a.off)/(sz+1)<=m.cp a.block-aW c:=by
     rcases Nat.eq_zero_or_pos ((l.length-a.off)/(sz+1))with h0 |hp;omega;have hle:=Nat.div_mul_le_self (l.length-a.off) (sz+1);have hge:a.off<=l.length:=by rcases Nat.lt_or_ge l.length a.off with hlt |hge;rw[show l.length-a.off=0 by omega]at hp;simp at hp;exact hge
     have:=Do m w hf (c:=c) (n:=(l.length-a.off)/(sz+1)) (off:=a.off) hl hoff (by omega);omega
    have hu:=dH hT w hd;cases mx with
    |some vm=>
     simp only at h;rcases hb1:eS vm ((l.length-a.off)/(sz+1))with _|M0;simp[hb1]at h;simp only[hb1]at h;rcases jS:Nat.ble (a.off+M0*(sz+1)) l.length with _|_;simp[jS]at h;simp only[jS,zC]at h;rcases hb:dN n M0 lo hi (some vm)with _|q;simp[hb]at h;obtain⟨l1,hh,M⟩:=q;simp only[hb]at h;rcases hMc:Nat.blt M b7 with _|_;simp[hMc]at h;simp only[hMc,zC,zA]at h;subst h;have hMc':M<b7:=wV hMc;have Ti:M0<=m.cp a.block-aW c:=by have:=(FX (P:=P) m w hb1 _ (zF _) .index).2;omega
     obtain⟨b1,b2,b3,_⟩:=BL (P:=P) (isS:=true) m w hb Ti;simp only[Option.isSome_some,if_true,zM]at b1;have hMl:M-l1<b7:=Nat.lt_of_le_of_lt (Nat.sub_le _ _) hMc';have hrun:(Instr.sliceAt t (ren m (.slice (some a) n c)) (lo.map (ren m)) (hi.map (ren m)) ((some vm).map (ren m))).run P w=.ok (.slice (if M=l1 then some ⟨m.blk a.block,m.sh a.block+a.off,none⟩else some ⟨m.blk a.block,m.sh a.block+a.off+l1*(sz+1),none⟩) (hh-l1) (M-l1)) w:=by rw[ecx];simp only[Instr.sliceAt,zK,hu,zJ,Instr.slice,b1,i4 hT w hs,zL,zM,o3]
     rw[hrun];by_cases rD:M=l1;rw[rD]at hMl ⊢;simp only[yC,zC,ren,if_true,bF,if_pos hMl];simp only[decide_eq_false rD,zD,ren,if_neg rD,bF,if_pos hMl,Nat.add_assoc]
    |none=>
     simp only at h;rcases hb:dN n ((l.length-a.off)/(sz+1)) lo hi none with _|q;simp[hb]at h;obtain⟨l1,hh,M⟩:=q;simp only[hb]at h;rcases jS:Nat.ble (a.off+hh*(sz+1)) l.length with _|_;simp[jS]at h;simp only[jS,zC]at h;have NI:a.off+hh*(sz+1)<=l.length:=zY jS;have hhC:=Do m w hf (c:=c) (n:=hh) (off:=a.off) hl hoff NI;obtain⟨b1,b2,_,b4⟩:=BL (P:=P) (isS:=true) m w hb hknown;simp only[Option.isSome_none,Bool.false_eq_true,if_false]at b1;have hrun:(Instr.sliceAt t (ren m (.slice (some a) n c)) (lo.map (ren m)) (hi.map (ren m)) ((none:Option Value).map (ren m))).run P w=.ok (.slice (if m.cp a.block-aW c=l1 then some ⟨m.blk a.block,m.sh a.block+a.off,none⟩else some ⟨m.blk a.block,m.sh a.block+a.off+l1*(sz+1),none⟩) (hh-l1) (m.cp a.block-aW c-l1)) w:=by rw[ecx];simp only[Instr.sliceAt,zK,hu,zJ,Instr.slice,b1,i4 hT w hs,zL,zM,o3]
     cases l1 with
     |zero=>simp only[zA]at h;subst h;rw[Nat.sub_zero,Nat.sub_zero,Nat.zero_mul,Nat.add_zero]at hrun;by_cases hC:m.cp a.block-aW c=0;rw[if_pos hC]at hrun;rw[hrun];simp only[ren,bF,if_neg hc'];rw[if_neg hC]at hrun;rw[hrun];simp only[ren,bF,if_neg hc']|succ l1=>
      simp only at h;rcases hlt:Nat.blt (l1+1) hh with _|_;simp[hlt]at h;have hlt':l1+1<hh:=wV hlt;simp only[hlt,zC,zA]at h;subst h;have hne:¬ m.cp a.block-aW c=l1+1:=by omega
      have hnc:¬ c+(l1+1)<b7:=fun hh=>hc' (Nat.lt_of_le_of_lt (Nat.le_add_right _ _) hh);have hcd:aW (c+(l1+1))=aW c+(l1+1):=ql (Nat.le_of_not_lt hc') _;rw[hrun];simp only[ren,bF,if_neg hnc,if_neg hne,hcd,Nat.add_assoc,Nat.sub_sub]
    rw[decide_eq_false hoff]at h;simp at h
  |_=>simp[hd]at h
 |_=>simp[hd]at h
theorem Na(hf:Fits m s w){tm:List Value}{a:Act}(ha:a.tmps=⟨aD m tm⟩)(o:Oper)(h:iV T tm s o.op=some v): (execOp a.eval o).run P w=.ok (.value (ren m v)) w:=by
  obtain⟨dst,op,type,pos,after,guard⟩:=o;simp only at h;unfold iV at h;cases op with
  |load t x=>
    simp only at h;rcases hx:evalO tm x with _|u;simp[hx]at h;cases u with
    |pointer p=>rcases p with _|b;simp[hx]at h;simp only[hx]at h;rcases hl:lk s.h b.block with _|blk;simp[hl]at h;rcases blk with⟨l,e,md⟩|⟨es,c⟩;simp only[hl]at h;have:=Xw hT m w hf hl h;simp[execOp,gP ha hx,ren,Instr.loadAt,Instr.sureAddr,this];simp[hl]at h
    |_=> simp[hx]at h
  |slice t x lo hi mx=>simp only at h;rcases hx:evalO tm x with _|u;simp[hx]at h;rcases h1:kP tm lo with _|l;simp[hx,h1]at h;rcases h2:kP tm hi with _|hh;simp[hx,h1,h2]at h;rcases h3:kP tm mx with _|mm;simp[hx,h1,h2,h3]at h;simp only[hx,h1,h2,h3]at h;have:=cq hT m w hf h;simp only[execOp,gP ha hx,D6 ha h1,D6 ha h2,D6 ha h3];rw[zK,this];rfl
  |lookup t x k ok=>
    simp only at h;rcases hd:T.und t with _|d;simp[hd]at h;cases d with
    |map kt et=>
      simp only[hd]at h;rcases hx:evalO tm x with _|u;simp[hx]at h;cases u with
      |map r=>
        simp only[hx]at h;rcases hk:evalO tm k with _|kv;simp[hk]at h;simp only[hk]at h;rcases hkx:jX T 50 kt kv with _|_;simp[hkx]at h;simp only[hkx,zC]at h;obtain⟨ty,hty⟩:=Dw hkx;have main : ∀ es : List MapEntry, (match kE T kt kv es 0 with
              |none=> none|some (some (_,v))=> some (cond ok (.tuple #[v, .bool true]) v)
              |some none=> match T.inf et with
                |some (_,_,z)=> some (cond ok (.tuple #[z, .bool false]) z)|none=> none)=some v->
            (Instr.checkKey (es.map (cJ m)).toArray.isEmpty 10000 kt (ren m kv)).run P w=.ok () w/\
            ((∃pi pv,(Instr.findKey kt (ren m kv) (es.map (cJ m))).run P w=.ok (some (pi,pv)) w/\ren m v=if ok=true then Value.tuple #[pv, .bool true]else pv)\/
             (∃z,(Instr.findKey kt (ren m kv) (es.map (cJ m))).run P w=.ok none w/\(zeroValue et).run P w=.ok z w/\ren m v=if ok=true then Value.tuple #[z, .bool false]else z)):=by
          intro es he;refine⟨UJ hT m _ 50 9950 w hkx, ?_⟩;rcases hfx:kE T kt kv es 0 with _|fr;simp[hfx]at he;have h2:=BE hT m w hty hfx;cases fr with
          |none=>simp only[hfx]at he;rcases hi:T.inf et with _|y;simp[hi]at he;obtain⟨y1,y2,z⟩:=y;obtain⟨hz,hzr⟩:=tM hT m w hi;simp only at hz hzr;simp[hi]at he;subst he;refine .inr ⟨z,h2,hz, ?_⟩;cases ok<;>simp[ren,aD,hzr]
          |some p=>obtain⟨pi,pv⟩:=p;simp[hfx]at he;subst he;refine .inl ⟨pi,ren m pv,h2, ?_⟩;cases ok<;>simp[ren,aD]
        cases r with
        |none=>simp only at h;obtain⟨h1,⟨pi,pv,h2,h3⟩|⟨z,h2,sQ,h3⟩⟩:=main [] h;simp only[List.map_nil]at h1 h2;simp only[execOp,gP ha hx,gP ha hk,zK,Instr.lookup,dH hT w hd,zJ,ren,zL,h1,h2,h3];simp only[List.map_nil]at h1 h2;simp only[execOp,gP ha hx,gP ha hk,zK,Instr.lookup,dH hT w hd,zJ,ren,zL,h1,h2,sQ,h3]
        |some r=>simp only at h;rcases hl:lk s.h r with _|blk;simp[hl]at h;rcases blk with x |⟨es,c⟩;simp[hl]at h;simp only[hl]at h;have hb:w.heap[m.blk r]? = some (.map (es.map (cJ m)).toArray c):=hf.ok r _ hl;obtain⟨h1,⟨pi,pv,h2,h3⟩|⟨z,h2,sQ,h3⟩⟩:=main es h;simp only[execOp,gP ha hx,gP ha hk,zK,Instr.lookup,dH hT w hd,zJ,ren,zL,run_getObj_map hb,h1,h2,h3];simp only[execOp,gP ha hx,gP ha hk,zK,Instr.lookup,dH hT w hd,zJ,ren,zL,run_getObj_map hb,h1,h2,sQ,h3]
      |_=> simp[hx]at h
    |_=> simp[hd]at h
  |call c=>
    obtain⟨callee,args,ats⟩:=c;simp only at h;cases callee with
    |builtin b=>
      cases b with
      |len=>
        simp only at h;rcases hx:fX tm args.toList with _|vs;simp[hx]at h;rcases vs with _ |⟨x,_ |⟨y,l⟩⟩;simp[hx]at h;cases x with
        |map r=>
          obtain⟨ats⟩:=ats;rcases ats with _|⟨t,ts⟩;simp[hx]at h;simp only[hx]at h;have e1:=mR ha hx;simp only[aD]at e1;rcases hd:T.und t with _|d;simp[hd]at h;cases d with
          |map kt et=>
            simp only[hd]at h;simp only[execOp,zK,resolve,zL,zJ,invoke,builtin,e1];cases r with
            |none=>simp at h;subst h;simp[Builtin.len_,dH hT w hd,ren,goInt]|some r=>simp only at h;rcases hl:lk s.h r with _|blk;simp[hl]at h;rcases blk with x |⟨es,c⟩;simp[hl]at h;simp only[hl,zA]at h;subst h;have hb:w.heap[m.blk r]? = some (.map (es.map (cJ m)).toArray c):=hf.ok r _ hl;simp[Builtin.len_,dH hT w hd,ren,goInt,run_getObj_map hb]
          |_=> simp[hd]at h
        |_=> simp[hx]at h
        simp[hx]at h
      |_=> simp at h
    |_=> simp at h
  |_=> simp at h
end
end Go.Rx
