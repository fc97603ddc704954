import Derived.Laws.StructEq
import Derived.Test.YtldlchbgolpkaaaGreatP2
set_option linter.all false
namespace Go.Rx
open Go
structure kS(P:Program)(T:Tb):Prop where
 und:∀t d,T.und t=some d->P.underlying t=some d
 inf:∀t a b z,T.inf t=some (a,b,z)->plain z=true/\∃i,P.info? t=some i/\i.size=a/\i.bytes=b/\i.zero=some z
 fn : ∀ f g, T.fn f = some g → P.funcs[f]? = some g ∧ (g.body.isSome = true → (g.name == "runtime.NumGoroutine") = false)
 eqs:∀t,T.eqs t=true->P.stoodInHeld t=false/\P.eqGuardType P.depth t=false
 mixed:P.follows .mixedOrders=true
theorem iQ{X:Type}(l:List X)(n:Nat):nth l n=l[n]?:=by
 induction l generalizing n with|nil=>simp[nth]|cons a l ih=>cases n<;>simp[nth,ih]
variable{l:List Value}
variable{n:Nat}
variable{r:List Value}
theorem qy6(h:FU l n=some r):r=l.take n/\n<=l.length:=by
 induction l generalizing n r with|nil=>cases n<;>simp_all[FU]|cons v l ih=>cases n with|zero=>simp_all[FU]|succ n=>simp only[FU]at h;rcases hl:FU l n with _|r';simp[hl]at h;simp[hl]at h;obtain⟨e,hn⟩:=ih hl;subst h;simp[e];exact hn
variable{off:Nat}
theorem Jo(h:v8 l off n=some r):r=(l.drop off).take n/\n<=l.length-off:=by
 have:=qy6 h;simpa using this
theorem ma(h:v8 l off n=some r):r.length=n:=by
 obtain⟨rfl,hn⟩:=Jo h;simp;omega
theorem c?(h:v8 l off n=some r){j:Nat}{v:Value}(hj:r[j]? = some v):l[off+j]? = some v:=by
 obtain⟨rfl,hn⟩:=Jo h;rw[List.getElem?_take]at hj;split at hj;simpa using hj;cases hj
theorem z0w{vs:List Value}(h:E6 l vs=some r):vs.length<=l.length/\r=vs++l.drop vs.length:=by
 induction vs generalizing l r with|nil=>simp[E6]at h;simp[h]|cons v vs ih=>rcases l with _|⟨x,l⟩;simp[E6]at h;simp only[E6]at h;rcases hp:E6 l vs with _|r';simp[hp]at h;simp[hp]at h;obtain⟨e1,e2⟩:=ih hp;subst h;simp[e2];exact e1
theorem qsx{vs:List Value}(h:rV l off vs=some r):off+vs.length<=l.length/\r=l.take off++vs++l.drop (off+vs.length):=by
 induction off generalizing l r with
 |zero=>
  have h':E6 l vs=some r:=by cases l<;>simpa[rV]using h
  obtain⟨e1,e2⟩:=z0w h';simp[e2];exact e1
 |succ n ih=>
  rcases l with _|⟨x,l⟩;simp[rV]at h;simp only[rV]at h;rcases hp:rV l n vs with _|r';simp[hp]at h;simp[hp]at h;obtain⟨e1,e2⟩:=ih hp;subst h;simp only[zO,List.take_succ_cons,List.cons_append,e2];refine⟨by omega,?_⟩;have:n+1+vs.length=(n+vs.length)+1:=by omega
  rw[this,List.drop_succ_cons]
theorem qx8(h:qM l=true):∀v∈l,v.oneCell'=true:=by
 induction l with|nil=>simp|cons v l ih=>simp only[qM]at h;rcases hv:v.oneCell' with _|_;simp[hv]at h;simp[hv]at h;intro u hu;rcases zI.1 hu with rfl |hu;exact hv;exact ih h u hu
theorem qot{m:Nm}(h:qM l=true):∀v∈aI m l,v.oneCell'=true:=by
 intro v hv;rw[m4]at hv;obtain⟨u,hu,rfl⟩:=List.mem_map.1 hv;rw[quh];exact qx8 h u hu
mutual
theorem yS(m:Nm):(v:Value)->plain v=true->aH m v=v
 |.bool _,_=>by simp[aH]
 |.int _ _,_=>by simp[aH]
 |.string _,_=>by simp[aH]
 |.pointer none,_=>by simp[aH]
 |.slice none _ _,_=>by simp[aH]
 |.map none,_=>by simp[aH]
 |.nilFunc,_=>by simp[aH]
 |.nilIface,_=>by simp[aH]
 |.agg ⟨l⟩,h=>by simp only[plain]at h;simp[aH,gc m l h]
 |.tuple ⟨l⟩,h=>by simp only[plain]at h;simp[aH,gc m l h]
 |.float _ _,h=>by simp[plain]at h
 |.complex _ _ _,h=>by simp[plain]at h
 |.pointer (some _),h=>by simp[plain]at h
 |.slice (some _) _ _,h=>by simp[plain]at h
 |.map (some _),h=>by simp[plain]at h
 |.chan _,h=>by simp[plain]at h
 |.func _ _ _,h=>by simp[plain]at h
 |.iface _ _,h=>by simp[plain]at h
theorem gc(m:Nm):(l:List Value)->OY l=true->aI m l=l
 |[],_=>by simp[aI]
 |v::l,h=>by simp only[OY]at h;rcases hv:plain v with _|_;simp[hv]at h;simp[hv]at h;simp[aI,yS m v hv,gc m l h]
end
theorem Yf(a b:List UInt8):kO a b=(a==b):=by
 induction a generalizing b with
 |nil=>cases b<;>simp[kO]|cons x a ih=>
  rcases b with _|⟨y,b⟩;simp[kO];simp only[kO,beq_eq,ih];by_cases e:x=y;subst e;simp;have:x.toNat≠y.toNat:=fun h=>e (UInt8.toNat_inj.1 h)
  simp[this,e]
theorem qxg(a b:List UInt8):jN a b=Op.bytesLess a b:=by
 induction a generalizing b with
 |nil=>cases b<;>simp[jN,Op.bytesLess]|cons x a ih=>
  rcases b with _|⟨y,b⟩;simp[jN,Op.bytesLess];simp only[jN,Op.bytesLess,ih,beq_eq];have aG:Nat.blt x.toNat y.toNat=decide (x<y):=by rw[Bool.eq_iff_iff];simp[Nat.blt_eq,UInt8.lt_iff_toNat_lt]
  rw[aG];by_cases h1:x<y;simp[h1];by_cases e:x=y;subst e;simp;have:x.toNat≠y.toNat:=fun h=>e (UInt8.toNat_inj.1 h);simp[h1,e,this]
section
variable{P:Program}{T:Tb}(hT:kS P T)(m:Nm){tm:List Value}{a:Act}(w:World)
include hT
variable{t:TypeId}
theorem gR{d:TypeDesc}(h:T.und t=some d):(underlying t).run P w=.ok d w:=run_underlying (hT.und t d h) w
theorem n7(h:cC T t=some n):(sizeOf t).run P w=.ok n w:=by
 unfold cC at h;rcases hi:T.inf t with _|x;simp[hi]at h;obtain⟨a,b,z⟩:=x;simp[hi]at h;obtain⟨_,i,h1,h2,_,_⟩:=hT.inf t a b z hi;simp[sizeOf,typeInfo,h1,h2,h]
theorem G4{x:Nat×Nat×Value}(h:T.inf t=some x):(zeroValue t).run P w=.ok x.2.2 w/\aH m x.2.2=x.2.2:=by
 obtain⟨a,b,z⟩:=x;obtain⟨hp,i,h1,_,_,h4⟩:=hT.inf t a b z h;exact⟨by simp[zeroValue,typeInfo,h1,h4],yS m z hp⟩
theorem qte{d:TypeDesc}(h:T.und t=some d):(isAgg t).run P w=.ok (qA d) w:=by
 unfold isAgg;simp only[zK,gR hT w h,zJ];cases d<;>rfl
theorem Jp{cs:List Value}{v:Value}(h:EA T t cs off=some v):
  (part t ⟨aI m cs⟩ off).run P w=.ok (aH m v) w:=by
 unfold EA at h;rcases hd:T.und t with _|d;simp[hd]at h;simp only[hd]at h;unfold part;simp only[zK,qte hT w hd,zJ];cases hag:qA d with
 |true=>simp only[hag,zC]at h;rcases hs:cC T t with _|n;simp[hs]at h;simp[hs]at h;subst h;simp only[if_true,zK,n7 hT w hs,zJ,zL,aH];simp[m4,List.map_drop,List.map_take]
 |false=>simp only[hag,zD,iQ]at h;simp[m4,h]
theorem z6v{E:TypeId->Value->Value->Option Bool}{d:Nat}(hE:∀t x y b w,E t x y=some b->(Op.equalIn d t (aH m x) (aH m y)).run P w=.ok b w)
  (xs ys:List Value) (fs:List Field) {b:Bool} (w:World) (h:DL T E xs ys fs=some b):
  (Op.eqFields d ⟨aI m xs⟩ ⟨aI m ys⟩ fs).run P w=.ok b w:=by
 induction fs generalizing w with|nil=>simp[DL]at h;simp[Op.eqFields,h]|cons f fs ih=>simp only[DL]at h;simp only[Op.eqFields];split at h;rename_i hn;simp only[hn,ne_eq,not_false_eq_true,if_true];rcases h1:EA T f.type xs f.offset with _|x;simp[h1]at h;simp only[h1]at h;rcases h2:EA T f.type ys f.offset with _|y;simp[h2]at h;simp only[h2]at h;rcases h3:E f.type x y with _|r;simp[h3]at h;simp only[zK,Jp hT m w h1,zJ,Jp hT m w h2,hE _ _ _ _ w h3];rcases r with _|_;simp[h3]at h;simp[h];simp only[h3]at h;simpa using ih w h;rename_i hn;simp only[hn,if_false];exact ih w h
theorem ZJ(d k:Nat){x y:Value}{b:Bool}(w:World)(h:eqv T d t x y=some b):
  (Op.equalIn (d+k) t (aH m x) (aH m y)).run P w=.ok b w:=by
 induction d generalizing t x y b w with
 |zero=>simp[eqv]at h|succ d ih=>
  have GY:d+1+k=(d+k)+1:=by omega
  rw[GY];simp only[eqv]at h;rcases hd:T.und t with _|ty;simp[hd]at h;have hu:=gR hT w hd;cases ty with
  |bool=>simp only[hd]at h;cases x<;>cases y<;>simp at h;subst h;simp[Op.equalIn,hu,aH]|int kk=>simp only[hd]at h;cases x<;>cases y<;>simp at h;obtain⟨rfl,h⟩:=h;simp[Op.equalIn,hu,aH,h]
  |string=>simp only[hd]at h;cases x<;>cases y<;>simp at h;subst h;rename_i s1 s2;simp only[Op.equalIn,zK,hu,aH,zJ,zL,Yf];rw[beq_toListBytes,ByteArray.toList_eq,ByteArray.toList_eq]|pointer e=>
   simp only[hd]at h;cases x<;>cases y<;>try simp at h
   rename_i p q;cases p<;>cases q<;>simp at h<;>subst h<;>simp[Op.equalIn,hu,aH]
  |slice e=>
   simp only[hd]at h;cases x<;>cases y<;>try simp at h
   rename_i p _ _ q _ _;cases p<;>cases q<;>simp at h<;>subst h<;>simp[Op.equalIn,hu,aH];rename_i p q _ _;cases p<;>cases q<;>simp at h<;>subst h<;>simp[Op.equalIn,hu,aH]
  |map e e'=>
   simp only[hd]at h;cases x<;>cases y<;>try simp at h
   rename_i p q;cases p<;>cases q<;>simp at h<;>subst h<;>simp[Op.equalIn,hu,aH]
  |struct fs=>
   simp only[hd]at h;cases x<;>cases y<;>simp at h;rename_i xs ys;obtain⟨xs⟩:=xs;obtain⟨ys⟩:=ys;rcases he:T.eqs t with _|_;simp[he]at h;simp only[he,zC]at h;have D4:=hT.und t _ hd;have hfo:P.fieldsOf t=fs:=by simp[Program.fieldsOf,D4]
   simp only[aH,gP];rw[run_equalIn_struct w (d+k) t _ _ (by rw[hfo];exact D4) (hT.eqs t he).1,hfo];exact z6v hT m (fun t x y b w hh=>ih w hh) xs ys fs.toList w h
  |_=>simp[hd]at h
end
end Go.Rx
namespace Go.Rx
open Go
variable{m:Nm}
variable{tm:List Value}
variable{a:Act}
variable{v:Value}
theorem k7(ha:a.tmps=⟨aI m tm⟩){x:Operand}(h:evalO tm x=some v):a.eval x=aH m v:=by
 cases x with
 |tmp t=>simp only[evalO,iQ]at h;simp[Act.eval,ha,m4,h]|const c=>simp only[evalO]at h;rcases hp:plain c with _|_;simp[hp]at h;simp[hp]at h;subst h;simp[Act.eval,yS m c hp]
 |func f=>simp[evalO]at h;subst h;simp[Act.eval,aH,aI]|global g=>simp[evalO]at h
theorem z3f(ha:a.tmps=⟨aI m tm⟩){l:List Operand}{vs:List Value}(h:jK tm l=some vs):l.map a.eval=aI m vs:=by
 induction l generalizing vs with|nil=>simp[jK]at h;subst h;simp[aI]|cons x l ih=>simp only[jK]at h;rcases hx:evalO tm x with _|v;simp[hx]at h;rcases hl:jK tm l with _|r;simp[hx,hl]at h;simp[hx,hl]at h;subst h;simp[aI,k7 ha hx,ih hl]
theorem sC(ha:a.tmps=⟨aI m tm⟩){l:Array Operand}{vs:List Value}(h:jK tm l.toList=some vs):l.map a.eval=⟨aI m vs⟩:=by
 rw[<-z3f ha h];cases l;simp
theorem sd(ha:a.tmps=⟨aI m tm⟩){l:List (Nat×Operand)}{vs:List (Nat×Value)}(h:FY tm l=some vs):
  l.map (fun p=>(p.1,a.eval p.2))=vs.map (fun p=>(p.1,aH m p.2)):=by
 induction l generalizing vs with|nil=>simp[FY]at h;subst h;simp|cons x l ih=>obtain⟨i,x⟩:=x;simp only[FY]at h;rcases hx:evalO tm x with _|v;simp[hx]at h;rcases hl:FY tm l with _|r;simp[hx,hl]at h;simp[hx,hl]at h;subst h;simp[k7 ha hx,ih hl]
theorem LL(ha:a.tmps=⟨aI m tm⟩){x:Option Operand}{v:Option Value}(h:pY tm x=some v):x.map a.eval=v.map (aH m):=by
 rcases x with _|x;simp[pY]at h;subst h;rfl;simp only[pY]at h;rcases hx:evalO tm x with _|u;simp[hx]at h;simp[hx]at h;subst h;simp[k7 ha hx]
theorem qrv(op:BinOp)(t:TypeId)(x y:Operand)(u v:Value)(h1 : ∀a b, ¬ (u=.agg a/\v=.agg b))(h2 : ¬ (u=.nilIface/\v=.nilIface)): eqGuard op t x y u v=pure ():=by
  cases op<;>simp only[eqGuard]<;>first
    |rfl
    | (simp only [Bool.not_true, Bool.false_eq_true, if_false]
       split;simp_all;simp_all;rfl)
theorem g?{c:Array Value}(h:aH m v=.agg c):∃d,v=.agg d:=by
 cases v with
 |pointer a=>cases a<;>simp[aH]at h|slice a n c=>cases a<;>simp[aH]at h
 |map r=>cases r<;>simp[aH]at h|chan r=>cases r<;>simp[aH]at h
 |agg d=>exact⟨d,rfl⟩|_=>simp[aH]at h
theorem qln(h:aH m v=.nilIface):v=.nilIface:=by
 cases v with
 |pointer a=>cases a<;>simp[aH]at h|slice a n c=>cases a<;>simp[aH]at h
 |map r=>cases r<;>simp[aH]at h|chan r=>cases r<;>simp[aH]at h
 |nilIface=>rfl|_=>simp[aH]at h
theorem P?(off:Nat):∀(vs:List Value)(k:Nat)(cells:List Value),off+k+vs.length<=cells.length->
  (vs.zipIdx k).foldl (fun(cs:Array Value) (p:Value×Nat)=>cs.setIfInBounds (off+p.2) p.1) ⟨cells⟩=⟨cells.take (off+k)++vs++cells.drop (off+k+vs.length)⟩
 |[],k,cells,_=>by simp
 |v::vs,k,cells,h=>by
  simp only[zO]at h;simp only[List.zipIdx_cons,List.foldl_cons,List.setIfInBounds_toArray];rw[P? off vs (k+1) (cells.set (off+k) v) (by simp;omega)];congr 1;have e1:(cells.set (off+k) v).take (off+(k+1))=cells.take (off+k)++[v]:=by rw[show off+(k+1)=off+k+1 by omega,List.take_set,List.take_succ_eq_append_getElem (by omega)];rw[List.set_append_right _ _ (by simp;omega)];simp[Nat.min_eq_left (show off+k<=cells.length by omega)]
  have e2:(cells.set (off+k) v).drop (off+(k+1)+vs.length)=cells.drop (off+k+(v::vs).length):=by rw[List.drop_set_of_lt (by omega)];congr 1;simp;omega
  rw[e1,e2];simp
theorem Jm(m:Nm)(place:Nat->Option (Nat×Nat)):∀(ps:List (Nat×Value))(cells r:List Value),CK place cells ps=some r->
  Instr.fill place ⟨aI m cells⟩ (ps.map fun p=>(p.1,aH m p.2))=some ⟨aI m r⟩
 |[],cells,r,h=>by simp[CK]at h;simp[Instr.fill,h]
 |(i,v)::ps,cells,r,h=>by
  simp only[CK]at h;rcases hp:place i with _|x;simp[hp]at h;obtain⟨off,size⟩:=x;simp only[hp,beq_eq]at h;by_cases hs:v.cells.toList.length=size;simp only[hs,yC,zC]at h;rcases hq:rV cells off v.cells.toList with _|c;simp[hq]at h;simp only[hq]at h;obtain⟨h1,h2⟩:=qsx hq;have dS:v.cells.size=size:=by simpa using hs
  simp only[zQ,Instr.fill,hp,Xs,C8,dS];have hJ:(decide (size≠size)||decide (off+size>(⟨aI m cells⟩:Array Value).size))=false:=by simp;simp[dS]at h1;omega
  rw[hJ];simp only[Bool.false_eq_true,if_false];have Rb:((CC m v.cells).zipIdx.foldl (fun(cs:Array Value) (p:Value×Nat)=>cs.setIfInBounds (off+p.2) p.1) ⟨aI m cells⟩)=⟨aI m c⟩:=by rw[<-Array.foldl_toList,Array.toList_zipIdx,kR,P? off _ 0 _ (by simp;simpa using h1)];rw[h2];simp[m4,List.map_drop,List.map_take]
  exact(congrArg (fun z=>Instr.fill place z (ps.map fun p=>(p.1,aH m p.2))) Rb).trans (Jm m place ps c r h);simp only[hs,yB,zD]at h;cases h
variable{t:TypeId}
variable{x:Value}
variable{y:Value}
theorem qrw{T:Tb}{d:Nat}{r:Bool}(h:eqv T d t x y=some r):
  (∃a b,x=.bool a/\y=.bool b)\/(∃k a k' b,x=.int k a/\y=.int k' b)\/(∃a b,x=.string a/\y=.string b)\/(∃a b,x=.pointer a/\y=.pointer b)\/
  (∃a n c b n' c',x=.slice a n c/\y=.slice b n' c')\/(∃a b,x=.map a/\y=.map b)\/(∃a b,x=.agg a/\y=.agg b)\/(∃r n c,x=.chan (some r)/\y=.slice none n c):=by
 cases d with
 |zero=>simp[eqv]at h|succ d=>
  simp only[eqv]at h;rcases hd:T.und t with _|ty;simp[hd]at h;cases ty<;>simp only[hd]at h<;>first
   |(simp at h;done)
   |(cases x<;>cases y<;>first |(simp at h;done)|(simp;done)|(rename_i p q _ _;cases p<;>cases q<;>simp at h ⊢))
section
variable{P:Program}{T:Tb}(hT:kS P T)(m:Nm)(w:World)
include hT
theorem z3p(op:BinOp)(ox oy:Operand)(h:yP T t x y=true):(eqGuard op t ox oy (aH m x) (aH m y)).run P w=.ok () w:=by
 by_cases ha:∃c d,x=.agg c/\y=.agg d;obtain⟨c,d,rfl,rfl⟩:=ha;simp only[yP]at h;simp only[aH];exact run_eqGuard_agg w op t ox oy _ _ (hT.eqs t h).2;rw[qrv op t ox oy];rfl;rintro a b ⟨h1,h2⟩;obtain⟨c,rfl⟩:=g? h1;obtain⟨d,rfl⟩:=g? h2;exact ha ⟨c,d,rfl,rfl⟩;rintro⟨h1,h2⟩;rw[qln h1,qln h2]at h;simp[yP]at h
theorem Xi{b:Bool}(h:eqv T 50 t x y=some b):(Op.equal t (aH m x) (aH m y)).run P w=.ok b w :=
 ZJ hT m 50 9950 w h
theorem Ad(op:BinOp)(ox oy:Operand)(h:sS T op t x y=some v):
  (do eqGuard op t ox oy (aH m x) (aH m y);binOp op t (aH m x) (aH m y):Sem Value).run P w=.ok (aH m v) w:=by
 by_cases hi:∃k a k' b,x=.int k a/\y=.int k' b
 ·obtain⟨k,a,k',b,rfl,rfl⟩:=hi;simp only[sS]at h;simp only[aH,eqGuard_at_int,zK,zL,zJ];by_cases hk:k=k'
  ·subst hk;cases op<;>simp[jI]at h<;>first
    |(subst h;simp[binOp,Op.intArith,Op.intBits,Op.intCmp,aH];done)
    |(obtain⟨h1,rfl⟩:=h;simp[binOp,Op.intDiv,Op.shift,aH,h1];done)
    |(obtain⟨h1,rfl⟩:=h;simp[binOp,Op.shift,aH];omega)
  cases op<;>simp[jI,hk]at h<;>first
   |(obtain⟨h1,rfl⟩:=h;simp[binOp,Op.shift,aH];omega)
 ·by_cases hs:∃a b,x=.string a/\y=.string b
  ·obtain⟨a,b,rfl,rfl⟩:=hs;simp only[sS]at h;simp only[aH,eqGuard_at_string,zK,zL,zJ];have e1:a.toList=a.data.toList:=ByteArray.toList_eq a;have e2:b.toList=b.data.toList:=ByteArray.toList_eq b;cases op<;>simp[FQ]at h<;>first
    |(subst h;simp[binOp,Op.stringOp,aH,e1,e2,Yf,qxg];done)
    |skip
   obtain⟨h1,rfl⟩:=h;have h2:¬ ((a.size+b.size:Nat):Int)>9223372036854775807:=by have ea:a.size=a.data.size:=rfl;have eb:b.size=b.data.size:=rfl;rw[ea,eb];omega
   simp only[binOp,Op.stringOp,IntKind.max_i64,if_neg h2,zL,aH];have e3:a++b=⟨(a.data.toList++b.data.toList).toArray⟩:=by apply ByteArray.ext;simp
   rw[e3]
  have hb:(op=.eql\/op=.neq)/\yP T t x y=true/\∃r,eqv T 50 t x y=some r/\v=.bool (if op=.eql then r else !r):=by unfold sS at h;split at h;exact absurd ⟨_,_,_,_,rfl,rfl⟩ hi;exact absurd ⟨_,_,rfl,rfl⟩ hs;cases op<;>simp at h;rcases hg:yP T t x y with _|_;simp[hg]at h;rcases he:eqv T 50 t x y with _|r;simp[hg,he]at h;simp[hg,he]at h;subst h;simp;rcases hg:yP T t x y with _|_;simp[hg]at h;rcases he:eqv T 50 t x y with _|r;simp[hg,he]at h;simp[hg,he]at h;subst h;simp
  obtain⟨sF,hg,r,he,rfl⟩:=hb;have hq:=Xi hT m w he;simp only[zK,z3p hT m w op ox oy hg,zJ];have xz:=qrw he;rcases sF with rfl |rfl;have key:binOp .eql t (aH m x) (aH m y)=(do pure (.bool (<-Op.equal t (aH m x) (aH m y))):Sem Value):=by rcases xz with⟨a,b,rfl,rfl⟩|⟨k,a,k',b,rfl,rfl⟩|⟨a,b,rfl,rfl⟩|⟨a,b,rfl,rfl⟩|⟨a,n,c,b,n',c',rfl,rfl⟩|⟨a,b,rfl,rfl⟩|⟨a,b,rfl,rfl⟩|⟨r,n,c,rfl,rfl⟩;simp[aH,binOp];exact absurd ⟨_,_,_,_,rfl,rfl⟩ hi;exact absurd ⟨_,_,rfl,rfl⟩ hs;cases a<;>cases b<;>simp[aH,binOp];cases a<;>cases b<;>simp[aH,binOp];cases a<;>cases b<;>simp[aH,binOp];simp[aH,binOp];simp[aH,binOp]
  rw[key];simp[hq,aH];have key:binOp .neq t (aH m x) (aH m y)=(do pure (.bool (!(<-Op.equal t (aH m x) (aH m y)))):Sem Value):=by rcases xz with⟨a,b,rfl,rfl⟩|⟨k,a,k',b,rfl,rfl⟩|⟨a,b,rfl,rfl⟩|⟨a,b,rfl,rfl⟩|⟨a,n,c,b,n',c',rfl,rfl⟩|⟨a,b,rfl,rfl⟩|⟨a,b,rfl,rfl⟩|⟨r,n,c,rfl,rfl⟩;simp[aH,binOp];exact absurd ⟨_,_,_,_,rfl,rfl⟩ hi;exact absurd ⟨_,_,rfl,rfl⟩ hs;cases a<;>cases b<;>simp[aH,binOp];cases a<;>cases b<;>simp[aH,binOp];cases a<;>cases b<;>simp[aH,binOp];simp[aH,binOp];simp[aH,binOp]
  rw[key];simp[hq,aH]
omit hT in
theorem Hf{op:UnOp}{x v:Value}(h:OD op x=some v):(Op.unary op (aH m x)).run P w=.ok (aH m v) w:=by
 cases op<;>cases x<;>simp[OD]at h<;>subst h<;>simp[Op.unary,aH,Op.intArith,Op.intBits]
theorem z6q{src dst:TypeId}(h:convX T src dst x=some v):(convert src dst (aH m x)).run P w=.ok (aH m v) w:=by
 unfold convX at h;rcases h1:T.und src with _|d1;simp[h1]at h;rcases h2:T.und dst with _|d2;simp[h1,h2]at h;simp only[h1,h2]at h;unfold convert;simp only[zK,gR hT w h1,gR hT w h2,zJ];cases d2<;>cases x<;>simp at h<;>subst h<;>cases d1<;>simp[aH,Conv.intToInt]
theorem qxs(fs:List Field)(hs:G1 T fs=true):(fs.mapM (fun f=>do pure (f.offset,<-sizeOf f.type):Field->Sem (Nat×Nat))).run P w=.ok (fs.map fun f=>(f.offset,(cC T f.type).getD 0)) w:=by
 induction fs with|nil=>simp|cons f fs ih=>simp only[G1]at hs;rcases hf:cC T f.type with _|n;simp[hf]at hs;simp only[hf]at hs;have Fa:=ih hs;simp only[List.mapM_cons,zK,n7 hT w hf,zJ,zL,Fa,zQ,hf,Option.getD_some]
omit hT in
theorem qy3{fs:List Field}(hs:G1 T fs=true){i:Nat}{f:Field}(hf:fs[i]? = some f):∃n,cC T f.type=some n:=by
 induction fs generalizing i with
 |nil=>simp at hf|cons g fs ih=>
  simp only[G1]at hs;rcases hg:cC T g.type with _|n;simp[hg]at hs;simp only[hg]at hs;cases i with
  |zero=>simp at hf;subst hf;exact⟨n,hg⟩|succ i=>exact ih hs (by simpa using hf)
theorem z31{ps:List (Nat×Value)}(h:Iz T t ps=some v):
  (Instr.build t (ps.map fun p=>(p.1,aH m p.2)).toArray).run P w=.ok (aH m v) w:=by
 unfold Iz at h;rcases hi:T.inf t with _|x;simp[hi]at h;obtain⟨a,b,z⟩:=x;obtain⟨hz,sE⟩:=G4 hT m w hi;simp only at hz sE;have tY:z.cells=⟨aI m z.cells.toList⟩:=by
  conv=>lhs;rw[<-sE,Xs]
  cases z.cells;simp
 simp only[hi]at h;unfold Instr.build;simp only[zK,hz,zJ];rcases hd:T.und t with _|d;simp[hd]at h;simp only[gR hT w hd,zJ];cases d with
 |struct fs=>
  simp only[hd]at h;rcases hs:G1 T fs.toList with _|_;simp[hs]at h;simp only[hs,zC]at h;rcases hf:CK (JE T fs.toList) z.cells.toList ps with _|cs;simp[hf]at h;simp[hf]at h;subst h;have hm:=qxs hT w fs.toList hs;have eG:(fs.mapM (fun f=>do pure (f.offset,<-sizeOf f.type):Field->Sem (Nat×Nat))).run P w=.ok ⟨fs.toList.map fun f=>(f.offset,(cC T f.type).getD 0)⟩ w:=by rw[Array.mapM_eq_mapM_toList];simp only[Sem.run_map,hm,zJ]
  have nF:(fun i=>(⟨fs.toList.map fun f=>(f.offset,(cC T f.type).getD 0)⟩:Array (Nat×Nat))[i]?)=JE T fs.toList:=by
   funext i;simp only[JE,iQ];rcases tI:fs.toList[i]? with _|f;simp at tI;simp[tI];obtain⟨n,hn⟩:=qy3 hs tI;have:fs[i]? = some f:=by simpa using tI
   simp[this,hn]
  have kZ:=Jm m (JE T fs.toList) ps z.cells.toList cs hf;simp only[zK,eG,zJ,nF];rw[tY];simp only[kZ,zL,aH,gP]
 |array n e=>simp only[hd]at h;rcases hs:cC T e with _|k;simp[hs]at h;simp only[hs]at h;rcases hf:CK (fun i=>some (i*k,k)) z.cells.toList ps with _|cs;simp[hf]at h;simp[hf]at h;subst h;have kZ:=Jm m (fun i=>some (i*k,k)) ps z.cells.toList cs hf;simp only[zK,n7 hT w hs,zJ];rw[tY];simp only[kZ,zL,aH,gP]
 |_=>simp[hd]at h
omit hT in
theorem wD(b o n:Nat):(⟨b,o,none⟩:Addr).add n=⟨b,o+n,none⟩:=Addr.add_lit b o n
theorem qxn{st:TypeId}{f:Nat}(h:Kb T st x f=some v):(Instr.fieldAt st (aH m x) f).run P w=.ok (aH m v) w:=by
 unfold Kb at h;rcases hd:T.und st with _|d;simp[hd]at h;cases d with
 |struct fs=>
  simp only[hd,iQ]at h;rcases hf:fs.toList[f]? with _|fd;simp at hf;simp[hf]at h;have Rf:fs[f]? = some fd:=by simpa using hf
  simp only[hf]at h;cases x with
  |pointer p=>rcases p with _|a;simp at h;simp only at h;rcases hs:cC T fd.type with _|n;simp[hs]at h;cases n with|zero=>simp[hs]at h|succ n=>simp[hs]at h;subst h;simp[Instr.fieldAt,gR hT w hd,Rf,aH,Instr.sureAddr,fieldPlace,n7 hT w hs,wD,Nat.add_assoc]
  |_=>simp at h
 |_=>simp[hd]at h
theorem z3h{st:TypeId}{f:Nat}(h:Iu T st x f=some v):(Instr.field st (aH m x) f).run P w=.ok (aH m v) w:=by
 unfold Iu at h;rcases hd:T.und st with _|d;simp[hd]at h;cases d with
 |struct fs=>
  simp only[hd,iQ]at h;rcases hf:fs.toList[f]? with _|fd;simp at hf;simp[hf]at h;have Rf:fs[f]? = some fd:=by simpa using hf
  simp only[hf]at h;cases x with
  |agg cs=>obtain⟨cs⟩:=cs;simp only at h;simp[Instr.field,gR hT w hd,Rf,aH,asAgg,Jp hT m w h]
  |_=>simp at h
 |_=>simp[hd]at h
omit hT in
theorem VD{i:Int}{n:Nat}(h:qD i n=true):0<=i/\i<n:=by
 cases i with|ofNat k=>simp only[qD,Nat.blt_eq]at h;exact⟨Int.natCast_nonneg k,Int.ofNat_lt.2 h⟩|negSucc k=>simp[qD]at h
theorem qxq{ix:Value}(h:Jv T t x ix=some v):(Instr.indexAt t (aH m x) (aH m ix)).run P w=.ok (aH m v) w:=by
 unfold Jv at h;cases ix with
 |int k i=>
  simp only at h;rcases hd:T.und t with _|d;simp[hd]at h;cases d with
  |array n e=>
   simp only[hd]at h;cases x with
   |pointer p=>rcases p with _|a;simp at h;simp only at h;rcases hr:qD i n with _|_;simp[hr]at h;rcases hs:cC T e with _|sz;simp[hr,hs]at h;simp[hr,hs]at h;subst h;have:=VD hr;simp[Instr.indexAt,asIntOf,aH,gR hT w hd,Instr.sureAddr,this,n7 hT w hs,wD,Nat.add_assoc]
   |_=>simp at h
  |slice e=>
   simp only[hd]at h;cases x with
   |slice p n c=>rcases p with _|a;simp at h;simp only at h;rcases hr:qD i n with _|_;simp[hr]at h;rcases hs:cC T e with _|sz;simp[hr,hs]at h;simp[hr,hs]at h;subst h;have:=VD hr;simp[Instr.indexAt,asIntOf,aH,gR hT w hd,this,n7 hT w hs,wD,Nat.add_assoc]
   |_=>simp at h
  |_=>simp[hd]at h
 |_=>simp at h
theorem z3q{ix:Value}(h:UV T t x ix=some v):(Instr.index t (aH m x) (aH m ix)).run P w=.ok (aH m v) w:=by
 unfold UV at h;cases ix with
 |int k i=>
  simp only at h;rcases hd:T.und t with _|d;simp[hd]at h;cases d with
  |array n e=>
   simp only[hd]at h;cases x with
   |agg cs=>obtain⟨cs⟩:=cs;simp only at h;rcases hr:qD i n with _|_;simp[hr]at h;rcases hs:cC T e with _|sz;simp[hr,hs]at h;simp only[hr,hs,zC]at h;have:=VD hr;simp[Instr.index,asIntOf,aH,gR hT w hd,this,n7 hT w hs,Jp hT m w h]
   |_=>simp at h
  |string=>
   simp only[hd]at h;cases x with
   |string s=>
    simp only[iQ]at h;rcases hr:qD i s.data.toList.length with _|_;simp only[hr,zD]at h;cases h;simp only[hr,zC]at h;have hi:=VD hr;rcases hb:s.data.toList[i.toNat]? with _|b;simp[hb]at h;simp[hb]at h;subst h;have cQ:s[i.toNat]? = some b:=by
     have:s.data[i.toNat]? = some b:=by simpa using hb
     obtain⟨aG,e⟩:=Array.getElem?_eq_some_iff.1 this;have uS:i.toNat<s.size:=aG;rw[getElem?_pos s i.toNat uS];exact congrArg some e
    simp[Instr.index,asIntOf,aH,gR hT w hd,hi.1,cQ]
   |_=>simp at h
  |_=>simp[hd]at h
 |_=>simp at h
omit hT in
theorem qxl{x v:Value}{i:Nat}(h:Cl x i=some v):(Instr.extract (aH m x) i).run P w=.ok (aH m v) w:=by
 cases x with
 |tuple vs=>obtain⟨vs⟩:=vs;simp only[Cl,iQ]at h;simp[Instr.extract,aH,m4,h]
 |_=>simp[Cl]at h
end
section
variable{P:Program}{T:Tb}(hT:kS P T)(m:Nm)(w:World)
include hT
variable{t:TypeId}
variable{x:Value}
variable{v:Value}
theorem X5{ty:TypeId}{ts:List TypeId}(h:CX T t x=some v):(Builtin.len_ (t::ts).toArray ty #[aH m x]).run P w=.ok (aH m v) w:=by
 unfold CX at h;rcases hd:T.und t with _|d;simp[hd]at h;simp only[hd]at h;have hu:=gR hT w hd;cases d with
 |string=>cases x<;>simp at h;subst h;rename_i s;simp only[Builtin.len_,List.getElem?_toArray,List.getElem?_cons_zero,zK,hu,zJ,aH,goInt,zL]|slice e=>
  cases x with
  |slice a _ _=>simp only[zA]at h;subst h;cases a<;>simp[Builtin.len_,hu,aH,goInt]|chan r=>rcases r with _|r;simp at h;simp only[zA]at h;subst h;simp[Builtin.len_,hu,aH,goInt]
  |_=>simp at h
 |array n e=>simp at h;subst h;simp[Builtin.len_,hu,aH,goInt]|_=>simp at h
theorem ZX{ty:TypeId}{ts:List TypeId}(h:I9 T t x=some v):(Builtin.cap_ (t::ts).toArray ty #[aH m x]).run P w=.ok (aH m v) w:=by
 unfold I9 at h;rcases hd:T.und t with _|d;simp[hd]at h;simp only[hd]at h;have hu:=gR hT w hd;cases d with
 |slice e=>
  cases x with
  |slice a _ c=>
   cases a with
   |none=>simp only[zA]at h;subst h;simp[Builtin.cap_,hu,aH,goInt]|some a=>
    simp only at h;rcases hc:Nat.blt c bS with _|_;simp[hc]at h;simp only[hc,zC,zA]at h;subst h;have lQ:c<bS:=by simpa[Nat.blt_eq]using hc
    simp[Builtin.cap_,hu,aH,goInt,bR,lQ]
  |chan r=>rcases r with _|r;simp at h;simp only[zA]at h;subst h;simp[Builtin.cap_,hu,aH,goInt]
  |_=>simp at h
 |_=>simp at h
omit hT in
theorem X3{x v:Value}{l:List Value}(h:xN UN x l=some v):((aI m l).foldlM Builtin.max2 (aH m x)).run P w=.ok (aH m v) w:=by
 induction l generalizing x with
 |nil=>simp[xN]at h;simp[aI,h]|cons y l ih=>
  simp only[xN]at h;rcases B5:UN x y with _|z;simp[B5]at h;simp only[B5]at h;have:(Builtin.max2 (aH m x) (aH m y)).run P w=.ok (aH m z) w:=by cases x<;>cases y<;>simp[UN]at B5;subst B5;simp[aH,Builtin.max2]
  simp only[aI,List.foldlM_cons,zK,this,zJ];exact ih h
omit hT in
theorem WZ{x v:Value}{l:List Value}(h:xN OT x l=some v):((aI m l).foldlM Builtin.min2 (aH m x)).run P w=.ok (aH m v) w:=by
 induction l generalizing x with
 |nil=>simp[xN]at h;simp[aI,h]|cons y l ih=>
  simp only[xN]at h;rcases B5:OT x y with _|z;simp[B5]at h;simp only[B5]at h;have:(Builtin.min2 (aH m x) (aH m y)).run P w=.ok (aH m z) w:=by cases x<;>cases y<;>simp[OT]at B5;subst B5;simp[aH,Builtin.min2]
  simp only[aI,List.foldlM_cons,zK,this,zJ];exact ih h
omit hT in
theorem PM{v:Value}{y n:Nat}(h:iX v y=some n)(v05:Nat)(hY:y<=v05)(code:BoundsCode):(Instr.sliceBound (aH m v) v05 code).run P w=.ok n w/\n<=y:=by
 cases v with
 |int k i=>
  simp only[iX]at h;rcases hr:qD i (y+1)with _|_;simp[hr]at h;simp[hr]at h;subst h;have:=VD hr;refine⟨?_,by omega⟩;have h2:0<=i/\i<=(v05:Int):=by omega
  simp[Instr.sliceBound,aH,asIntOf,h2]
 |_=>simp[iX]at h
omit hT in
theorem LQ{isS:Bool}{n c v05:Nat}{lo hi mx:Option Value}{l h M:Nat}(hb:g9 n c lo hi mx=some (l,h,M))(hY:c<=v05):
  (Instr.sliceBounds isS n v05 (lo.map (aH m)) (hi.map (aH m)) (mx.map (aH m))).run P w=.ok (l,h,if mx.isSome then M else v05) w/\l<=h/\(mx.isSome=true->h<=M/\M<=c)/\(mx=none->M=c/\(hi.isSome=true->h<=c)/\(hi=none->h=n)):=by
 unfold g9 at hb;cases mx with
 |some v=>
  simp only at hb;rcases h1:iX v c with _|M';simp[h1]at hb;simp only[h1]at hb;rcases hi with _|u;simp at hb;simp only at hb;rcases h2:iX u M' with _|h';simp[h2]at hb;simp only[h2]at hb;have b1:=fun code=>PM (P:=P) m w h1 v05 hY code
  have b2:=fun code=>PM (P:=P) m w h2 M' (zF _) code;cases lo with
  |none=>simp at hb;obtain⟨rfl,rfl,rfl⟩:=hb;have q1:=(b1 .index).2;have q2:=(b2 .index).2;refine⟨?_,by omega,fun _=>⟨q2,q1⟩,by simp⟩;simp[Instr.sliceBounds,(b1 _).1,(b2 _).1]
  |some x=>
   simp only at hb;rcases h3:iX x h' with _|l';simp[h3]at hb;simp[h3]at hb;obtain⟨rfl,rfl,rfl⟩:=hb;have b3:=fun code=>PM (P:=P) m w h3 h' (zF _) code
   have q1:=(b1 .index).2;have q2:=(b2 .index).2;have q3:=(b3 .index).2;refine⟨?_,q3,fun _=>⟨q2,q1⟩,by simp⟩;simp[Instr.sliceBounds,(b1 _).1,(b2 _).1,(b3 _).1]
 |none=>
  simp only at hb;cases hi with
  |some u=>
   simp only at hb;rcases h2:iX u c with _|h';simp[h2]at hb;simp only[h2]at hb;have b2:=fun code=>PM (P:=P) m w h2 v05 hY code
   have q2:=(b2 .index).2;cases lo with
   |none=>simp at hb;obtain⟨rfl,rfl,rfl⟩:=hb;refine⟨?_,by omega,by simp,fun _=>⟨rfl,fun _=>q2,by simp⟩⟩;simp[Instr.sliceBounds,(b2 _).1]
   |some x=>
    simp only at hb;rcases h3:iX x h' with _|l';simp[h3]at hb;simp[h3]at hb;obtain⟨rfl,rfl,rfl⟩:=hb;have b3:=fun code=>PM (P:=P) m w h3 h' (zF _) code
    have q3:=(b3 .index).2;refine⟨?_,q3,by simp,fun _=>⟨rfl,fun _=>q2,by simp⟩⟩;simp[Instr.sliceBounds,(b2 _).1,(b3 _).1]
  |none=>
   simp only at hb;cases lo with
   |none=>simp at hb;obtain⟨rfl,rfl,rfl⟩:=hb;refine⟨?_,by omega,by simp,by simp⟩;simp[Instr.sliceBounds]
   |some x=>
    simp only at hb;rcases h3:iX x n with _|l';simp[h3]at hb;simp[h3]at hb;obtain⟨rfl,rfl,rfl⟩:=hb;have b3:=fun code=>PM (P:=P) m w h3 n (zF _) code
    have q3:=(b3 .index).2;refine⟨?_,q3,by simp,by simp⟩;simp[Instr.sliceBounds,(b3 _).1]
theorem z4l{lo hi mx:Option Value}(h:mZ T t x lo hi mx=some v):
  (Instr.sliceAt t (aH m x) (lo.map (aH m)) (hi.map (aH m)) (mx.map (aH m))).run P w=.ok (aH m v) w:=by
 unfold mZ at h;rcases hd:T.und t with _|d;simp[hd]at h;simp only[hd]at h;have hu:=gR hT w hd;cases d with
 |string=>
  cases x with
  |string s=>
   simp only at h;cases mx with
   |some _=>simp at h|none=>
    simp only at h;rcases hb:g9 s.data.toList.length s.data.toList.length lo hi none with _|r;simp only[hb]at h;cases h;obtain⟨l,hh,M⟩:=r;simp only[hb,zA]at h;subst h;obtain⟨h1,_,_,_⟩:=LQ (P:=P) (isS:=false) m w hb (zF _);have dS:s.size=s.data.toList.length:=rfl;simp only[Option.map_none]at h1;simp only[Instr.sliceAt,zK,hu,zJ,Instr.slice,aH,Option.map_none,Option.isSome_none,Bool.false_eq_true,if_false,dS,h1,zL];have e3:s.extract l hh=⟨((s.data.toList.take hh).drop l).toArray⟩:=by apply ByteArray.ext;rw[ByteArray.data_extract];apply Array.ext';simp[List.drop_take]
    rw[e3]
  |_=>simp at h
 |slice e=>
  cases x with
  |slice a n c=>
   simp only at h;cases hc:Nat.blt c bS with
   |false=>
    simp only[hc,zD]at h;unfold emptyS at h;rcases a with _|a;simp at h;cases n with
    |succ n=>simp at h|zero=>
     simp only at h;rcases hb:g9 0 0 lo hi mx with _|r;simp[hb]at h;obtain⟨l,hh,M⟩:=r;simp only[hb]at h;cases l with
     |succ l=>simp at h|zero=>
      cases hh with
      |succ l=>simp at h|zero=>
       cases M with
       |succ l=>simp at h|zero=>
        simp only at h;rcases hs:cC T e with _|sz;simp[hs]at h;simp only[hs,zA]at h;subst h;obtain⟨h1,_,_,_⟩:=LQ (P:=P) (isS:=true) (v05:=bR m a.block c) m w hb (Nat.zero_le _);cases mx with
        |none=>simp only[Option.isSome_none,Bool.false_eq_true,if_false]at h1;simp only[Instr.sliceAt,zK,hu,zJ,Instr.slice,aH,h1,n7 hT w hs,zL,zM,Nat.zero_mul,Nat.sub_zero,wD,Nat.add_zero,ite_self]|some vm=>
         simp only[Option.isSome_some,if_true,zM]at h1;have h0:bR m a.block 0=0:=by simp[bR,bS]
         simp only[Instr.sliceAt,zK,hu,zJ,Instr.slice,aH,h1,n7 hT w hs,zL,zM,Nat.zero_mul,Nat.sub_zero,wD,Nat.add_zero,ite_self,h0]
   |true=>
    simp only[hc,zC]at h;have lQ:c<bS:=by simpa[Nat.blt_eq]using hc
    rcases hb:g9 n c lo hi mx with _|r;simp[hb]at h;obtain⟨l,hh,M⟩:=r;simp only[hb]at h;rcases hs:cC T e with _|sz;simp[hs]at h;simp only[hs,zA]at h;subst h;have fY:∀i,bR m i c=c:=fun i=>by simp[bR,lQ]
    obtain⟨h1,h2,h3,h4⟩:=LQ (P:=P) (isS:=true) (v05:=c) m w hb (zF _);have hM:(if mx.isSome then M else c)=M:=by rcases mx with _|v;simp[(h4 rfl).1];simp
    rw[hM]at h1;have HN:M-l<bS:=by rcases mx with _|v;have:=(h4 rfl).1;omega;have:=(h3 rfl).2;omega
    cases a with|none=>simp only[Instr.sliceAt,zK,hu,zJ,Instr.slice,aH,h1,n7 hT w hs,zL,beq_eq];by_cases e:M=l<;>simp[e,aH]|some a=>simp only[Instr.sliceAt,zK,hu,zJ,Instr.slice,aH,fY,h1,n7 hT w hs,zL,beq_eq];by_cases e:M=l;simp[e,aH,bR,bS];simp[e,aH,bR,HN,wD,Nat.add_assoc]
  |chan r=>
   rcases r with _|r;simp at h;simp only at h;rcases hb:g9 0 0 lo hi mx with _|q;simp[hb]at h;obtain⟨l,hh,M⟩:=q;simp only[hb]at h;rcases hs:cC T e with _|sz;simp[hs]at h;simp only[hs,zA]at h;subst h;obtain⟨h1,h2,h3,h4⟩:=LQ (P:=P) (isS:=true) (v05:=0) m w hb (zF _);have hz:l=0/\hh=0/\M=0:=by
    cases mx with
    |none=>obtain⟨q1,q2,q3⟩:=h4 rfl;rcases hi with _|v;have:=q3 rfl;omega;have:=q2 rfl;omega
    |some v=>have:=h3 rfl;omega
   obtain⟨rfl,rfl,rfl⟩:=hz;simp only[ite_self]at h1;simp only[Instr.sliceAt,zK,hu,zJ,Instr.slice,aH,h1,n7 hT w hs,zL,if_true,Nat.sub_zero]
  |_=>simp at h
 |array n e=>
  cases x with
  |pointer p=>
   rcases p with _|a;simp at h;simp only at h;rcases hb:g9 n n lo hi mx with _|r;simp only[hb]at h;cases h;obtain⟨l,hh,M⟩:=r;simp only[hb]at h;rcases hs:cC T e with _|sz;simp[hs]at h;simp only[hs]at h;rcases hn:Nat.blt n bS with _|_;simp[hn]at h;simp only[hn,zC,zA]at h;subst h;have uR:n<bS:=by simpa[Nat.blt_eq]using hn
   obtain⟨h1,h2,h3,h4⟩:=LQ (P:=P) (isS:=false) (v05:=n) m w hb (zF _);have hM:(if mx.isSome then M else n)=M:=by rcases mx with _|v;simp[(h4 rfl).1];simp
   rw[hM]at h1;have HN:M-l<bS:=by rcases mx with _|v;have:=(h4 rfl).1;omega;have:=(h3 rfl).2;omega
   simp only[Instr.sliceAt,zK,hu,zJ,Instr.sureAddr,aH,h1,n7 hT w hs,zL,beq_eq];by_cases e:M=l;simp[e,bR,bS];simp[e,bR,HN,wD,Nat.add_assoc]
  |_=>simp at h
 |_=>simp at h
theorem z7g{tm:List Value}{a:Act}(ha:a.tmps=⟨aI m tm⟩)(o:Oper)(h:hH T tm o.op=some v):(execOp a.eval o).run P w=.ok (.value (aH m v)) w:=by
 obtain⟨dst,op,type,pos,after,guard⟩:=o;simp only at h;unfold hH at h;cases op with
 |move x=>simp only at h;simp[execOp,k7 ha h]|assign x=>simp only at h;simp[execOp,k7 ha h]
 |pick c x y=>
  simp only at h;rcases hc:evalO tm c with _|cv;simp[hc]at h;cases cv with
  |bool b=>rcases b with _|_;simp only[hc]at h;simp[execOp,k7 ha hc,k7 ha h,aH,asBool];simp only[hc]at h;simp[execOp,k7 ha hc,k7 ha h,aH,asBool]
  |_=>simp[hc]at h
 |build t ps=>
  simp only at h;rcases hp:FY tm ps.toList with _|qs;simp[hp]at h;simp only[hp]at h;have e1:(ps.map fun x=>(x.1,a.eval x.2))=(qs.map fun p=>(p.1,aH m p.2)).toArray:=by rw[<-sd ha hp];cases ps;simp
  have:=z31 hT m w h;rw[<-e1]at this;simp only[execOp,zK];rw[this];rfl
 |nilCheck x=>
  simp only at h;rcases hx:evalO tm x with _|u;simp[hx]at h;have he:=k7 ha hx;cases u with
  |pointer p=>rcases p with _|q;simp[hx]at h;simp[hx]at h;subst h;simp[execOp,he,aH]
  |func fn x y=>cases fn with|func f=>simp[hx]at h;subst h;simp[execOp,he,aH]|_=>simp[hx]at h
  |_=>simp[hx]at h
 |binOp op t x y ty=>simp only at h;rcases hx:evalO tm x with _|u;simp[hx]at h;rcases hy:evalO tm y with _|u';simp[hx,hy]at h;simp only[hx,hy]at h;have:=Ad hT m w op x y h;simp only[execOp,k7 ha hx,k7 ha hy];rw[zK,this];rfl
 |unOp op t x=>simp only at h;rcases hx:evalO tm x with _|u;simp[hx]at h;simp only[hx]at h;simp[execOp,k7 ha hx,Hf m w h]
 |convert s d x=>simp only at h;rcases hx:evalO tm x with _|u;simp[hx]at h;simp only[hx]at h;simp[execOp,k7 ha hx,z6q hT m w h]
 |makeFunc fn first cap=>
  simp only at h;rcases hx:jK tm first.toList with _|u
  simp[hx]at h;rcases hy:jK tm cap.toList with _|u';simp[hx,hy]at h;simp only[hx,hy,zA]at h;subst h;simp[execOp,sC ha hx,sC ha hy,Instr.makeFunc,aH]
 |slice t x lo hi mx=>simp only at h;rcases hx:evalO tm x with _|u;simp[hx]at h;rcases h1:pY tm lo with _|l;simp[hx,h1]at h;rcases h2:pY tm hi with _|hh;simp[hx,h1,h2]at h;rcases h3:pY tm mx with _|mm;simp[hx,h1,h2,h3]at h;simp only[hx,h1,h2,h3]at h;have:=z4l hT m w h;simp only[execOp,k7 ha hx,LL ha h1,LL ha h2,LL ha h3];rw[zK,this];rfl
 |fieldAddr t x f=>simp only at h;rcases hx:evalO tm x with _|u;simp[hx]at h;simp only[hx]at h;simp[execOp,k7 ha hx,qxn hT m w h]
 |field t x f=>simp only at h;rcases hx:evalO tm x with _|u;simp[hx]at h;simp only[hx]at h;simp[execOp,k7 ha hx,z3h hT m w h]
 |indexAddr t x i=>simp only at h;rcases hx:evalO tm x with _|u;simp[hx]at h;rcases hy:evalO tm i with _|u';simp[hx,hy]at h;simp only[hx,hy]at h;simp[execOp,k7 ha hx,k7 ha hy,qxq hT m w h]
 |index t x i=>simp only at h;rcases hx:evalO tm x with _|u;simp[hx]at h;rcases hy:evalO tm i with _|u';simp[hx,hy]at h;simp only[hx,hy]at h;simp[execOp,k7 ha hx,k7 ha hy,z3q hT m w h]
 |extract x i=>simp only at h;rcases hx:evalO tm x with _|u;simp[hx]at h;simp only[hx]at h;simp[execOp,k7 ha hx,qxl m w h]
 |call c=>
  obtain⟨callee,args,ats⟩:=c;simp only at h;cases callee with
  |builtin b=>
   cases b with
   |len=>simp only at h;rcases hx:jK tm args.toList with _|vs;simp[hx]at h;rcases vs with _ |⟨x,_ |⟨y,l⟩⟩;simp[hx]at h;obtain⟨ats⟩:=ats;rcases ats with _|⟨t,ts⟩;simp[hx]at h;simp only[hx]at h;have e1:=sC ha hx;simp only[aI]at e1;have:=X5 hT m w (ty:=type) (ts:=ts) h;simp only[execOp,zK,resolve,zL,zJ,invoke,builtin,e1];rw[this];rfl;simp[hx]at h
   |cap=>simp only at h;rcases hx:jK tm args.toList with _|vs;simp[hx]at h;rcases vs with _ |⟨x,_ |⟨y,l⟩⟩;simp[hx]at h;obtain⟨ats⟩:=ats;rcases ats with _|⟨t,ts⟩;simp[hx]at h;simp only[hx]at h;have e1:=sC ha hx;simp only[aI]at e1;have:=ZX hT m w (ty:=type) (ts:=ts) h;simp only[execOp,zK,resolve,zL,zJ,invoke,builtin,e1];rw[this];rfl;simp[hx]at h
   |max=>simp only at h;rcases hx:jK tm args.toList with _|vs;simp[hx]at h;rcases vs with _|⟨x,l⟩;simp[hx]at h;simp only[hx]at h;have e1:=sC ha hx;simp only[aI]at e1;have:=X3 (P:=P) m w h;simp only[execOp,zK,resolve,zL,zJ,invoke,builtin,e1,Builtin.max_];rw[this];rfl
   |min=>simp only at h;rcases hx:jK tm args.toList with _|vs;simp[hx]at h;rcases vs with _|⟨x,l⟩;simp[hx]at h;simp only[hx]at h;have e1:=sC ha hx;simp only[aI]at e1;have:=WZ (P:=P) m w h;simp only[execOp,zK,resolve,zL,zJ,invoke,builtin,e1,Builtin.min_];rw[this];rfl
   |_=>simp at h
  |_=>simp at h
 |_=>simp at h
end
theorem AU.cell{m:Nm}{i:Nat}{l:List Value}{e:TypeId}{w:World}{md:Nat}(h:AU m i l e w md){j:Nat}{v:Value}(hj:l[j]? = some v):
  w.cell? ⟨m.blk i,m.sh i+j,none⟩=some (aH m v):=by
 have aG:j<l.length:=(zG.1 hj).1;rcases md with _ |_ |n;obtain⟨h0,h1⟩:=h;simp[World.cell?,h1,h0,m4,hj];obtain⟨c,e',fr,h1,h2,_⟩:=h;simp[World.cell?,h1,h2 j v hj];obtain⟨pr,rest,h1,h2,_⟩:=h;simp only[World.cell?,h1,Option.isSome_none,Bool.false_eq_true,if_false,List.getElem?_toArray,zT,<-h2];rw[List.getElem?_append_right (by omega),Nat.add_sub_cancel_left,List.getElem?_append_left (by simpa using aG)];simp[m4,hj]
theorem JN{P:Program}{w:World}{r:Nat}{es:Array MapEntry}{c:Nat}(h:w.heap[r]? = some (.map es c)):(getObj r).run P w=.ok (.map es c) w:=by
 simp[getObj,Sem.run,h]
variable{s:S}
theorem Yn{i:Nat}{l:List Value}{e:TypeId}{md:Nat}(h:cM s i=some (l,e,md)):lk s.h i=some (.inl (l,e,md))/\md≠1:=by
 unfold cM at h;rcases hl:lk s.h i with _|b;simp[hl]at h;rcases b with⟨l',e',md'⟩|⟨es,c⟩;rcases md' with _ |_ |n<;>simp[hl]at h<;>obtain⟨rfl,rfl,rfl⟩:=h<;>simp;simp[hl]at h
theorem Ko{a b:Nat}(h:Nat.blt a b=false):¬ a<b:=fun aG=>by
 have:Nat.blt a b=true:=Nat.ble_eq_true_of_le aG;rw[this]at h;cases h
theorem G6{a b:Nat}(h:Nat.blt a b=true):a<b:=zY h
theorem qy4(c b k:Nat)(h:b<=c):c+k-b=c-b+k:=by omega
theorem qvb{c:Nat}(h:bS<=c)(k:Nat):bN (c+k)=bN c+k:=qy4 c bS k h
section
variable{P:Program}{T:Tb}(hT:kS P T)(m:Nm)(w:World)
include hT
variable{t:TypeId}
variable{v:Value}
theorem Wv(hf:Fits m s w){i off:Nat}{l:List Value}{e:TypeId}{md:Nat}(hl:lk s.h i=some (.inl (l,e,md)))
  (h:(match T.und t with
    |none=>none|some d=>cond (qA d) (match cC T t with
      |some n=>match v8 l off n with
       |some cs=>some (Value.agg cs.toArray)|none=>none
      |none=>none) (nth l off))=some v):
  (loadVar t ⟨m.blk i,m.sh i+off,none⟩).run P w=.ok (aH m v) w:=by
 have hr:AU m i l e w md:=hf.ok i _ hl;rcases hd:T.und t with _|d;simp[hd]at h;simp only[hd]at h;unfold loadVar;simp only[zK,qte hT w hd,zJ];cases hag:qA d with
 |true=>
  simp only[hag,zC]at h;rcases hs:cC T t with _|n;simp[hs]at h;simp only[hs]at h;rcases hg:v8 l off n with _|cs;simp[hg]at h;simp only[hg,zA]at h;subst h;have aU:(aI m cs).length=n:=by rw[wH];exact ma hg
  have:=run_loadCells_list (P:=P) w ⟨m.blk i,m.sh i+off,none⟩ (aI m cs) (fun j u hu=>by rw[m4,List.getElem?_map]at hu;rcases hc:cs[j]? with _|u';simp[hc]at hu;simp[hc]at hu;subst hu;rw[wD,Nat.add_assoc];exact hr.cell (c? hg hc));rw[aU]at this;simp[n7 hT w hs,this,aH]
 |false=>simp only[hag,zD,iQ]at h;have:=hr.cell h;simp[this]
theorem z3s{K:TypeId->Value->Bool}{d:Nat}{b:Bool}(hK:∀t v w,K t v=true->(Instr.checkKey b d t (aH m v)).run P w=.ok () w)(cs:List Value)(fs:List Field)(h:Ic T K cs fs=true):
  (forIn fs PUnit.unit (fun f _=>
    if f.name ≠ "_" then (do
     let x <-part f.type ⟨aI m cs⟩ f.offset
     Instr.checkKey b d f.type x
     pure (ForInStep.yield PUnit.unit))
    else pure (ForInStep.yield PUnit.unit)):Sem PUnit).run P w=.ok PUnit.unit w:=by
 induction fs with|nil=>simp|cons f fs ih=>simp only[Ic]at h;simp only[List.forIn_cons];split at h;rename_i hn;rcases hp:EA T f.type cs f.offset with _|v;simp[hp]at h;simp only[hp]at h;rcases hk:K f.type v with _|_;simp[hk]at h;simp only[hk,zC]at h;have h1:=Jp hT m w hp;have h2:=hK f.type v w hk;simp only[hn,ne_eq,not_false_eq_true,if_true,zK,h1,zJ,h2,zL];exact ih h;rename_i hn;simp only[hn,if_false,zK,zL,zJ];exact ih h
theorem Ir(b:Bool)(d k:Nat)(w:World)(h:o6 T d t v=true):(Instr.checkKey b (d+k) t (aH m v)).run P w=.ok () w:=by
 induction d generalizing t v w with
 |zero=>simp[o6]at h|succ d ih=>
  have GY:d+1+k=(d+k)+1:=by omega
  rw[GY];simp only[o6]at h;rcases hd:T.und t with _|ty;simp[hd]at h;have hu:=gR hT w hd;cases ty with
  |int kk=>simp[Instr.checkKey,hu]|string=>simp[Instr.checkKey,hu]
  |bool=>simp[Instr.checkKey,hu]|struct fs=>
   simp only[hd]at h;cases v with
   |agg cs=>obtain⟨cs⟩:=cs;simp only at h;have:=z3s hT m w (b:=b) (d:=d+k) (fun t v w hk=>ih w hk) cs fs.toList h;simp only[Instr.checkKey,zK,hu,zJ,aH,gP];rw[<-Array.forIn_toList,this];rfl
   |_=>simp at h
  |_=>simp[hd]at h
theorem qyk{kt:TypeId}{k:Value}(es:List MapEntry)(i:Nat){r:Option (Nat×Value)}(h:pM T kt k es i=some r):
  (Instr.findAsking kt (aH m k) (es.map (eM m)) i).run P w=.ok (r.map fun p=>(p.1,aH m p.2)) w:=by
 induction es generalizing i with|nil=>simp[pM]at h;subst h;simp[Instr.findAsking]|cons e es ih=>simp only[pM]at h;rcases he:eqv T 50 kt k e.key with _|b;simp[he]at h;have hq:=Xi hT m w he;rcases b with _|_;simp only[he]at h;simpa[Instr.findAsking,eM,hq]using ih (i+1) h;simp[he]at h;subst h;simp[Instr.findAsking,eM,hq]
omit hT in
theorem WY{kt:TypeId}{d:TypeDesc}(hd:T.und kt=some d){k:Value}(es:List MapEntry)(i:Nat){r r':Option (Nat×Value)}(h:pM T kt k es i=some r)
  (h':Instr.findNow d (aH m k) (es.map (eM m)) i=some r'):r'=r.map fun p=>(p.1,aH m p.2):=by
 induction es generalizing i with
 |nil=>simp[pM]at h;subst h;simp[Instr.findNow]at h';simp[<-h']|cons e es ih=>
  simp only[pM]at h;simp only[zQ,Instr.findNow]at h';rcases he:eqv T 50 kt k e.key with _|b;simp[he]at h;have key:∀b',Instr.sameNow d (aH m k) (eM m e).key=some b'->b'=b:=by intro b' cQ;simp only[eM]at cQ;rcases qrw he with⟨x,y,hx,hy⟩|⟨kk,x,k',y,hx,hy⟩|⟨x,y,hx,hy⟩|⟨x,y,hx,hy⟩|⟨x,n,c,y,n',c',hx,hy⟩|⟨x,y,hx,hy⟩|⟨x,y,hx,hy⟩|⟨x,n,c,hx,hy⟩;rw[hx,hy]at cQ he;cases d<;>simp[Instr.sameNow,aH]at cQ;simp[eqv,hd]at he;exact cQ.symm.trans he;rw[hx,hy]at cQ he;cases d<;>simp[Instr.sameNow,aH]at cQ;simp[eqv,hd]at he;exact cQ.2.symm.trans he.2;rw[hx,hy]at cQ he;cases d<;>simp[Instr.sameNow,aH]at cQ;simp[eqv,hd]at he;rw[<-cQ,<-he,Yf,beq_toListBytes,ByteArray.toList_eq,ByteArray.toList_eq];rw[hx,hy]at cQ;cases x<;>cases y<;>cases d<;>simp[Instr.sameNow,aH]at cQ;rw[hx,hy]at cQ;cases x<;>cases y<;>cases d<;>simp[Instr.sameNow,aH]at cQ;rw[hx,hy]at cQ;cases x<;>cases y<;>cases d<;>simp[Instr.sameNow,aH]at cQ;rw[hx,hy]at cQ;cases d<;>simp[Instr.sameNow,aH]at cQ;rw[hx,hy]at cQ;cases d<;>simp[Instr.sameNow,aH]at cQ
  rcases hsn:Instr.sameNow d (aH m k) (eM m e).key with _|b';simp[hsn]at h';have:=key b' hsn;subst this;rcases b' with _|_;simp only[he]at h;simp only[hsn]at h';exact ih (i+1) h h';simp[he]at h;subst h;simp[hsn]at h';simp[<-h',eM]
theorem LH{kt:TypeId}{d:TypeDesc}(hd:T.und kt=some d){k:Value}{es:List MapEntry}{r:Option (Nat×Value)}(h:pM T kt k es 0=some r):
  (Instr.findKey kt (aH m k) (es.map (eM m))).run P w=.ok (r.map fun p=>(p.1,aH m p.2)) w:=by
 unfold Instr.findKey;simp only[zK,gR hT w hd,zJ];rcases hn:Instr.findNow d (aH m k) (es.map (eM m)) 0 with _|r';exact qyk hT m w es 0 h;simp[WY m hd es 0 h hn]
omit hT in
theorem Xe{d:Nat}{kt:TypeId}{v:Value}(h:o6 T d kt v=true):∃ty,T.und kt=some ty:=by
 cases d with|zero=>simp[o6]at h|succ d=>simp only[o6]at h;rcases hd:T.und kt with _|ty;simp[hd]at h;exact⟨ty,rfl⟩
omit hT in
theorem ba{s:S}{i sz:Nat}{l:List Value}(h:CL s i sz=some l):∃e md,lk s.h i=some (.inl (l,e,md))/\(md=1/\e=sz+1\/md=sz+2):=by
 unfold CL at h;rcases hl:lk s.h i with _|b;simp[hl]at h;rcases b with⟨l',e',md'⟩|⟨es,c⟩;rcases md' with _ |_ |n;simp[hl]at h;simp only[hl,beq_eq]at h;by_cases he:e'=sz+1;simp only[he,yC,zC,zA]at h;subst h;exact⟨_,_,rfl,.inl ⟨rfl,he⟩⟩;simp[he]at h;simp only[hl,beq_eq]at h;by_cases he:n=sz;simp only[he,yC,zC,zA]at h;subst h;exact⟨_,_,rfl,.inr (by rw[he])⟩;simp[he]at h;simp[hl]at h
omit hT in
theorem Wy{s:S}(hf:Fits m s w){i c sz:Nat}{l:List Value}(hl:CL s i (sz+1)=some l){off n:Nat}(ho:off=bN c*(sz+1))(hn:off+n*(sz+1)<=l.length):n+bN c<=m.cp i:=by
 obtain⟨e,md,hl,oU⟩:=ba hl;have h3:l.length<=m.cp i*(sz+1):=by rcases oU with⟨rfl,rfl⟩|rfl;obtain⟨_,_,_,_,_,h3⟩:=hf.ok i _ hl;exact h3 _ rfl;obtain⟨pr,rest,_,_,h3⟩:=hf.ok i _ hl;omega
 have:(n+bN c)*(sz+1)<=m.cp i*(sz+1):=by rw[Nat.add_mul];omega
 exact Nat.le_of_mul_le_mul_right this (by omega)
theorem z1n(hf:Fits m s w){x:Value}{lo hi mx:Option Value}(h:EG T s t x lo hi mx=some v):
  (Instr.sliceAt t (aH m x) (lo.map (aH m)) (hi.map (aH m)) (mx.map (aH m))).run P w=.ok (aH m v) w:=by
 unfold EG at h;rcases hd:T.und t with _|dd;simp[hd]at h;cases dd with
 |slice e=>
  cases x with
  |slice p n c=>
   rcases p with _|a;simp[hd]at h;simp only[hd]at h;cases hc:Nat.blt c bS with
   |true=>simp[hc]at h|false=>
    have lQ:¬ c<bS:=Ko hc;simp only[hc,zD]at h;rcases hs:cC T e with _|sz;simp[hs]at h;simp only[hs]at h;rcases hr:CL s a.block sz with _|l;simp[hr]at h;simp only[hr,beq_eq]at h;by_cases dN:a.off=bN c*sz;rw[decide_eq_true dN]at h;simp only[zC]at h;rcases fC:Nat.blt 0 sz with _|_;simp[fC]at h;have qT:0<sz:=G6 fC;simp only[fC,zC]at h;obtain⟨sz,rfl⟩:∃q,sz=q+1:=⟨sz-1,by omega⟩;obtain⟨_,_,K4,_⟩:=ba hr;have hl:=hr;have gN:=hf.bd _ _ K4;have sK:aH m (.slice (some a) n c)=.slice (some ⟨m.blk a.block,m.sh a.block+a.off,none⟩) n (m.cp a.block-bN c):=by simp[aH,bR,lQ]
    have A5:(l.length-a.off)/(sz+1)<=m.cp a.block-bN c:=by
     rcases Nat.eq_zero_or_pos ((l.length-a.off)/(sz+1))with h0 |hp;omega;have sG:=Nat.div_mul_le_self (l.length-a.off) (sz+1);have HD:a.off<=l.length:=by rcases Nat.lt_or_ge l.length a.off with aG |HD;rw[show l.length-a.off=0 by omega]at hp;simp at hp;exact HD
     have:=Wy m w hf (c:=c) (n:=(l.length-a.off)/(sz+1)) (off:=a.off) hl dN (by omega);omega
    have hu:=gR hT w hd;cases mx with
    |some vm=>
     simp only at h;rcases y7:iX vm ((l.length-a.off)/(sz+1))with _|M0;simp[y7]at h;simp only[y7]at h;rcases oI:Nat.ble (a.off+M0*(sz+1)) l.length with _|_;simp[oI]at h;simp only[oI,zC]at h;rcases hb:g9 n M0 lo hi (some vm)with _|q;simp[hb]at h;obtain⟨l1,hh,M⟩:=q;simp only[hb]at h;rcases hMc:Nat.blt M bS with _|_;simp[hMc]at h;simp only[hMc,zC,zA]at h;subst h;have YO:M<bS:=G6 hMc;have ic:M0<=m.cp a.block-bN c:=by have:=(PM (P:=P) m w y7 _ (zF _) .index).2;omega
     obtain⟨b1,b2,b3,_⟩:=LQ (P:=P) (isS:=true) m w hb ic;simp only[Option.isSome_some,if_true,zM]at b1;have HN:M-l1<bS:=Nat.lt_of_le_of_lt (Nat.sub_le _ _) YO;have cR:(Instr.sliceAt t (aH m (.slice (some a) n c)) (lo.map (aH m)) (hi.map (aH m)) ((some vm).map (aH m))).run P w=.ok (.slice (if M=l1 then some ⟨m.blk a.block,m.sh a.block+a.off,none⟩else some ⟨m.blk a.block,m.sh a.block+a.off+l1*(sz+1),none⟩) (hh-l1) (M-l1)) w:=by rw[sK];simp only[Instr.sliceAt,zK,hu,zJ,Instr.slice,b1,n7 hT w hs,zL,zM,wD]
     rw[cR];by_cases A7:M=l1;rw[A7]at HN ⊢;simp only[yC,zC,aH,if_true,bR,if_pos HN];simp only[decide_eq_false A7,zD,aH,if_neg A7,bR,if_pos HN,Nat.add_assoc]
    |none=>
     simp only at h;rcases hb:g9 n ((l.length-a.off)/(sz+1)) lo hi none with _|q;simp[hb]at h;obtain⟨l1,hh,M⟩:=q;simp only[hb]at h;rcases oI:Nat.ble (a.off+hh*(sz+1)) l.length with _|_;simp[oI]at h;simp only[oI,zC]at h;have Y8:a.off+hh*(sz+1)<=l.length:=zY oI;have hhC:=Wy m w hf (c:=c) (n:=hh) (off:=a.off) hl dN Y8;obtain⟨b1,b2,_,b4⟩:=LQ (P:=P) (isS:=true) m w hb A5;simp only[Option.isSome_none,Bool.false_eq_true,if_false]at b1;have cR:(Instr.sliceAt t (aH m (.slice (some a) n c)) (lo.map (aH m)) (hi.map (aH m)) ((none:Option Value).map (aH m))).run P w=.ok (.slice (if m.cp a.block-bN c=l1 then some ⟨m.blk a.block,m.sh a.block+a.off,none⟩else some ⟨m.blk a.block,m.sh a.block+a.off+l1*(sz+1),none⟩) (hh-l1) (m.cp a.block-bN c-l1)) w:=by rw[sK];simp only[Instr.sliceAt,zK,hu,zJ,Instr.slice,b1,n7 hT w hs,zL,zM,wD]
     cases l1 with
     |zero=>simp only[zA]at h;subst h;rw[Nat.sub_zero,Nat.sub_zero,Nat.zero_mul,Nat.add_zero]at cR;by_cases hC:m.cp a.block-bN c=0;rw[if_pos hC]at cR;rw[cR];simp only[aH,bR,if_neg lQ];rw[if_neg hC]at cR;rw[cR];simp only[aH,bR,if_neg lQ]|succ l1=>
      simp only at h;rcases aG:Nat.blt (l1+1) hh with _|_;simp[aG]at h;have uS:l1+1<hh:=G6 aG;simp only[aG,zC,zA]at h;subst h;have cW:¬ m.cp a.block-bN c=l1+1:=by omega
      have tF:¬ c+(l1+1)<bS:=fun hh=>lQ (Nat.lt_of_le_of_lt (Nat.le_add_right _ _) hh);have y5:bN (c+(l1+1))=bN c+(l1+1):=qvb (Nat.le_of_not_lt lQ) _;rw[cR];simp only[aH,bR,if_neg tF,if_neg cW,y5,Nat.add_assoc,Nat.sub_sub]
    rw[decide_eq_false dN]at h;simp at h
  |_=>simp[hd]at h
 |_=>simp[hd]at h
theorem mc(hf:Fits m s w){tm:List Value}{a:Act}(ha:a.tmps=⟨aI m tm⟩)(o:Oper)(h:mX T tm s o.op=some v): (execOp a.eval o).run P w=.ok (.value (aH m v)) w:=by
  obtain⟨dst,op,type,pos,after,guard⟩:=o;simp only at h;unfold mX at h;cases op with
  |load t x=>
    simp only at h;rcases hx:evalO tm x with _|u;simp[hx]at h;cases u with
    |pointer p=>rcases p with _|b;simp[hx]at h;simp only[hx]at h;rcases hl:lk s.h b.block with _|blk;simp[hl]at h;rcases blk with⟨l,e,md⟩|⟨es,c⟩;simp only[hl]at h;have:=Wv hT m w hf hl h;simp[execOp,k7 ha hx,aH,Instr.loadAt,Instr.sureAddr,this];simp[hl]at h
    |_=> simp[hx]at h
  |slice t x lo hi mx=>simp only at h;rcases hx:evalO tm x with _|u;simp[hx]at h;rcases h1:pY tm lo with _|l;simp[hx,h1]at h;rcases h2:pY tm hi with _|hh;simp[hx,h1,h2]at h;rcases h3:pY tm mx with _|mm;simp[hx,h1,h2,h3]at h;simp only[hx,h1,h2,h3]at h;have:=z1n hT m w hf h;simp only[execOp,k7 ha hx,LL ha h1,LL ha h2,LL ha h3];rw[zK,this];rfl
  |lookup t x k ok=>
    simp only at h;rcases hd:T.und t with _|d;simp[hd]at h;cases d with
    |map kt et=>
      simp only[hd]at h;rcases hx:evalO tm x with _|u;simp[hx]at h;cases u with
      |map r=>
        simp only[hx]at h;rcases hk:evalO tm k with _|kv;simp[hk]at h;simp only[hk]at h;rcases qV:o6 T 50 kt kv with _|_;simp[qV]at h;simp only[qV,zC]at h;obtain⟨ty,tC⟩:=Xe qV;have main : ∀ es : List MapEntry, (match pM T kt kv es 0 with
              |none=> none|some (some (_,v))=> some (cond ok (.tuple #[v, .bool true]) v)
              |some none=> match T.inf et with
                |some (_,_,z)=> some (cond ok (.tuple #[z, .bool false]) z)|none=> none)=some v->
            (Instr.checkKey (es.map (eM m)).toArray.isEmpty 10000 kt (aH m kv)).run P w=.ok () w/\
            ((∃pi pv,(Instr.findKey kt (aH m kv) (es.map (eM m))).run P w=.ok (some (pi,pv)) w/\aH m v=if ok=true then Value.tuple #[pv, .bool true]else pv)\/
             (∃z,(Instr.findKey kt (aH m kv) (es.map (eM m))).run P w=.ok none w/\(zeroValue et).run P w=.ok z w/\aH m v=if ok=true then Value.tuple #[z, .bool false]else z)):=by
          intro es he;refine⟨Ir hT m _ 50 9950 w qV, ?_⟩;rcases hfx:pM T kt kv es 0 with _|fr;simp[hfx]at he;have h2:=LH hT m w tC hfx;cases fr with
          |none=>simp only[hfx]at he;rcases hi:T.inf et with _|y;simp[hi]at he;obtain⟨y1,y2,z⟩:=y;obtain⟨hz,sE⟩:=G4 hT m w hi;simp only at hz sE;simp[hi]at he;subst he;refine .inr ⟨z,h2,hz, ?_⟩;cases ok<;>simp[aH,aI,sE]
          |some p=>obtain⟨pi,pv⟩:=p;simp[hfx]at he;subst he;refine .inl ⟨pi,aH m pv,h2, ?_⟩;cases ok<;>simp[aH,aI]
        cases r with
        |none=>simp only at h;obtain⟨h1,⟨pi,pv,h2,h3⟩|⟨z,h2,F2,h3⟩⟩:=main [] h;simp only[List.map_nil]at h1 h2;simp only[execOp,k7 ha hx,k7 ha hk,zK,Instr.lookup,gR hT w hd,zJ,aH,zL,h1,h2,h3];simp only[List.map_nil]at h1 h2;simp only[execOp,k7 ha hx,k7 ha hk,zK,Instr.lookup,gR hT w hd,zJ,aH,zL,h1,h2,F2,h3]
        |some r=>simp only at h;rcases hl:lk s.h r with _|blk;simp[hl]at h;rcases blk with x |⟨es,c⟩;simp[hl]at h;simp only[hl]at h;have hb:w.heap[m.blk r]? = some (.map (es.map (eM m)).toArray c):=hf.ok r _ hl;obtain⟨h1,⟨pi,pv,h2,h3⟩|⟨z,h2,F2,h3⟩⟩:=main es h;simp only[execOp,k7 ha hx,k7 ha hk,zK,Instr.lookup,gR hT w hd,zJ,aH,zL,JN hb,h1,h2,h3];simp only[execOp,k7 ha hx,k7 ha hk,zK,Instr.lookup,gR hT w hd,zJ,aH,zL,JN hb,h1,h2,F2,h3]
      |_=> simp[hx]at h
    |_=> simp[hd]at h
  |call c=>
    obtain⟨callee,args,ats⟩:=c;simp only at h;cases callee with
    |builtin b=>
      cases b with
      |len=>
        simp only at h;rcases hx:jK tm args.toList with _|vs;simp[hx]at h;rcases vs with _ |⟨x,_ |⟨y,l⟩⟩;simp[hx]at h;cases x with
        |map r=>
          obtain⟨ats⟩:=ats;rcases ats with _|⟨t,ts⟩;simp[hx]at h;simp only[hx]at h;have e1:=sC ha hx;simp only[aI]at e1;rcases hd:T.und t with _|d;simp[hd]at h;cases d with
          |map kt et=>
            simp only[hd]at h;simp only[execOp,zK,resolve,zL,zJ,invoke,builtin,e1];cases r with
            |none=>simp at h;subst h;simp[Builtin.len_,gR hT w hd,aH,goInt]|some r=>simp only at h;rcases hl:lk s.h r with _|blk;simp[hl]at h;rcases blk with x |⟨es,c⟩;simp[hl]at h;simp only[hl,zA]at h;subst h;have hb:w.heap[m.blk r]? = some (.map (es.map (eM m)).toArray c):=hf.ok r _ hl;simp[Builtin.len_,gR hT w hd,aH,goInt,JN hb]
          |_=> simp[hd]at h
        |_=> simp[hx]at h
        simp[hx]at h
      |_=> simp at h
    |_=> simp at h
  |_=> simp at h
end
end Go.Rx
