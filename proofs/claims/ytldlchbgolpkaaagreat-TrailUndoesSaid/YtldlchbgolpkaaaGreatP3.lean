import Derived.Laws.StructEq
import Derived.Test.YtldlchbgolpkaaaGreatP2
set_option linter.all false
namespace Go.Rx
open Go
structure lF(P:Program)(T:Tb):Prop where
 und:∀t d,T.und t=some d->P.underlying t=some d
 inf:∀t a b z,T.inf t=some (a,b,z)->plain z=true/\∃i,P.info? t=some i/\i.size=a/\i.bytes=b/\i.zero=some z
 fn : ∀ f g, T.fn f = some g → P.funcs[f]? = some g ∧ (g.body.isSome = true → (g.name == "runtime.NumGoroutine") = false)
 eqs:∀t,T.eqs t=true->P.stoodInHeld t=false/\P.eqGuardType P.depth t=false
 mixed:P.follows .mixedOrders=true
theorem iZ{O:Type}(l:List O)(n:Nat):nth l n=l[n]?:=by
 induction l generalizing n with|nil=>simp[nth]|cons a l ih=>cases n<;>simp[nth,ih]
variable{l:List Value}
variable{n:Nat}
variable{r:List Value}
theorem z0z(h:IR l n=some r):r=l.take n/\n<=l.length:=by
 induction l generalizing n r with|nil=>cases n<;>simp_all[IR]|cons v l ih=>cases n with|zero=>simp_all[IR]|succ n=>simp only[IR]at h;rcases hl:IR l n with _|r';simp[hl]at h;simp[hl]at h;obtain⟨e,hn⟩:=ih hl;subst h;simp[e];exact hn
variable{off:Nat}
theorem Ol(h:xK l off n=some r):r=(l.drop off).take n/\n<=l.length-off:=by
 have:=z0z h;simpa using this
theorem aa(h:xK l off n=some r):r.length=n:=by
 obtain⟨rfl,hn⟩:=Ol h;simp;omega
theorem z5j(h:xK l off n=some r){j:Nat}{v:Value}(hj:r[j]? = some v):l[off+j]? = some v:=by
 obtain⟨rfl,hn⟩:=Ol h;rw[List.getElem?_take]at hj;split at hj;simpa using hj;cases hj
theorem z4w{vs:List Value}(h:GL l vs=some r):vs.length<=l.length/\r=vs++l.drop vs.length:=by
 induction vs generalizing l r with|nil=>simp[GL]at h;simp[h]|cons v vs ih=>rcases l with _|⟨x,l⟩;simp[GL]at h;simp only[GL]at h;rcases hp:GL l vs with _|r';simp[hp]at h;simp[hp]at h;obtain⟨e1,e2⟩:=ih hp;subst h;simp[e2];exact e1
theorem qv9{vs:List Value}(h:tZ l off vs=some r):off+vs.length<=l.length/\r=l.take off++vs++l.drop (off+vs.length):=by
 induction off generalizing l r with
 |zero=>
  have h':GL l vs=some r:=by cases l<;>simpa[tZ]using h
  obtain⟨e1,e2⟩:=z4w h';simp[e2];exact e1
 |succ n ih=>
  rcases l with _|⟨x,l⟩;simp[tZ]at h;simp only[tZ]at h;rcases hp:tZ l n vs with _|r';simp[hp]at h;simp[hp]at h;obtain⟨e1,e2⟩:=ih hp;subst h;simp only[zO,List.take_succ_cons,List.cons_append,e2];refine⟨by omega,?_⟩;have:n+1+vs.length=(n+vs.length)+1:=by omega
  rw[this,List.drop_succ_cons]
theorem qzu(h:sW l=true):∀v∈l,v.oneCell'=true:=by
 induction l with|nil=>simp|cons v l ih=>simp only[sW]at h;rcases hv:v.oneCell' with _|_;simp[hv]at h;simp[hv]at h;intro u hu;rcases zI.1 hu with rfl |hu;exact hv;exact ih h u hu
theorem qqt{m:Nm}(h:sW l=true):∀v∈aJ m l,v.oneCell'=true:=by
 intro v hv;rw[mR]at hv;obtain⟨u,hu,rfl⟩:=List.mem_map.1 hv;rw[qwz];exact qzu h u hu
mutual
theorem BQ(m:Nm):(v:Value)->plain v=true->aI m v=v
 |.bool _,_=>by simp[aI]
 |.int _ _,_=>by simp[aI]
 |.string _,_=>by simp[aI]
 |.pointer none,_=>by simp[aI]
 |.slice none _ _,_=>by simp[aI]
 |.map none,_=>by simp[aI]
 |.nilFunc,_=>by simp[aI]
 |.nilIface,_=>by simp[aI]
 |.agg ⟨l⟩,h=>by simp only[plain]at h;simp[aI,nr m l h]
 |.tuple ⟨l⟩,h=>by simp only[plain]at h;simp[aI,nr m l h]
 |.float _ _,h=>by simp[plain]at h
 |.complex _ _ _,h=>by simp[plain]at h
 |.pointer (some _),h=>by simp[plain]at h
 |.slice (some _) _ _,h=>by simp[plain]at h
 |.map (some _),h=>by simp[plain]at h
 |.chan _,h=>by simp[plain]at h
 |.func _ _ _,h=>by simp[plain]at h
 |.iface _ _,h=>by simp[plain]at h
theorem nr(m:Nm):(l:List Value)->S9 l=true->aJ m l=l
 |[],_=>by simp[aJ]
 |v::l,h=>by simp only[S9]at h;rcases hv:plain v with _|_;simp[hv]at h;simp[hv]at h;simp[aJ,BQ m v hv,nr m l h]
end
theorem jx(a b:List UInt8):lG a b=(a==b):=by
 induction a generalizing b with
 |nil=>cases b<;>simp[lG]|cons x a ih=>
  rcases b with _|⟨y,b⟩;simp[lG];simp only[lG,beq_eq,ih];by_cases e:x=y;subst e;simp;have:x.toNat≠y.toNat:=fun h=>e (UInt8.toNat_inj.1 h)
  simp[this,e]
theorem z03(a b:List UInt8):kN a b=Op.bytesLess a b:=by
 induction a generalizing b with
 |nil=>cases b<;>simp[kN,Op.bytesLess]|cons x a ih=>
  rcases b with _|⟨y,b⟩;simp[kN,Op.bytesLess];simp only[kN,Op.bytesLess,ih,beq_eq];have aE:Nat.blt x.toNat y.toNat=decide (x<y):=by rw[Bool.eq_iff_iff];simp[Nat.blt_eq,UInt8.lt_iff_toNat_lt]
  rw[aE];by_cases h1:x<y;simp[h1];by_cases e:x=y;subst e;simp;have:x.toNat≠y.toNat:=fun h=>e (UInt8.toNat_inj.1 h);simp[h1,e,this]
section
variable{P:Program}{T:Tb}(hT:lF P T)(m:Nm){tm:List Value}{a:Act}(w:World)
include hT
variable{t:TypeId}
theorem iG{d:TypeDesc}(h:T.und t=some d):(underlying t).run P w=.ok d w:=run_underlying (hT.und t d h) w
theorem nU(h:cN T t=some n):(sizeOf t).run P w=.ok n w:=by
 unfold cN at h;rcases hi:T.inf t with _|x;simp[hi]at h;obtain⟨a,b,z⟩:=x;simp[hi]at h;obtain⟨_,i,h1,h2,_,_⟩:=hT.inf t a b z hi;simp[sizeOf,typeInfo,h1,h2,h]
theorem J6{x:Nat×Nat×Value}(h:T.inf t=some x):(zeroValue t).run P w=.ok x.2.2 w/\aI m x.2.2=x.2.2:=by
 obtain⟨a,b,z⟩:=x;obtain⟨hp,i,h1,_,_,h4⟩:=hT.inf t a b z h;exact⟨by simp[zeroValue,typeInfo,h1,h4],BQ m z hp⟩
theorem qvy{d:TypeDesc}(h:T.und t=some d):(isAgg t).run P w=.ok (rP d) w:=by
 unfold isAgg;simp only[zK,iG hT w h,zJ];cases d<;>rfl
theorem Om{cs:List Value}{v:Value}(h:GX T t cs off=some v):
  (part t ⟨aJ m cs⟩ off).run P w=.ok (aI m v) w:=by
 unfold GX at h;rcases hd:T.und t with _|d;simp[hd]at h;simp only[hd]at h;unfold part;simp only[zK,qvy hT w hd,zJ];cases hag:rP d with
 |true=>simp only[hag,zC]at h;rcases hs:cN T t with _|n;simp[hs]at h;simp[hs]at h;subst h;simp only[if_true,zK,nU hT w hs,zJ,zL,aI];simp[mR,List.map_drop,List.map_take]
 |false=>simp only[hag,zD,iZ]at h;simp[mR,h]
theorem zav{E:TypeId->Value->Value->Option Bool}{d:Nat}(hE:∀t x y b w,E t x y=some b->(Op.equalIn d t (aI m x) (aI m y)).run P w=.ok b w)
  (xs ys:List Value) (fs:List Field) {b:Bool} (w:World) (h:GC T E xs ys fs=some b):
  (Op.eqFields d ⟨aJ m xs⟩ ⟨aJ m ys⟩ fs).run P w=.ok b w:=by
 induction fs generalizing w with|nil=>simp[GC]at h;simp[Op.eqFields,h]|cons f fs ih=>simp only[GC]at h;simp only[Op.eqFields];split at h;rename_i hn;simp only[hn,ne_eq,not_false_eq_true,if_true];rcases h1:GX T f.type xs f.offset with _|x;simp[h1]at h;simp only[h1]at h;rcases h2:GX T f.type ys f.offset with _|y;simp[h2]at h;simp only[h2]at h;rcases h3:E f.type x y with _|r;simp[h3]at h;simp only[zK,Om hT m w h1,zJ,Om hT m w h2,hE _ _ _ _ w h3];rcases r with _|_;simp[h3]at h;simp[h];simp only[h3]at h;simpa using ih w h;rename_i hn;simp only[hn,if_false];exact ih w h
theorem Dj(d k:Nat){x y:Value}{b:Bool}(w:World)(h:eqv T d t x y=some b):
  (Op.equalIn (d+k) t (aI m x) (aI m y)).run P w=.ok b w:=by
 induction d generalizing t x y b w with
 |zero=>simp[eqv]at h|succ d ih=>
  have JY:d+1+k=(d+k)+1:=by omega
  rw[JY];simp only[eqv]at h;rcases hd:T.und t with _|ty;simp[hd]at h;have hu:=iG hT w hd;cases ty with
  |bool=>simp only[hd]at h;cases x<;>cases y<;>simp at h;subst h;simp[Op.equalIn,hu,aI]|int kk=>simp only[hd]at h;cases x<;>cases y<;>simp at h;obtain⟨rfl,h⟩:=h;simp[Op.equalIn,hu,aI,h]
  |string=>simp only[hd]at h;cases x<;>cases y<;>simp at h;subst h;rename_i s1 s2;simp only[Op.equalIn,zK,hu,aI,zJ,zL,jx];rw[beq_toListBytes,ByteArray.toList_eq,ByteArray.toList_eq]|pointer e=>
   simp only[hd]at h;cases x<;>cases y<;>try simp at h
   rename_i p q;cases p<;>cases q<;>simp at h<;>subst h<;>simp[Op.equalIn,hu,aI]
  |slice e=>
   simp only[hd]at h;cases x<;>cases y<;>try simp at h
   rename_i p _ _ q _ _;cases p<;>cases q<;>simp at h<;>subst h<;>simp[Op.equalIn,hu,aI];rename_i p q _ _;cases p<;>cases q<;>simp at h<;>subst h<;>simp[Op.equalIn,hu,aI]
  |map e e'=>
   simp only[hd]at h;cases x<;>cases y<;>try simp at h
   rename_i p q;cases p<;>cases q<;>simp at h<;>subst h<;>simp[Op.equalIn,hu,aI]
  |struct fs=>
   simp only[hd]at h;cases x<;>cases y<;>simp at h;rename_i xs ys;obtain⟨xs⟩:=xs;obtain⟨ys⟩:=ys;rcases he:T.eqs t with _|_;simp[he]at h;simp only[he,zC]at h;have yW:=hT.und t _ hd;have hfo:P.fieldsOf t=fs:=by simp[Program.fieldsOf,yW]
   simp only[aI,iE];rw[run_equalIn_struct w (d+k) t _ _ (by rw[hfo];exact yW) (hT.eqs t he).1,hfo];exact zav hT m (fun t x y b w hh=>ih w hh) xs ys fs.toList w h
  |_=>simp[hd]at h
end
end Go.Rx
namespace Go.Rx
open Go
variable{m:Nm}
variable{tm:List Value}
variable{a:Act}
variable{v:Value}
theorem kW(ha:a.tmps=⟨aJ m tm⟩){x:Operand}(h:evalO tm x=some v):a.eval x=aI m v:=by
 cases x with
 |tmp t=>simp only[evalO,iZ]at h;simp[Act.eval,ha,mR,h]|const c=>simp only[evalO]at h;rcases hp:plain c with _|_;simp[hp]at h;simp[hp]at h;subst h;simp[Act.eval,BQ m c hp]
 |func f=>simp[evalO]at h;subst h;simp[Act.eval,aI,aJ]|global g=>simp[evalO]at h
theorem z78(ha:a.tmps=⟨aJ m tm⟩){l:List Operand}{vs:List Value}(h:kM tm l=some vs):l.map a.eval=aJ m vs:=by
 induction l generalizing vs with|nil=>simp[kM]at h;subst h;simp[aJ]|cons x l ih=>simp only[kM]at h;rcases hx:evalO tm x with _|v;simp[hx]at h;rcases hl:kM tm l with _|r;simp[hx,hl]at h;simp[hx,hl]at h;subst h;simp[aJ,kW ha hx,ih hl]
theorem uC(ha:a.tmps=⟨aJ m tm⟩){l:Array Operand}{vs:List Value}(h:kM tm l.toList=some vs):l.map a.eval=⟨aJ m vs⟩:=by
 rw[<-z78 ha h];cases l;simp
theorem fm(ha:a.tmps=⟨aJ m tm⟩){l:List (Nat×Operand)}{vs:List (Nat×Value)}(h:IU tm l=some vs):
  l.map (fun p=>(p.1,a.eval p.2))=vs.map (fun p=>(p.1,aI m p.2)):=by
 induction l generalizing vs with|nil=>simp[IU]at h;subst h;simp|cons x l ih=>obtain⟨i,x⟩:=x;simp only[IU]at h;rcases hx:evalO tm x with _|v;simp[hx]at h;rcases hl:IU tm l with _|r;simp[hx,hl]at h;simp[hx,hl]at h;subst h;simp[kW ha hx,ih hl]
theorem OS(ha:a.tmps=⟨aJ m tm⟩){x:Option Operand}{v:Option Value}(h:rO tm x=some v):x.map a.eval=v.map (aI m):=by
 rcases x with _|x;simp[rO]at h;subst h;rfl;simp only[rO]at h;rcases hx:evalO tm x with _|u;simp[hx]at h;simp[hx]at h;subst h;simp[kW ha hx]
theorem qud(op:BinOp)(t:TypeId)(x y:Operand)(u v:Value)(h1 : ∀a b, ¬ (u=.agg a/\v=.agg b))(h2 : ¬ (u=.nilIface/\v=.nilIface)): eqGuard op t x y u v=pure ():=by
  cases op<;>simp only[eqGuard]<;>first
    |rfl
    | (simp only [Bool.not_true, Bool.false_eq_true, if_false]
       split;simp_all;simp_all;rfl)
theorem z5a{c:Array Value}(h:aI m v=.agg c):∃d,v=.agg d:=by
 cases v with
 |pointer a=>cases a<;>simp[aI]at h|slice a n c=>cases a<;>simp[aI]at h
 |map r=>cases r<;>simp[aI]at h|chan r=>cases r<;>simp[aI]at h
 |agg d=>exact⟨d,rfl⟩|_=>simp[aI]at h
theorem qnq(h:aI m v=.nilIface):v=.nilIface:=by
 cases v with
 |pointer a=>cases a<;>simp[aI]at h|slice a n c=>cases a<;>simp[aI]at h
 |map r=>cases r<;>simp[aI]at h|chan r=>cases r<;>simp[aI]at h
 |nilIface=>rfl|_=>simp[aI]at h
theorem z31(off:Nat):∀(vs:List Value)(k:Nat)(cells:List Value),off+k+vs.length<=cells.length->
  (vs.zipIdx k).foldl (fun(cs:Array Value) (p:Value×Nat)=>cs.setIfInBounds (off+p.2) p.1) ⟨cells⟩=⟨cells.take (off+k)++vs++cells.drop (off+k+vs.length)⟩
 |[],k,cells,_=>by simp
 |v::vs,k,cells,h=>by
  simp only[zO]at h;simp only[List.zipIdx_cons,List.foldl_cons,List.setIfInBounds_toArray];rw[z31 off vs (k+1) (cells.set (off+k) v) (by simp;omega)];congr 1;have e1:(cells.set (off+k) v).take (off+(k+1))=cells.take (off+k)++[v]:=by rw[show off+(k+1)=off+k+1 by omega,List.take_set,List.take_succ_eq_append_getElem (by omega)];rw[List.set_append_right _ _ (by simp;omega)];simp[Nat.min_eq_left (show off+k<=cells.length by omega)]
  have e2:(cells.set (off+k) v).drop (off+(k+1)+vs.length)=cells.drop (off+k+(v::vs).length):=by rw[List.drop_set_of_lt (by omega)];congr 1;simp;omega
  rw[e1,e2];simp
theorem Oi(m:Nm)(place:Nat->Option (Nat×Nat)):∀(ps:List (Nat×Value))(cells r:List Value),EX place cells ps=some r->
  Instr.fill place ⟨aJ m cells⟩ (ps.map fun p=>(p.1,aI m p.2))=some ⟨aJ m r⟩
 |[],cells,r,h=>by simp[EX]at h;simp[Instr.fill,h]
 |(i,v)::ps,cells,r,h=>by
  simp only[EX]at h;rcases hp:place i with _|x;simp[hp]at h;obtain⟨off,size⟩:=x;simp only[hp,beq_eq]at h;by_cases hs:v.cells.toList.length=size;simp only[hs,yC,zC]at h;rcases hq:tZ cells off v.cells.toList with _|c;simp[hq]at h;simp only[hq]at h;obtain⟨h1,h2⟩:=qv9 hq;have dR:v.cells.size=size:=by simpa using hs
  simp only[zQ,Instr.fill,hp,jg,EK,dR];have eE:(decide (size≠size)||decide (off+size>(⟨aJ m cells⟩:Array Value).size))=false:=by simp;simp[dR]at h1;omega
  rw[eE];simp only[Bool.false_eq_true,if_false];have Wf:((E7 m v.cells).zipIdx.foldl (fun(cs:Array Value) (p:Value×Nat)=>cs.setIfInBounds (off+p.2) p.1) ⟨aJ m cells⟩)=⟨aJ m c⟩:=by rw[<-Array.foldl_toList,Array.toList_zipIdx,lM,z31 off _ 0 _ (by simp;simpa using h1)];rw[h2];simp[mR,List.map_drop,List.map_take]
  exact(congrArg (fun z=>Instr.fill place z (ps.map fun p=>(p.1,aI m p.2))) Wf).trans (Oi m place ps c r h);simp only[hs,yB,zD]at h;cases h
variable{t:TypeId}
variable{x:Value}
variable{y:Value}
theorem que{T:Tb}{d:Nat}{r:Bool}(h:eqv T d t x y=some r):
  (∃a b,x=.bool a/\y=.bool b)\/(∃k a k' b,x=.int k a/\y=.int k' b)\/(∃a b,x=.string a/\y=.string b)\/(∃a b,x=.pointer a/\y=.pointer b)\/
  (∃a n c b n' c',x=.slice a n c/\y=.slice b n' c')\/(∃a b,x=.map a/\y=.map b)\/(∃a b,x=.agg a/\y=.agg b)\/(∃r n c,x=.chan (some r)/\y=.slice none n c):=by
 cases d with
 |zero=>simp[eqv]at h|succ d=>
  simp only[eqv]at h;rcases hd:T.und t with _|ty;simp[hd]at h;cases ty<;>simp only[hd]at h<;>first
   |(simp at h;done)
   |(cases x<;>cases y<;>first |(simp at h;done)|(simp;done)|(rename_i p q _ _;cases p<;>cases q<;>simp at h ⊢))
section
variable{P:Program}{T:Tb}(hT:lF P T)(m:Nm)(w:World)
include hT
theorem z7g(op:BinOp)(ox oy:Operand)(h:wM T t x y=true):(eqGuard op t ox oy (aI m x) (aI m y)).run P w=.ok () w:=by
 by_cases ha:∃c d,x=.agg c/\y=.agg d;obtain⟨c,d,rfl,rfl⟩:=ha;simp only[wM]at h;simp only[aI];exact run_eqGuard_agg w op t ox oy _ _ (hT.eqs t h).2;rw[qud op t ox oy];rfl;rintro a b ⟨h1,h2⟩;obtain⟨c,rfl⟩:=z5a h1;obtain⟨d,rfl⟩:=z5a h2;exact ha ⟨c,d,rfl,rfl⟩;rintro⟨h1,h2⟩;rw[qnq h1,qnq h2]at h;simp[wM]at h
theorem xv{b:Bool}(h:eqv T 50 t x y=some b):(Op.equal t (aI m x) (aI m y)).run P w=.ok b w :=
 Dj hT m 50 9950 w h
theorem Ef(op:BinOp)(ox oy:Operand)(h:pX T op t x y=some v):
  (do eqGuard op t ox oy (aI m x) (aI m y);binOp op t (aI m x) (aI m y):Sem Value).run P w=.ok (aI m v) w:=by
 by_cases hi:∃k a k' b,x=.int k a/\y=.int k' b
 ·obtain⟨k,a,k',b,rfl,rfl⟩:=hi;simp only[pX]at h;simp only[aI,eqGuard_at_int,zK,zL,zJ];by_cases hk:k=k'
  ·subst hk;cases op<;>simp[kL]at h<;>first
    |(subst h;simp[binOp,Op.intArith,Op.intBits,Op.intCmp,aI];done)
    |(obtain⟨h1,rfl⟩:=h;simp[binOp,Op.intDiv,Op.shift,aI,h1];done)
    |(obtain⟨h1,rfl⟩:=h;simp[binOp,Op.shift,aI];omega)
  cases op<;>simp[kL,hk]at h<;>first
   |(obtain⟨h1,rfl⟩:=h;simp[binOp,Op.shift,aI];omega)
 ·by_cases hs:∃a b,x=.string a/\y=.string b
  ·obtain⟨a,b,rfl,rfl⟩:=hs;simp only[pX]at h;simp only[aI,eqGuard_at_string,zK,zL,zJ];have e1:a.toList=a.data.toList:=ByteArray.toList_eq a;have e2:b.toList=b.data.toList:=ByteArray.toList_eq b;cases op<;>simp[IL]at h<;>first
    |(subst h;simp[binOp,Op.stringOp,aI,e1,e2,jx,z03];done)
    |skip
   obtain⟨h1,rfl⟩:=h;have h2:¬ ((a.size+b.size:Nat):Int)>9223372036854775807:=by have ea:a.size=a.data.size:=rfl;have eb:b.size=b.data.size:=rfl;rw[ea,eb];omega
   simp only[binOp,Op.stringOp,IntKind.max_i64,if_neg h2,zL,aI];have e3:a++b=⟨(a.data.toList++b.data.toList).toArray⟩:=by apply ByteArray.ext;simp
   rw[e3]
  have hb:(op=.eql\/op=.neq)/\wM T t x y=true/\∃r,eqv T 50 t x y=some r/\v=.bool (if op=.eql then r else !r):=by unfold pX at h;split at h;exact absurd ⟨_,_,_,_,rfl,rfl⟩ hi;exact absurd ⟨_,_,rfl,rfl⟩ hs;cases op<;>simp at h;rcases hg:wM T t x y with _|_;simp[hg]at h;rcases he:eqv T 50 t x y with _|r;simp[hg,he]at h;simp[hg,he]at h;subst h;simp;rcases hg:wM T t x y with _|_;simp[hg]at h;rcases he:eqv T 50 t x y with _|r;simp[hg,he]at h;simp[hg,he]at h;subst h;simp
  obtain⟨nV,hg,r,he,rfl⟩:=hb;have hq:=xv hT m w he;simp only[zK,z7g hT m w op ox oy hg,zJ];have gc:=que he;rcases nV with rfl |rfl;have key:binOp .eql t (aI m x) (aI m y)=(do pure (.bool (<-Op.equal t (aI m x) (aI m y))):Sem Value):=by rcases gc with⟨a,b,rfl,rfl⟩|⟨k,a,k',b,rfl,rfl⟩|⟨a,b,rfl,rfl⟩|⟨a,b,rfl,rfl⟩|⟨a,n,c,b,n',c',rfl,rfl⟩|⟨a,b,rfl,rfl⟩|⟨a,b,rfl,rfl⟩|⟨r,n,c,rfl,rfl⟩;simp[aI,binOp];exact absurd ⟨_,_,_,_,rfl,rfl⟩ hi;exact absurd ⟨_,_,rfl,rfl⟩ hs;cases a<;>cases b<;>simp[aI,binOp];cases a<;>cases b<;>simp[aI,binOp];cases a<;>cases b<;>simp[aI,binOp];simp[aI,binOp];simp[aI,binOp]
  rw[key];simp[hq,aI];have key:binOp .neq t (aI m x) (aI m y)=(do pure (.bool (!(<-Op.equal t (aI m x) (aI m y)))):Sem Value):=by rcases gc with⟨a,b,rfl,rfl⟩|⟨k,a,k',b,rfl,rfl⟩|⟨a,b,rfl,rfl⟩|⟨a,b,rfl,rfl⟩|⟨a,n,c,b,n',c',rfl,rfl⟩|⟨a,b,rfl,rfl⟩|⟨a,b,rfl,rfl⟩|⟨r,n,c,rfl,rfl⟩;simp[aI,binOp];exact absurd ⟨_,_,_,_,rfl,rfl⟩ hi;exact absurd ⟨_,_,rfl,rfl⟩ hs;cases a<;>cases b<;>simp[aI,binOp];cases a<;>cases b<;>simp[aI,binOp];cases a<;>cases b<;>simp[aI,binOp];simp[aI,binOp];simp[aI,binOp]
  rw[key];simp[hq,aI]
omit hT in
theorem Mm{op:UnOp}{x v:Value}(h:RI op x=some v):(Op.unary op (aI m x)).run P w=.ok (aI m v) w:=by
 cases op<;>cases x<;>simp[RI]at h<;>subst h<;>simp[Op.unary,aI,Op.intArith,Op.intBits]
theorem zaq{src dst:TypeId}(h:convX T src dst x=some v):(convert src dst (aI m x)).run P w=.ok (aI m v) w:=by
 unfold convX at h;rcases h1:T.und src with _|d1;simp[h1]at h;rcases h2:T.und dst with _|d2;simp[h1,h2]at h;simp only[h1,h2]at h;unfold convert;simp only[zK,iG hT w h1,iG hT w h2,zJ];cases d2<;>cases x<;>simp at h<;>subst h<;>cases d1<;>simp[aI,Conv.intToInt]
theorem z0g(fs:List Field)(hs:J0 T fs=true):(fs.mapM (fun f=>do pure (f.offset,<-sizeOf f.type):Field->Sem (Nat×Nat))).run P w=.ok (fs.map fun f=>(f.offset,(cN T f.type).getD 0)) w:=by
 induction fs with|nil=>simp|cons f fs ih=>simp only[J0]at hs;rcases hf:cN T f.type with _|n;simp[hf]at hs;simp only[hf]at hs;have po:=ih hs;simp only[List.mapM_cons,zK,nU hT w hf,zJ,zL,po,zQ,hf,Option.getD_some]
omit hT in
theorem z0u{fs:List Field}(hs:J0 T fs=true){i:Nat}{f:Field}(hf:fs[i]? = some f):∃n,cN T f.type=some n:=by
 induction fs generalizing i with
 |nil=>simp at hf|cons g fs ih=>
  simp only[J0]at hs;rcases hg:cN T g.type with _|n;simp[hg]at hs;simp only[hg]at hs;cases i with
  |zero=>simp at hf;subst hf;exact⟨n,hg⟩|succ i=>exact ih hs (by simpa using hf)
theorem z6u{ps:List (Nat×Value)}(h:Nv T t ps=some v):
  (Instr.build t (ps.map fun p=>(p.1,aI m p.2)).toArray).run P w=.ok (aI m v) w:=by
 unfold Nv at h;rcases hi:T.inf t with _|x;simp[hi]at h;obtain⟨a,b,z⟩:=x;obtain⟨hz,uG⟩:=J6 hT m w hi;simp only at hz uG;have vX:z.cells=⟨aJ m z.cells.toList⟩:=by
  conv=>lhs;rw[<-uG,jg]
  cases z.cells;simp
 simp only[hi]at h;unfold Instr.build;simp only[zK,hz,zJ];rcases hd:T.und t with _|d;simp[hd]at h;simp only[iG hT w hd,zJ];cases d with
 |struct fs=>
  simp only[hd]at h;rcases hs:J0 T fs.toList with _|_;simp[hs]at h;simp only[hs,zC]at h;rcases hf:EX (MB T fs.toList) z.cells.toList ps with _|cs;simp[hf]at h;simp[hf]at h;subst h;have hm:=z0g hT w fs.toList hs;have dJ:(fs.mapM (fun f=>do pure (f.offset,<-sizeOf f.type):Field->Sem (Nat×Nat))).run P w=.ok ⟨fs.toList.map fun f=>(f.offset,(cN T f.type).getD 0)⟩ w:=by rw[Array.mapM_eq_mapM_toList];simp only[Sem.run_map,hm,zJ]
  have nI:(fun i=>(⟨fs.toList.map fun f=>(f.offset,(cN T f.type).getD 0)⟩:Array (Nat×Nat))[i]?)=MB T fs.toList:=by
   funext i;simp only[MB,iZ];rcases v9:fs.toList[i]? with _|f;simp at v9;simp[v9];obtain⟨n,hn⟩:=z0u hs v9;have:fs[i]? = some f:=by simpa using v9
   simp[this,hn]
  have lT:=Oi m (MB T fs.toList) ps z.cells.toList cs hf;simp only[zK,dJ,zJ,nI];rw[vX];simp only[lT,zL,aI,iE]
 |array n e=>simp only[hd]at h;rcases hs:cN T e with _|k;simp[hs]at h;simp only[hs]at h;rcases hf:EX (fun i=>some (i*k,k)) z.cells.toList ps with _|cs;simp[hf]at h;simp[hf]at h;subst h;have lT:=Oi m (fun i=>some (i*k,k)) ps z.cells.toList cs hf;simp only[zK,nU hT w hs,zJ];rw[vX];simp only[lT,zL,aI,iE]
 |_=>simp[hd]at h
omit hT in
theorem yQ(b o n:Nat):(⟨b,o,none⟩:Addr).add n=⟨b,o+n,none⟩:=Addr.add_lit b o n
theorem z0a{st:TypeId}{f:Nat}(h:Pb T st x f=some v):(Instr.fieldAt st (aI m x) f).run P w=.ok (aI m v) w:=by
 unfold Pb at h;rcases hd:T.und st with _|d;simp[hd]at h;cases d with
 |struct fs=>
  simp only[hd,iZ]at h;rcases hf:fs.toList[f]? with _|fd;simp at hf;simp[hf]at h;have Wj:fs[f]? = some fd:=by simpa using hf
  simp only[hf]at h;cases x with
  |pointer p=>rcases p with _|a;simp at h;simp only at h;rcases hs:cN T fd.type with _|n;simp[hs]at h;cases n with|zero=>simp[hs]at h|succ n=>simp[hs]at h;subst h;simp[Instr.fieldAt,iG hT w hd,Wj,aI,Instr.sureAddr,fieldPlace,nU hT w hs,yQ,Nat.add_assoc]
  |_=>simp at h
 |_=>simp[hd]at h
theorem z7a{st:TypeId}{f:Nat}(h:Ns T st x f=some v):(Instr.field st (aI m x) f).run P w=.ok (aI m v) w:=by
 unfold Ns at h;rcases hd:T.und st with _|d;simp[hd]at h;cases d with
 |struct fs=>
  simp only[hd,iZ]at h;rcases hf:fs.toList[f]? with _|fd;simp at hf;simp[hf]at h;have Wj:fs[f]? = some fd:=by simpa using hf
  simp only[hf]at h;cases x with
  |agg cs=>obtain⟨cs⟩:=cs;simp only at h;simp[Instr.field,iG hT w hd,Wj,aI,asAgg,Om hT m w h]
  |_=>simp at h
 |_=>simp[hd]at h
omit hT in
theorem YH{i:Int}{n:Nat}(h:rW i n=true):0<=i/\i<n:=by
 cases i with|ofNat k=>simp only[rW,Nat.blt_eq]at h;exact⟨Int.natCast_nonneg k,Int.ofNat_lt.2 h⟩|negSucc k=>simp[rW]at h
theorem z0c{ix:Value}(h:Ov T t x ix=some v):(Instr.indexAt t (aI m x) (aI m ix)).run P w=.ok (aI m v) w:=by
 unfold Ov at h;cases ix with
 |int k i=>
  simp only at h;rcases hd:T.und t with _|d;simp[hd]at h;cases d with
  |array n e=>
   simp only[hd]at h;cases x with
   |pointer p=>rcases p with _|a;simp at h;simp only at h;rcases hr:rW i n with _|_;simp[hr]at h;rcases hs:cN T e with _|sz;simp[hr,hs]at h;simp[hr,hs]at h;subst h;have:=YH hr;simp[Instr.indexAt,asIntOf,aI,iG hT w hd,Instr.sureAddr,this,nU hT w hs,yQ,Nat.add_assoc]
   |_=>simp at h
  |slice e=>
   simp only[hd]at h;cases x with
   |slice p n c=>rcases p with _|a;simp at h;simp only at h;rcases hr:rW i n with _|_;simp[hr]at h;rcases hs:cN T e with _|sz;simp[hr,hs]at h;simp[hr,hs]at h;subst h;have:=YH hr;simp[Instr.indexAt,asIntOf,aI,iG hT w hd,this,nU hT w hs,yQ,Nat.add_assoc]
   |_=>simp at h
  |_=>simp[hd]at h
 |_=>simp at h
theorem z7h{ix:Value}(h:Y0 T t x ix=some v):(Instr.index t (aI m x) (aI m ix)).run P w=.ok (aI m v) w:=by
 unfold Y0 at h;cases ix with
 |int k i=>
  simp only at h;rcases hd:T.und t with _|d;simp[hd]at h;cases d with
  |array n e=>
   simp only[hd]at h;cases x with
   |agg cs=>obtain⟨cs⟩:=cs;simp only at h;rcases hr:rW i n with _|_;simp[hr]at h;rcases hs:cN T e with _|sz;simp[hr,hs]at h;simp only[hr,hs,zC]at h;have:=YH hr;simp[Instr.index,asIntOf,aI,iG hT w hd,this,nU hT w hs,Om hT m w h]
   |_=>simp at h
  |string=>
   simp only[hd]at h;cases x with
   |string s=>
    simp only[iZ]at h;rcases hr:rW i s.data.toList.length with _|_;simp only[hr,zD]at h;cases h;simp only[hr,zC]at h;have hi:=YH hr;rcases hb:s.data.toList[i.toNat]? with _|b;simp[hb]at h;simp[hb]at h;subst h;have cU:s[i.toNat]? = some b:=by
     have:s.data[i.toNat]? = some b:=by simpa using hb
     obtain⟨aE,e⟩:=Array.getElem?_eq_some_iff.1 this;have wU:i.toNat<s.size:=aE;rw[getElem?_pos s i.toNat wU];exact congrArg some e
    simp[Instr.index,asIntOf,aI,iG hT w hd,hi.1,cU]
   |_=>simp at h
  |_=>simp[hd]at h
 |_=>simp at h
omit hT in
theorem z08{x v:Value}{i:Nat}(h:Gu x i=some v):(Instr.extract (aI m x) i).run P w=.ok (aI m v) w:=by
 cases x with
 |tuple vs=>obtain⟨vs⟩:=vs;simp only[Gu,iZ]at h;simp[Instr.extract,aI,mR,h]
 |_=>simp[Gu]at h
end
section
variable{P:Program}{T:Tb}(hT:lF P T)(m:Nm)(w:World)
include hT
variable{t:TypeId}
variable{x:Value}
variable{v:Value}
theorem Ae{ty:TypeId}{ts:List TypeId}(h:FK T t x=some v):(Builtin.len_ (t::ts).toArray ty #[aI m x]).run P w=.ok (aI m v) w:=by
 unfold FK at h;rcases hd:T.und t with _|d;simp[hd]at h;simp only[hd]at h;have hu:=iG hT w hd;cases d with
 |string=>cases x<;>simp at h;subst h;rename_i s;simp only[Builtin.len_,List.getElem?_toArray,List.getElem?_cons_zero,zK,hu,zJ,aI,goInt,zL]|slice e=>
  cases x with
  |slice a _ _=>simp only[zA]at h;subst h;cases a<;>simp[Builtin.len_,hu,aI,goInt]|chan r=>rcases r with _|r;simp at h;simp only[zA]at h;subst h;simp[Builtin.len_,hu,aI,goInt]
  |_=>simp at h
 |array n e=>simp at h;subst h;simp[Builtin.len_,hu,aI,goInt]|_=>simp at h
theorem Dz{ty:TypeId}{ts:List TypeId}(h:L9 T t x=some v):(Builtin.cap_ (t::ts).toArray ty #[aI m x]).run P w=.ok (aI m v) w:=by
 unfold L9 at h;rcases hd:T.und t with _|d;simp[hd]at h;simp only[hd]at h;have hu:=iG hT w hd;cases d with
 |slice e=>
  cases x with
  |slice a _ c=>
   cases a with
   |none=>simp only[zA]at h;subst h;simp[Builtin.cap_,hu,aI,goInt]|some a=>
    simp only at h;rcases hc:Nat.blt c bX with _|_;simp[hc]at h;simp only[hc,zC,zA]at h;subst h;have mH:c<bX:=by simpa[Nat.blt_eq]using hc
    simp[Builtin.cap_,hu,aI,goInt,bW,mH]
  |chan r=>rcases r with _|r;simp at h;simp only[zA]at h;subst h;simp[Builtin.cap_,hu,aI,goInt]
  |_=>simp at h
 |_=>simp at h
omit hT in
theorem Ab{x v:Value}{l:List Value}(h:yN S7 x l=some v):((aJ m l).foldlM Builtin.max2 (aI m x)).run P w=.ok (aI m v) w:=by
 induction l generalizing x with
 |nil=>simp[yN]at h;simp[aJ,h]|cons y l ih=>
  simp only[yN]at h;rcases DC:S7 x y with _|z;simp[DC]at h;simp only[DC]at h;have:(Builtin.max2 (aI m x) (aI m y)).run P w=.ok (aI m z) w:=by cases x<;>cases y<;>simp[S7]at DC;subst DC;simp[aI,Builtin.max2]
  simp only[aJ,List.foldlM_cons,zK,this,zJ];exact ih h
omit hT in
theorem ZZ{x v:Value}{l:List Value}(h:yN S6 x l=some v):((aJ m l).foldlM Builtin.min2 (aI m x)).run P w=.ok (aI m v) w:=by
 induction l generalizing x with
 |nil=>simp[yN]at h;simp[aJ,h]|cons y l ih=>
  simp only[yN]at h;rcases DC:S6 x y with _|z;simp[DC]at h;simp only[DC]at h;have:(Builtin.min2 (aI m x) (aI m y)).run P w=.ok (aI m z) w:=by cases x<;>cases y<;>simp[S6]at DC;subst DC;simp[aI,Builtin.min2]
  simp only[aJ,List.foldlM_cons,zK,this,zJ];exact ih h
omit hT in
theorem SK{v:Value}{y n:Nat}(h:jQ v y=some n)(v07:Nat)(hY:y<=v07)(code:BoundsCode):(Instr.sliceBound (aI m v) v07 code).run P w=.ok n w/\n<=y:=by
 cases v with
 |int k i=>
  simp only[jQ]at h;rcases hr:rW i (y+1)with _|_;simp[hr]at h;simp[hr]at h;subst h;have:=YH hr;refine⟨?_,by omega⟩;have h2:0<=i/\i<=(v07:Int):=by omega
  simp[Instr.sliceBound,aI,asIntOf,h2]
 |_=>simp[jQ]at h
omit hT in
theorem OX{isS:Bool}{n c v07:Nat}{lo hi mx:Option Value}{l h M:Nat}(hb:gZ n c lo hi mx=some (l,h,M))(hY:c<=v07):
  (Instr.sliceBounds isS n v07 (lo.map (aI m)) (hi.map (aI m)) (mx.map (aI m))).run P w=.ok (l,h,if mx.isSome then M else v07) w/\l<=h/\(mx.isSome=true->h<=M/\M<=c)/\(mx=none->M=c/\(hi.isSome=true->h<=c)/\(hi=none->h=n)):=by
 unfold gZ at hb;cases mx with
 |some v=>
  simp only at hb;rcases h1:jQ v c with _|M';simp[h1]at hb;simp only[h1]at hb;rcases hi with _|u;simp at hb;simp only at hb;rcases h2:jQ u M' with _|h';simp[h2]at hb;simp only[h2]at hb;have b1:=fun code=>SK (P:=P) m w h1 v07 hY code
  have b2:=fun code=>SK (P:=P) m w h2 M' (zF _) code;cases lo with
  |none=>simp at hb;obtain⟨rfl,rfl,rfl⟩:=hb;have q1:=(b1 .index).2;have q2:=(b2 .index).2;refine⟨?_,by omega,fun _=>⟨q2,q1⟩,by simp⟩;simp[Instr.sliceBounds,(b1 _).1,(b2 _).1]
  |some x=>
   simp only at hb;rcases h3:jQ x h' with _|l';simp[h3]at hb;simp[h3]at hb;obtain⟨rfl,rfl,rfl⟩:=hb;have b3:=fun code=>SK (P:=P) m w h3 h' (zF _) code
   have q1:=(b1 .index).2;have q2:=(b2 .index).2;have q3:=(b3 .index).2;refine⟨?_,q3,fun _=>⟨q2,q1⟩,by simp⟩;simp[Instr.sliceBounds,(b1 _).1,(b2 _).1,(b3 _).1]
 |none=>
  simp only at hb;cases hi with
  |some u=>
   simp only at hb;rcases h2:jQ u c with _|h';simp[h2]at hb;simp only[h2]at hb;have b2:=fun code=>SK (P:=P) m w h2 v07 hY code
   have q2:=(b2 .index).2;cases lo with
   |none=>simp at hb;obtain⟨rfl,rfl,rfl⟩:=hb;refine⟨?_,by omega,by simp,fun _=>⟨rfl,fun _=>q2,by simp⟩⟩;simp[Instr.sliceBounds,(b2 _).1]
   |some x=>
    simp only at hb;rcases h3:jQ x h' with _|l';simp[h3]at hb;simp[h3]at hb;obtain⟨rfl,rfl,rfl⟩:=hb;have b3:=fun code=>SK (P:=P) m w h3 h' (zF _) code
    have q3:=(b3 .index).2;refine⟨?_,q3,by simp,fun _=>⟨rfl,fun _=>q2,by simp⟩⟩;simp[Instr.sliceBounds,(b2 _).1,(b3 _).1]
  |none=>
   simp only at hb;cases lo with
   |none=>simp at hb;obtain⟨rfl,rfl,rfl⟩:=hb;refine⟨?_,by omega,by simp,by simp⟩;simp[Instr.sliceBounds]
   |some x=>
    simp only at hb;rcases h3:jQ x n with _|l';simp[h3]at hb;simp[h3]at hb;obtain⟨rfl,rfl,rfl⟩:=hb;have b3:=fun code=>SK (P:=P) m w h3 n (zF _) code
    have q3:=(b3 .index).2;refine⟨?_,q3,by simp,by simp⟩;simp[Instr.sliceBounds,(b3 _).1]
theorem z8i{lo hi mx:Option Value}(h:nT T t x lo hi mx=some v):
  (Instr.sliceAt t (aI m x) (lo.map (aI m)) (hi.map (aI m)) (mx.map (aI m))).run P w=.ok (aI m v) w:=by
 unfold nT at h;rcases hd:T.und t with _|d;simp[hd]at h;simp only[hd]at h;have hu:=iG hT w hd;cases d with
 |string=>
  cases x with
  |string s=>
   simp only at h;cases mx with
   |some _=>simp at h|none=>
    simp only at h;rcases hb:gZ s.data.toList.length s.data.toList.length lo hi none with _|r;simp only[hb]at h;cases h;obtain⟨l,hh,M⟩:=r;simp only[hb,zA]at h;subst h;obtain⟨h1,_,_,_⟩:=OX (P:=P) (isS:=false) m w hb (zF _);have dR:s.size=s.data.toList.length:=rfl;simp only[Option.map_none]at h1;simp only[Instr.sliceAt,zK,hu,zJ,Instr.slice,aI,Option.map_none,Option.isSome_none,Bool.false_eq_true,if_false,dR,h1,zL];have e3:s.extract l hh=⟨((s.data.toList.take hh).drop l).toArray⟩:=by apply ByteArray.ext;rw[ByteArray.data_extract];apply Array.ext';simp[List.drop_take]
    rw[e3]
  |_=>simp at h
 |slice e=>
  cases x with
  |slice a n c=>
   simp only at h;cases hc:Nat.blt c bX with
   |false=>
    simp only[hc,zD]at h;unfold emptyS at h;rcases a with _|a;simp at h;cases n with
    |succ n=>simp at h|zero=>
     simp only at h;rcases hb:gZ 0 0 lo hi mx with _|r;simp[hb]at h;obtain⟨l,hh,M⟩:=r;simp only[hb]at h;cases l with
     |succ l=>simp at h|zero=>
      cases hh with
      |succ l=>simp at h|zero=>
       cases M with
       |succ l=>simp at h|zero=>
        simp only at h;rcases hs:cN T e with _|sz;simp[hs]at h;simp only[hs,zA]at h;subst h;obtain⟨h1,_,_,_⟩:=OX (P:=P) (isS:=true) (v07:=bW m a.block c) m w hb (Nat.zero_le _);cases mx with
        |none=>simp only[Option.isSome_none,Bool.false_eq_true,if_false]at h1;simp only[Instr.sliceAt,zK,hu,zJ,Instr.slice,aI,h1,nU hT w hs,zL,zM,Nat.zero_mul,Nat.sub_zero,yQ,Nat.add_zero,ite_self]|some vm=>
         simp only[Option.isSome_some,if_true,zM]at h1;have h0:bW m a.block 0=0:=by simp[bW,bX]
         simp only[Instr.sliceAt,zK,hu,zJ,Instr.slice,aI,h1,nU hT w hs,zL,zM,Nat.zero_mul,Nat.sub_zero,yQ,Nat.add_zero,ite_self,h0]
   |true=>
    simp only[hc,zC]at h;have mH:c<bX:=by simpa[Nat.blt_eq]using hc
    rcases hb:gZ n c lo hi mx with _|r;simp[hb]at h;obtain⟨l,hh,M⟩:=r;simp only[hb]at h;rcases hs:cN T e with _|sz;simp[hs]at h;simp only[hs,zA]at h;subst h;have gW:∀i,bW m i c=c:=fun i=>by simp[bW,mH]
    obtain⟨h1,h2,h3,h4⟩:=OX (P:=P) (isS:=true) (v07:=c) m w hb (zF _);have hM:(if mx.isSome then M else c)=M:=by rcases mx with _|v;simp[(h4 rfl).1];simp
    rw[hM]at h1;have KM:M-l<bX:=by rcases mx with _|v;have:=(h4 rfl).1;omega;have:=(h3 rfl).2;omega
    cases a with|none=>simp only[Instr.sliceAt,zK,hu,zJ,Instr.slice,aI,h1,nU hT w hs,zL,beq_eq];by_cases e:M=l<;>simp[e,aI]|some a=>simp only[Instr.sliceAt,zK,hu,zJ,Instr.slice,aI,gW,h1,nU hT w hs,zL,beq_eq];by_cases e:M=l;simp[e,aI,bW,bX];simp[e,aI,bW,KM,yQ,Nat.add_assoc]
  |chan r=>
   rcases r with _|r;simp at h;simp only at h;rcases hb:gZ 0 0 lo hi mx with _|q;simp[hb]at h;obtain⟨l,hh,M⟩:=q;simp only[hb]at h;rcases hs:cN T e with _|sz;simp[hs]at h;simp only[hs,zA]at h;subst h;obtain⟨h1,h2,h3,h4⟩:=OX (P:=P) (isS:=true) (v07:=0) m w hb (zF _);have hz:l=0/\hh=0/\M=0:=by
    cases mx with
    |none=>obtain⟨q1,q2,q3⟩:=h4 rfl;rcases hi with _|v;have:=q3 rfl;omega;have:=q2 rfl;omega
    |some v=>have:=h3 rfl;omega
   obtain⟨rfl,rfl,rfl⟩:=hz;simp only[ite_self]at h1;simp only[Instr.sliceAt,zK,hu,zJ,Instr.slice,aI,h1,nU hT w hs,zL,if_true,Nat.sub_zero]
  |_=>simp at h
 |array n e=>
  cases x with
  |pointer p=>
   rcases p with _|a;simp at h;simp only at h;rcases hb:gZ n n lo hi mx with _|r;simp only[hb]at h;cases h;obtain⟨l,hh,M⟩:=r;simp only[hb]at h;rcases hs:cN T e with _|sz;simp[hs]at h;simp only[hs]at h;rcases hn:Nat.blt n bX with _|_;simp[hn]at h;simp only[hn,zC,zA]at h;subst h;have z0:n<bX:=by simpa[Nat.blt_eq]using hn
   obtain⟨h1,h2,h3,h4⟩:=OX (P:=P) (isS:=false) (v07:=n) m w hb (zF _);have hM:(if mx.isSome then M else n)=M:=by rcases mx with _|v;simp[(h4 rfl).1];simp
   rw[hM]at h1;have KM:M-l<bX:=by rcases mx with _|v;have:=(h4 rfl).1;omega;have:=(h3 rfl).2;omega
   simp only[Instr.sliceAt,zK,hu,zJ,Instr.sureAddr,aI,h1,nU hT w hs,zL,beq_eq];by_cases e:M=l;simp[e,bW,bX];simp[e,bW,KM,yQ,Nat.add_assoc]
  |_=>simp at h
 |_=>simp at h
theorem zbi{tm:List Value}{a:Act}(ha:a.tmps=⟨aJ m tm⟩)(o:Oper)(h:iV T tm o.op=some v):(execOp a.eval o).run P w=.ok (.value (aI m v)) w:=by
 obtain⟨dst,op,type,pos,after,guard⟩:=o;simp only at h;unfold iV at h;cases op with
 |move x=>simp only at h;simp[execOp,kW ha h]|assign x=>simp only at h;simp[execOp,kW ha h]
 |pick c x y=>
  simp only at h;rcases hc:evalO tm c with _|cv;simp[hc]at h;cases cv with
  |bool b=>rcases b with _|_;simp only[hc]at h;simp[execOp,kW ha hc,kW ha h,aI,asBool];simp only[hc]at h;simp[execOp,kW ha hc,kW ha h,aI,asBool]
  |_=>simp[hc]at h
 |build t ps=>
  simp only at h;rcases hp:IU tm ps.toList with _|qs;simp[hp]at h;simp only[hp]at h;have e1:(ps.map fun x=>(x.1,a.eval x.2))=(qs.map fun p=>(p.1,aI m p.2)).toArray:=by rw[<-fm ha hp];cases ps;simp
  have:=z6u hT m w h;rw[<-e1]at this;simp only[execOp,zK];rw[this];rfl
 |nilCheck x=>
  simp only at h;rcases hx:evalO tm x with _|u;simp[hx]at h;have he:=kW ha hx;cases u with
  |pointer p=>rcases p with _|q;simp[hx]at h;simp[hx]at h;subst h;simp[execOp,he,aI]
  |func fn x y=>cases fn with|func f=>simp[hx]at h;subst h;simp[execOp,he,aI]|_=>simp[hx]at h
  |_=>simp[hx]at h
 |binOp op t x y ty=>simp only at h;rcases hx:evalO tm x with _|u;simp[hx]at h;rcases hy:evalO tm y with _|u';simp[hx,hy]at h;simp only[hx,hy]at h;have:=Ef hT m w op x y h;simp only[execOp,kW ha hx,kW ha hy];rw[zK,this];rfl
 |unOp op t x=>simp only at h;rcases hx:evalO tm x with _|u;simp[hx]at h;simp only[hx]at h;simp[execOp,kW ha hx,Mm m w h]
 |convert s d x=>simp only at h;rcases hx:evalO tm x with _|u;simp[hx]at h;simp only[hx]at h;simp[execOp,kW ha hx,zaq hT m w h]
 |makeFunc fn first cap=>
  simp only at h;rcases hx:kM tm first.toList with _|u
  simp[hx]at h;rcases hy:kM tm cap.toList with _|u';simp[hx,hy]at h;simp only[hx,hy,zA]at h;subst h;simp[execOp,uC ha hx,uC ha hy,Instr.makeFunc,aI]
 |slice t x lo hi mx=>simp only at h;rcases hx:evalO tm x with _|u;simp[hx]at h;rcases h1:rO tm lo with _|l;simp[hx,h1]at h;rcases h2:rO tm hi with _|hh;simp[hx,h1,h2]at h;rcases h3:rO tm mx with _|mm;simp[hx,h1,h2,h3]at h;simp only[hx,h1,h2,h3]at h;have:=z8i hT m w h;simp only[execOp,kW ha hx,OS ha h1,OS ha h2,OS ha h3];rw[zK,this];rfl
 |fieldAddr t x f=>simp only at h;rcases hx:evalO tm x with _|u;simp[hx]at h;simp only[hx]at h;simp[execOp,kW ha hx,z0a hT m w h]
 |field t x f=>simp only at h;rcases hx:evalO tm x with _|u;simp[hx]at h;simp only[hx]at h;simp[execOp,kW ha hx,z7a hT m w h]
 |indexAddr t x i=>simp only at h;rcases hx:evalO tm x with _|u;simp[hx]at h;rcases hy:evalO tm i with _|u';simp[hx,hy]at h;simp only[hx,hy]at h;simp[execOp,kW ha hx,kW ha hy,z0c hT m w h]
 |index t x i=>simp only at h;rcases hx:evalO tm x with _|u;simp[hx]at h;rcases hy:evalO tm i with _|u';simp[hx,hy]at h;simp only[hx,hy]at h;simp[execOp,kW ha hx,kW ha hy,z7h hT m w h]
 |extract x i=>simp only at h;rcases hx:evalO tm x with _|u;simp[hx]at h;simp only[hx]at h;simp[execOp,kW ha hx,z08 m w h]
 |call c=>
  obtain⟨callee,args,ats⟩:=c;simp only at h;cases callee with
  |builtin b=>
   cases b with
   |len=>simp only at h;rcases hx:kM tm args.toList with _|vs;simp[hx]at h;rcases vs with _ |⟨x,_ |⟨y,l⟩⟩;simp[hx]at h;obtain⟨ats⟩:=ats;rcases ats with _|⟨t,ts⟩;simp[hx]at h;simp only[hx]at h;have e1:=uC ha hx;simp only[aJ]at e1;have:=Ae hT m w (ty:=type) (ts:=ts) h;simp only[execOp,zK,resolve,zL,zJ,invoke,builtin,e1];rw[this];rfl;simp[hx]at h
   |cap=>simp only at h;rcases hx:kM tm args.toList with _|vs;simp[hx]at h;rcases vs with _ |⟨x,_ |⟨y,l⟩⟩;simp[hx]at h;obtain⟨ats⟩:=ats;rcases ats with _|⟨t,ts⟩;simp[hx]at h;simp only[hx]at h;have e1:=uC ha hx;simp only[aJ]at e1;have:=Dz hT m w (ty:=type) (ts:=ts) h;simp only[execOp,zK,resolve,zL,zJ,invoke,builtin,e1];rw[this];rfl;simp[hx]at h
   |max=>simp only at h;rcases hx:kM tm args.toList with _|vs;simp[hx]at h;rcases vs with _|⟨x,l⟩;simp[hx]at h;simp only[hx]at h;have e1:=uC ha hx;simp only[aJ]at e1;have:=Ab (P:=P) m w h;simp only[execOp,zK,resolve,zL,zJ,invoke,builtin,e1,Builtin.max_];rw[this];rfl
   |min=>simp only at h;rcases hx:kM tm args.toList with _|vs;simp[hx]at h;rcases vs with _|⟨x,l⟩;simp[hx]at h;simp only[hx]at h;have e1:=uC ha hx;simp only[aJ]at e1;have:=ZZ (P:=P) m w h;simp only[execOp,zK,resolve,zL,zJ,invoke,builtin,e1,Builtin.min_];rw[this];rfl
   |_=>simp at h
  |_=>simp at h
 |_=>simp at h
end
theorem D7.cell{m:Nm}{i:Nat}{l:List Value}{e:TypeId}{w:World}{md:Nat}(h:D7 m i l e w md){j:Nat}{v:Value}(hj:l[j]? = some v):
  w.cell? ⟨m.blk i,m.sh i+j,none⟩=some (aI m v):=by
 have aE:j<l.length:=(zG.1 hj).1;rcases md with _ |_ |n;obtain⟨h0,h1⟩:=h;simp[World.cell?,h1,h0,mR,hj];obtain⟨c,e',fr,h1,h2,_⟩:=h;simp[World.cell?,h1,h2 j v hj];obtain⟨pr,rest,h1,h2,_⟩:=h;simp only[World.cell?,h1,Option.isSome_none,Bool.false_eq_true,if_false,List.getElem?_toArray,zT,<-h2];rw[List.getElem?_append_right (by omega),Nat.add_sub_cancel_left,List.getElem?_append_left (by simpa using aE)];simp[mR,hj]
theorem MN{P:Program}{w:World}{r:Nat}{es:Array MapEntry}{c:Nat}(h:w.heap[r]? = some (.map es c)):(getObj r).run P w=.ok (.map es c) w:=by
 simp[getObj,Sem.run,h]
variable{s:S}
theorem kq{i:Nat}{l:List Value}{e:TypeId}{md:Nat}(h:cV s i=some (l,e,md)):lk s.h i=some (.inl (l,e,md))/\md≠1:=by
 unfold cV at h;rcases hl:lk s.h i with _|b;simp[hl]at h;rcases b with⟨l',e',md'⟩|⟨es,c⟩;rcases md' with _ |_ |n<;>simp[hl]at h<;>obtain⟨rfl,rfl,rfl⟩:=h<;>simp;simp[hl]at h
theorem Pq{a b:Nat}(h:Nat.blt a b=false):¬ a<b:=fun aE=>by
 have:Nat.blt a b=true:=Nat.ble_eq_true_of_le aE;rw[this]at h;cases h
theorem J8{a b:Nat}(h:Nat.blt a b=true):a<b:=zY h
theorem z0x(c b k:Nat)(h:b<=c):c+k-b=c-b+k:=by omega
theorem qxu{c:Nat}(h:bX<=c)(k:Nat):bQ (c+k)=bQ c+k:=z0x c bX k h
section
variable{P:Program}{T:Tb}(hT:lF P T)(m:Nm)(w:World)
include hT
variable{t:TypeId}
variable{v:Value}
theorem Oh(hf:Fits m s w){i off:Nat}{l:List Value}{e:TypeId}{md:Nat}(hl:lk s.h i=some (.inl (l,e,md)))
  (h:(match T.und t with
    |none=>none|some d=>cond (rP d) (match cN T t with
      |some n=>match xK l off n with
       |some cs=>some (Value.agg cs.toArray)|none=>none
      |none=>none) (nth l off))=some v):
  (loadVar t ⟨m.blk i,m.sh i+off,none⟩).run P w=.ok (aI m v) w:=by
 have hr:D7 m i l e w md:=hf.ok i _ hl;rcases hd:T.und t with _|d;simp[hd]at h;simp only[hd]at h;unfold loadVar;simp only[zK,qvy hT w hd,zJ];cases hag:rP d with
 |true=>
  simp only[hag,zC]at h;rcases hs:cN T t with _|n;simp[hs]at h;simp only[hs]at h;rcases hg:xK l off n with _|cs;simp[hg]at h;simp only[hg,zA]at h;subst h;have b7:(aJ m cs).length=n:=by rw[yT];exact aa hg
  have:=run_loadCells_list (P:=P) w ⟨m.blk i,m.sh i+off,none⟩ (aJ m cs) (fun j u hu=>by rw[mR,List.getElem?_map]at hu;rcases hc:cs[j]? with _|u';simp[hc]at hu;simp[hc]at hu;subst hu;rw[yQ,Nat.add_assoc];exact hr.cell (z5j hg hc));rw[b7]at this;simp[nU hT w hs,this,aI]
 |false=>simp only[hag,zD,iZ]at h;have:=hr.cell h;simp[this]
theorem z7j{K:TypeId->Value->Bool}{d:Nat}{b:Bool}(hK:∀t v w,K t v=true->(Instr.checkKey b d t (aI m v)).run P w=.ok () w)(cs:List Value)(fs:List Field)(h:Ld T K cs fs=true):
  (forIn fs PUnit.unit (fun f _=>
    if f.name ≠ "_" then (do
     let x <-part f.type ⟨aJ m cs⟩ f.offset
     Instr.checkKey b d f.type x
     pure (ForInStep.yield PUnit.unit))
    else pure (ForInStep.yield PUnit.unit)):Sem PUnit).run P w=.ok PUnit.unit w:=by
 induction fs with|nil=>simp|cons f fs ih=>simp only[Ld]at h;simp only[List.forIn_cons];split at h;rename_i hn;rcases hp:GX T f.type cs f.offset with _|v;simp[hp]at h;simp only[hp]at h;rcases hk:K f.type v with _|_;simp[hk]at h;simp only[hk,zC]at h;have h1:=Om hT m w hp;have h2:=hK f.type v w hk;simp only[hn,ne_eq,not_false_eq_true,if_true,zK,h1,zJ,h2,zL];exact ih h;rename_i hn;simp only[hn,if_false,zK,zL,zJ];exact ih h
theorem Nr(b:Bool)(d k:Nat)(w:World)(h:oL T d t v=true):(Instr.checkKey b (d+k) t (aI m v)).run P w=.ok () w:=by
 induction d generalizing t v w with
 |zero=>simp[oL]at h|succ d ih=>
  have JY:d+1+k=(d+k)+1:=by omega
  rw[JY];simp only[oL]at h;rcases hd:T.und t with _|ty;simp[hd]at h;have hu:=iG hT w hd;cases ty with
  |int kk=>simp[Instr.checkKey,hu]|string=>simp[Instr.checkKey,hu]
  |bool=>simp[Instr.checkKey,hu]|struct fs=>
   simp only[hd]at h;cases v with
   |agg cs=>obtain⟨cs⟩:=cs;simp only at h;have:=z7j hT m w (b:=b) (d:=d+k) (fun t v w hk=>ih w hk) cs fs.toList h;simp only[Instr.checkKey,zK,hu,zJ,aI,iE];rw[<-Array.forIn_toList,this];rfl
   |_=>simp at h
  |_=>simp[hd]at h
theorem z1u{kt:TypeId}{k:Value}(es:List MapEntry)(i:Nat){r:Option (Nat×Value)}(h:qR T kt k es i=some r):
  (Instr.findAsking kt (aI m k) (es.map (eX m)) i).run P w=.ok (r.map fun p=>(p.1,aI m p.2)) w:=by
 induction es generalizing i with|nil=>simp[qR]at h;subst h;simp[Instr.findAsking]|cons e es ih=>simp only[qR]at h;rcases he:eqv T 50 kt k e.key with _|b;simp[he]at h;have hq:=xv hT m w he;rcases b with _|_;simp only[he]at h;simpa[Instr.findAsking,eX,hq]using ih (i+1) h;simp[he]at h;subst h;simp[Instr.findAsking,eX,hq]
omit hT in
theorem ZY{kt:TypeId}{d:TypeDesc}(hd:T.und kt=some d){k:Value}(es:List MapEntry)(i:Nat){r r':Option (Nat×Value)}(h:qR T kt k es i=some r)
  (h':Instr.findNow d (aI m k) (es.map (eX m)) i=some r'):r'=r.map fun p=>(p.1,aI m p.2):=by
 induction es generalizing i with
 |nil=>simp[qR]at h;subst h;simp[Instr.findNow]at h';simp[<-h']|cons e es ih=>
  simp only[qR]at h;simp only[zQ,Instr.findNow]at h';rcases he:eqv T 50 kt k e.key with _|b;simp[he]at h;have key:∀b',Instr.sameNow d (aI m k) (eX m e).key=some b'->b'=b:=by intro b' cU;simp only[eX]at cU;rcases que he with⟨x,y,hx,hy⟩|⟨kk,x,k',y,hx,hy⟩|⟨x,y,hx,hy⟩|⟨x,y,hx,hy⟩|⟨x,n,c,y,n',c',hx,hy⟩|⟨x,y,hx,hy⟩|⟨x,y,hx,hy⟩|⟨x,n,c,hx,hy⟩;rw[hx,hy]at cU he;cases d<;>simp[Instr.sameNow,aI]at cU;simp[eqv,hd]at he;exact cU.symm.trans he;rw[hx,hy]at cU he;cases d<;>simp[Instr.sameNow,aI]at cU;simp[eqv,hd]at he;exact cU.2.symm.trans he.2;rw[hx,hy]at cU he;cases d<;>simp[Instr.sameNow,aI]at cU;simp[eqv,hd]at he;rw[<-cU,<-he,jx,beq_toListBytes,ByteArray.toList_eq,ByteArray.toList_eq];rw[hx,hy]at cU;cases x<;>cases y<;>cases d<;>simp[Instr.sameNow,aI]at cU;rw[hx,hy]at cU;cases x<;>cases y<;>cases d<;>simp[Instr.sameNow,aI]at cU;rw[hx,hy]at cU;cases x<;>cases y<;>cases d<;>simp[Instr.sameNow,aI]at cU;rw[hx,hy]at cU;cases d<;>simp[Instr.sameNow,aI]at cU;rw[hx,hy]at cU;cases d<;>simp[Instr.sameNow,aI]at cU
  rcases hsn:Instr.sameNow d (aI m k) (eX m e).key with _|b';simp[hsn]at h';have:=key b' hsn;subst this;rcases b' with _|_;simp only[he]at h;simp only[hsn]at h';exact ih (i+1) h h';simp[he]at h;subst h;simp[hsn]at h';simp[<-h',eX]
theorem OO{kt:TypeId}{d:TypeDesc}(hd:T.und kt=some d){k:Value}{es:List MapEntry}{r:Option (Nat×Value)}(h:qR T kt k es 0=some r):
  (Instr.findKey kt (aI m k) (es.map (eX m))).run P w=.ok (r.map fun p=>(p.1,aI m p.2)) w:=by
 unfold Instr.findKey;simp only[zK,iG hT w hd,zJ];rcases hn:Instr.findNow d (aI m k) (es.map (eX m)) 0 with _|r';exact z1u hT m w es 0 h;simp[ZY m hd es 0 h hn]
omit hT in
theorem xq{d:Nat}{kt:TypeId}{v:Value}(h:oL T d kt v=true):∃ty,T.und kt=some ty:=by
 cases d with|zero=>simp[oL]at h|succ d=>simp only[oL]at h;rcases hd:T.und kt with _|ty;simp[hd]at h;exact⟨ty,rfl⟩
omit hT in
theorem ol{s:S}{i sz:Nat}{l:List Value}(h:EY s i sz=some l):∃e md,lk s.h i=some (.inl (l,e,md))/\(md=1/\e=sz+1\/md=sz+2):=by
 unfold EY at h;rcases hl:lk s.h i with _|b;simp[hl]at h;rcases b with⟨l',e',md'⟩|⟨es,c⟩;rcases md' with _ |_ |n;simp[hl]at h;simp only[hl,beq_eq]at h;by_cases he:e'=sz+1;simp only[he,yC,zC,zA]at h;subst h;exact⟨_,_,rfl,.inl ⟨rfl,he⟩⟩;simp[he]at h;simp only[hl,beq_eq]at h;by_cases he:n=sz;simp only[he,yC,zC,zA]at h;subst h;exact⟨_,_,rfl,.inr (by rw[he])⟩;simp[he]at h;simp[hl]at h
omit hT in
theorem xj{s:S}(hf:Fits m s w){i c sz:Nat}{l:List Value}(hl:EY s i (sz+1)=some l){off n:Nat}(ho:off=bQ c*(sz+1))(hn:off+n*(sz+1)<=l.length):n+bQ c<=m.cp i:=by
 obtain⟨e,md,hl,qE⟩:=ol hl;have h3:l.length<=m.cp i*(sz+1):=by rcases qE with⟨rfl,rfl⟩|rfl;obtain⟨_,_,_,_,_,h3⟩:=hf.ok i _ hl;exact h3 _ rfl;obtain⟨pr,rest,_,_,h3⟩:=hf.ok i _ hl;omega
 have:(n+bQ c)*(sz+1)<=m.cp i*(sz+1):=by rw[Nat.add_mul];omega
 exact Nat.le_of_mul_le_mul_right this (by omega)
theorem z5m(hf:Fits m s w){x:Value}{lo hi mx:Option Value}(h:H3 T s t x lo hi mx=some v):
  (Instr.sliceAt t (aI m x) (lo.map (aI m)) (hi.map (aI m)) (mx.map (aI m))).run P w=.ok (aI m v) w:=by
 unfold H3 at h;rcases hd:T.und t with _|dd;simp[hd]at h;cases dd with
 |slice e=>
  cases x with
  |slice p n c=>
   rcases p with _|a;simp[hd]at h;simp only[hd]at h;cases hc:Nat.blt c bX with
   |true=>simp[hc]at h|false=>
    have mH:¬ c<bX:=Pq hc;simp only[hc,zD]at h;rcases hs:cN T e with _|sz;simp[hs]at h;simp only[hs]at h;rcases hr:EY s a.block sz with _|l;simp[hr]at h;simp only[hr,beq_eq]at h;by_cases eH:a.off=bQ c*sz;rw[decide_eq_true eH]at h;simp only[zC]at h;rcases fC:Nat.blt 0 sz with _|_;simp[fC]at h;have tF:0<sz:=J8 fC;simp only[fC,zC]at h;obtain⟨sz,rfl⟩:∃q,sz=q+1:=⟨sz-1,by omega⟩;obtain⟨_,_,N6,_⟩:=ol hr;have hl:=hr;have gO:=hf.bd _ _ N6;have uK:aI m (.slice (some a) n c)=.slice (some ⟨m.blk a.block,m.sh a.block+a.off,none⟩) n (m.cp a.block-bQ c):=by simp[aI,bW,mH]
    have CA:(l.length-a.off)/(sz+1)<=m.cp a.block-bQ c:=by
     rcases Nat.eq_zero_or_pos ((l.length-a.off)/(sz+1))with h0 |hp;omega;have rY:=Nat.div_mul_le_self (l.length-a.off) (sz+1);have wW:a.off<=l.length:=by rcases Nat.lt_or_ge l.length a.off with aE |wW;rw[show l.length-a.off=0 by omega]at hp;simp at hp;exact wW
     have:=xj m w hf (c:=c) (n:=(l.length-a.off)/(sz+1)) (off:=a.off) hl eH (by omega);omega
    have hu:=iG hT w hd;cases mx with
    |some vm=>
     simp only at h;rcases xB:jQ vm ((l.length-a.off)/(sz+1))with _|M0;simp[xB]at h;simp only[xB]at h;rcases pM:Nat.ble (a.off+M0*(sz+1)) l.length with _|_;simp[pM]at h;simp only[pM,zC]at h;rcases hb:gZ n M0 lo hi (some vm)with _|q;simp[hb]at h;obtain⟨l1,hh,M⟩:=q;simp only[hb]at h;rcases hMc:Nat.blt M bX with _|_;simp[hMc]at h;simp only[hMc,zC,zA]at h;subst h;have Cg:M<bX:=J8 hMc;have hM0:M0<=m.cp a.block-bQ c:=by have:=(SK (P:=P) m w xB _ (zF _) .index).2;omega
     obtain⟨b1,b2,b3,_⟩:=OX (P:=P) (isS:=true) m w hb hM0;simp only[Option.isSome_some,if_true,zM]at b1;have KM:M-l1<bX:=Nat.lt_of_le_of_lt (Nat.sub_le _ _) Cg;have cW:(Instr.sliceAt t (aI m (.slice (some a) n c)) (lo.map (aI m)) (hi.map (aI m)) ((some vm).map (aI m))).run P w=.ok (.slice (if M=l1 then some ⟨m.blk a.block,m.sh a.block+a.off,none⟩else some ⟨m.blk a.block,m.sh a.block+a.off+l1*(sz+1),none⟩) (hh-l1) (M-l1)) w:=by rw[uK];simp only[Instr.sliceAt,zK,hu,zJ,Instr.slice,b1,nU hT w hs,zL,zM,yQ]
     rw[cW];by_cases CG:M=l1;rw[CG]at KM ⊢;simp only[yC,zC,aI,if_true,bW,if_pos KM];simp only[decide_eq_false CG,zD,aI,if_neg CG,bW,if_pos KM,Nat.add_assoc]
    |none=>
     simp only at h;rcases hb:gZ n ((l.length-a.off)/(sz+1)) lo hi none with _|q;simp[hb]at h;obtain⟨l1,hh,M⟩:=q;simp only[hb]at h;rcases pM:Nat.ble (a.off+hh*(sz+1)) l.length with _|_;simp[pM]at h;simp only[pM,zC]at h;have Bq:a.off+hh*(sz+1)<=l.length:=zY pM;have hhC:=xj m w hf (c:=c) (n:=hh) (off:=a.off) hl eH Bq;obtain⟨b1,b2,_,b4⟩:=OX (P:=P) (isS:=true) m w hb CA;simp only[Option.isSome_none,Bool.false_eq_true,if_false]at b1;have cW:(Instr.sliceAt t (aI m (.slice (some a) n c)) (lo.map (aI m)) (hi.map (aI m)) ((none:Option Value).map (aI m))).run P w=.ok (.slice (if m.cp a.block-bQ c=l1 then some ⟨m.blk a.block,m.sh a.block+a.off,none⟩else some ⟨m.blk a.block,m.sh a.block+a.off+l1*(sz+1),none⟩) (hh-l1) (m.cp a.block-bQ c-l1)) w:=by rw[uK];simp only[Instr.sliceAt,zK,hu,zJ,Instr.slice,b1,nU hT w hs,zL,zM,yQ]
     cases l1 with
     |zero=>simp only[zA]at h;subst h;rw[Nat.sub_zero,Nat.sub_zero,Nat.zero_mul,Nat.add_zero]at cW;by_cases hC:m.cp a.block-bQ c=0;rw[if_pos hC]at cW;rw[cW];simp only[aI,bW,if_neg mH];rw[if_neg hC]at cW;rw[cW];simp only[aI,bW,if_neg mH]|succ l1=>
      simp only at h;rcases aE:Nat.blt (l1+1) hh with _|_;simp[aE]at h;have wU:l1+1<hh:=J8 aE;simp only[aE,zC,zA]at h;subst h;have cZ:¬ m.cp a.block-bQ c=l1+1:=by omega
      have v7:¬ c+(l1+1)<bX:=fun hh=>mH (Nat.lt_of_le_of_lt (Nat.le_add_right _ _) hh);have B7:bQ (c+(l1+1))=bQ c+(l1+1):=qxu (Nat.le_of_not_lt mH) _;rw[cW];simp only[aI,bW,if_neg v7,if_neg cZ,B7,Nat.add_assoc,Nat.sub_sub]
    rw[decide_eq_false eH]at h;simp at h
  |_=>simp[hd]at h
 |_=>simp[hd]at h
theorem ww(hf:Fits m s w){tm:List Value}{a:Act}(ha:a.tmps=⟨aJ m tm⟩)(o:Oper)(h:nR T tm s o.op=some v): (execOp a.eval o).run P w=.ok (.value (aI m v)) w:=by
  obtain⟨dst,op,type,pos,after,guard⟩:=o;simp only at h;unfold nR at h;cases op with
  |load t x=>
    simp only at h;rcases hx:evalO tm x with _|u;simp[hx]at h;cases u with
    |pointer p=>rcases p with _|b;simp[hx]at h;simp only[hx]at h;rcases hl:lk s.h b.block with _|blk;simp[hl]at h;rcases blk with⟨l,e,md⟩|⟨es,c⟩;simp only[hl]at h;have:=Oh hT m w hf hl h;simp[execOp,kW ha hx,aI,Instr.loadAt,Instr.sureAddr,this];simp[hl]at h
    |_=> simp[hx]at h
  |slice t x lo hi mx=>simp only at h;rcases hx:evalO tm x with _|u;simp[hx]at h;rcases h1:rO tm lo with _|l;simp[hx,h1]at h;rcases h2:rO tm hi with _|hh;simp[hx,h1,h2]at h;rcases h3:rO tm mx with _|mm;simp[hx,h1,h2,h3]at h;simp only[hx,h1,h2,h3]at h;have:=z5m hT m w hf h;simp only[execOp,kW ha hx,OS ha h1,OS ha h2,OS ha h3];rw[zK,this];rfl
  |lookup t x k ok=>
    simp only at h;rcases hd:T.und t with _|d;simp[hd]at h;cases d with
    |map kt et=>
      simp only[hd]at h;rcases hx:evalO tm x with _|u;simp[hx]at h;cases u with
      |map r=>
        simp only[hx]at h;rcases hk:evalO tm k with _|kv;simp[hk]at h;simp only[hk]at h;rcases qW:oL T 50 kt kv with _|_;simp[qW]at h;simp only[qW,zC]at h;obtain⟨ty,oT⟩:=xq qW;have main : ∀ es : List MapEntry, (match qR T kt kv es 0 with
              |none=> none|some (some (_,v))=> some (cond ok (.tuple #[v, .bool true]) v)
              |some none=> match T.inf et with
                |some (_,_,z)=> some (cond ok (.tuple #[z, .bool false]) z)|none=> none)=some v->
            (Instr.checkKey (es.map (eX m)).toArray.isEmpty 10000 kt (aI m kv)).run P w=.ok () w/\
            ((∃pi pv,(Instr.findKey kt (aI m kv) (es.map (eX m))).run P w=.ok (some (pi,pv)) w/\aI m v=if ok=true then Value.tuple #[pv, .bool true]else pv)\/
             (∃z,(Instr.findKey kt (aI m kv) (es.map (eX m))).run P w=.ok none w/\(zeroValue et).run P w=.ok z w/\aI m v=if ok=true then Value.tuple #[z, .bool false]else z)):=by
          intro es he;refine⟨Nr hT m _ 50 9950 w qW, ?_⟩;rcases hfx:qR T kt kv es 0 with _|fr;simp[hfx]at he;have h2:=OO hT m w oT hfx;cases fr with
          |none=>simp only[hfx]at he;rcases hi:T.inf et with _|y;simp[hi]at he;obtain⟨y1,y2,z⟩:=y;obtain⟨hz,uG⟩:=J6 hT m w hi;simp only at hz uG;simp[hi]at he;subst he;refine .inr ⟨z,h2,hz, ?_⟩;cases ok<;>simp[aI,aJ,uG]
          |some p=>obtain⟨pi,pv⟩:=p;simp[hfx]at he;subst he;refine .inl ⟨pi,aI m pv,h2, ?_⟩;cases ok<;>simp[aI,aJ]
        cases r with
        |none=>simp only at h;obtain⟨h1,⟨pi,pv,h2,h3⟩|⟨z,h2,HP,h3⟩⟩:=main [] h;simp only[List.map_nil]at h1 h2;simp only[execOp,kW ha hx,kW ha hk,zK,Instr.lookup,iG hT w hd,zJ,aI,zL,h1,h2,h3];simp only[List.map_nil]at h1 h2;simp only[execOp,kW ha hx,kW ha hk,zK,Instr.lookup,iG hT w hd,zJ,aI,zL,h1,h2,HP,h3]
        |some r=>simp only at h;rcases hl:lk s.h r with _|blk;simp[hl]at h;rcases blk with x |⟨es,c⟩;simp[hl]at h;simp only[hl]at h;have hb:w.heap[m.blk r]? = some (.map (es.map (eX m)).toArray c):=hf.ok r _ hl;obtain⟨h1,⟨pi,pv,h2,h3⟩|⟨z,h2,HP,h3⟩⟩:=main es h;simp only[execOp,kW ha hx,kW ha hk,zK,Instr.lookup,iG hT w hd,zJ,aI,zL,MN hb,h1,h2,h3];simp only[execOp,kW ha hx,kW ha hk,zK,Instr.lookup,iG hT w hd,zJ,aI,zL,MN hb,h1,h2,HP,h3]
      |_=> simp[hx]at h
    |_=> simp[hd]at h
  |call c=>
    obtain⟨callee,args,ats⟩:=c;simp only at h;cases callee with
    |builtin b=>
      cases b with
      |len=>
        simp only at h;rcases hx:kM tm args.toList with _|vs;simp[hx]at h;rcases vs with _ |⟨x,_ |⟨y,l⟩⟩;simp[hx]at h;cases x with
        |map r=>
          obtain⟨ats⟩:=ats;rcases ats with _|⟨t,ts⟩;simp[hx]at h;simp only[hx]at h;have e1:=uC ha hx;simp only[aJ]at e1;rcases hd:T.und t with _|d;simp[hd]at h;cases d with
          |map kt et=>
            simp only[hd]at h;simp only[execOp,zK,resolve,zL,zJ,invoke,builtin,e1];cases r with
            |none=>simp at h;subst h;simp[Builtin.len_,iG hT w hd,aI,goInt]|some r=>simp only at h;rcases hl:lk s.h r with _|blk;simp[hl]at h;rcases blk with x |⟨es,c⟩;simp[hl]at h;simp only[hl,zA]at h;subst h;have hb:w.heap[m.blk r]? = some (.map (es.map (eX m)).toArray c):=hf.ok r _ hl;simp[Builtin.len_,iG hT w hd,aI,goInt,MN hb]
          |_=> simp[hd]at h
        |_=> simp[hx]at h
        simp[hx]at h
      |_=> simp at h
    |_=> simp at h
  |_=> simp at h
end
end Go.Rx
