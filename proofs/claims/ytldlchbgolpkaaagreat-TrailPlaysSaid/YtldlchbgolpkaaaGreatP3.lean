import Derived.Laws.StructEq
import Derived.Test.YtldlchbgolpkaaaGreatP2
set_option linter.all false
namespace Go.Rx
open Go
structure iW(P:Program)(T:Tb):Prop where
 und:∀t d,T.und t=some d->P.underlying t=some d
 inf:∀t a b z,T.inf t=some (a,b,z)->plain z=true/\∃i,P.info? t=some i/\i.size=a/\i.bytes=b/\i.zero=some z
 fn : ∀ f g, T.fn f = some g → P.funcs[f]? = some g ∧ (g.body.isSome = true → (g.name == "runtime.NumGoroutine") = false)
 eqs:∀t,T.eqs t=true->P.stoodInHeld t=false/\P.eqGuardType P.depth t=false
 mixed:P.follows .mixedOrders=true
theorem gG{α:Type}(l:List α)(n:Nat):nth l n=l[n]?:=by
 induction l generalizing n with|nil=>simp[nth]|cons a l ih=>cases n<;>simp[nth,ih]
variable{l:List Value}
variable{n:Nat}
variable{r:List Value}
theorem z0a(h:BA l n=some r):r=l.take n/\n<=l.length:=by
 induction l generalizing n r with|nil=>cases n<;>simp_all[BA]|cons v l ih=>cases n with|zero=>simp_all[BA]|succ n=>simp only[BA]at h;rcases hl:BA l n with _|r';simp[hl]at h;simp[hl]at h;obtain⟨e,hn⟩:=ih hl;subst h;simp[e];exact hn
variable{off:Nat}
theorem ZY(h:rP l off n=some r):r=(l.drop off).take n/\n<=l.length-off:=by
 have:=z0a h;simpa using this
theorem Vp(h:rP l off n=some r):r.length=n:=by
 obtain⟨rfl,hn⟩:=ZY h;simp;omega
theorem yw(h:rP l off n=some r){j:Nat}{v:Value}(hj:r[j]? = some v):l[off+j]? = some v:=by
 obtain⟨rfl,hn⟩:=ZY h;rw[List.getElem?_take]at hj;split at hj;simpa using hj;cases hj
theorem z44{vs:List Value}(h:yJ l vs=some r):vs.length<=l.length/\r=vs++l.drop vs.length:=by
 induction vs generalizing l r with|nil=>simp[yJ]at h;simp[h]|cons v vs ih=>rcases l with _|⟨x,l⟩;simp[yJ]at h;simp only[yJ]at h;rcases hp:yJ l vs with _|r';simp[hp]at h;simp[hp]at h;obtain⟨e1,e2⟩:=ih hp;subst h;simp[e2];exact e1
theorem ei{vs:List Value}(h:oY l off vs=some r):off+vs.length<=l.length/\r=l.take off++vs++l.drop (off+vs.length):=by
 induction off generalizing l r with
 |zero=>
  have h':yJ l vs=some r:=by cases l<;>simpa[oY]using h
  obtain⟨e1,e2⟩:=z44 h';simp[e2];exact e1
 |succ n ih=>
  rcases l with _|⟨x,l⟩;simp[oY]at h;simp only[oY]at h;rcases hp:oY l n vs with _|r';simp[hp]at h;simp[hp]at h;obtain⟨e1,e2⟩:=ih hp;subst h;simp only[zO,List.take_succ_cons,List.cons_append,e2];refine⟨by omega,?_⟩;have:n+1+vs.length=(n+vs.length)+1:=by omega
  rw[this,List.drop_succ_cons]
theorem qz5(h:oM l=true):∀v∈l,v.oneCell'=true:=by
 induction l with|nil=>simp|cons v l ih=>simp only[oM]at h;rcases hv:v.oneCell' with _|_;simp[hv]at h;simp[hv]at h;intro u hu;rcases zI.1 hu with rfl |hu;exact hv;exact ih h u hu
theorem qqa{m:Nm}(h:oM l=true):∀v∈aE m l,v.oneCell'=true:=by
 intro v hv;rw[jX]at hv;obtain⟨u,hu,rfl⟩:=List.mem_map.1 hv;rw[qwd];exact qz5 h u hu
mutual
theorem uU(m:Nm):(v:Value)->plain v=true->aD m v=v
 |.bool _,_=>by simp[aD]
 |.int _ _,_=>by simp[aD]
 |.string _,_=>by simp[aD]
 |.pointer none,_=>by simp[aD]
 |.slice none _ _,_=>by simp[aD]
 |.map none,_=>by simp[aD]
 |.nilFunc,_=>by simp[aD]
 |.nilIface,_=>by simp[aD]
 |.agg ⟨l⟩,h=>by simp only[plain]at h;simp[aD,Yn m l h]
 |.tuple ⟨l⟩,h=>by simp only[plain]at h;simp[aD,Yn m l h]
 |.float _ _,h=>by simp[plain]at h
 |.complex _ _ _,h=>by simp[plain]at h
 |.pointer (some _),h=>by simp[plain]at h
 |.slice (some _) _ _,h=>by simp[plain]at h
 |.map (some _),h=>by simp[plain]at h
 |.chan _,h=>by simp[plain]at h
 |.func _ _ _,h=>by simp[plain]at h
 |.iface _ _,h=>by simp[plain]at h
theorem Yn(m:Nm):(l:List Value)->JR l=true->aE m l=l
 |[],_=>by simp[aE]
 |v::l,h=>by simp only[JR]at h;rcases hv:plain v with _|_;simp[hv]at h;simp[hv]at h;simp[aE,uU m v hv,Yn m l h]
end
theorem Nu(a b:List UInt8):iX a b=(a==b):=by
 induction a generalizing b with
 |nil=>cases b<;>simp[iX]|cons x a ih=>
  rcases b with _|⟨y,b⟩;simp[iX];simp only[iX,beq_eq,ih];by_cases e:x=y;subst e;simp;have:x.toNat≠y.toNat:=fun h=>e (UInt8.toNat_inj.1 h)
  simp[this,e]
theorem qze(a b:List UInt8):iI a b=Op.bytesLess a b:=by
 induction a generalizing b with
 |nil=>cases b<;>simp[iI,Op.bytesLess]|cons x a ih=>
  rcases b with _|⟨y,b⟩;simp[iI,Op.bytesLess];simp only[iI,Op.bytesLess,ih,beq_eq];have hlt:Nat.blt x.toNat y.toNat=decide (x<y):=by rw[Bool.eq_iff_iff];simp[Nat.blt_eq,UInt8.lt_iff_toNat_lt]
  rw[hlt];by_cases h1:x<y;simp[h1];by_cases e:x=y;subst e;simp;have:x.toNat≠y.toNat:=fun h=>e (UInt8.toNat_inj.1 h);simp[h1,e,this]
section
variable{P:Program}{T:Tb}(hT:iW P T)(m:Nm){tm:List Value}{a:Act}(w:World)
include hT
variable{t:TypeId}
theorem fS{d:TypeDesc}(h:T.und t=some d):(underlying t).run P w=.ok d w:=run_underlying (hT.und t d h) w
theorem kS(h:bZ T t=some n):(sizeOf t).run P w=.ok n w:=by
 unfold bZ at h;rcases hi:T.inf t with _|x;simp[hi]at h;obtain⟨a,b,z⟩:=x;simp[hi]at h;obtain⟨_,i,h1,h2,_,_⟩:=hT.inf t a b z hi;simp[sizeOf,typeInfo,h1,h2,h]
theorem BT{x:Nat×Nat×Value}(h:T.inf t=some x):(zeroValue t).run P w=.ok x.2.2 w/\aD m x.2.2=x.2.2:=by
 obtain⟨a,b,z⟩:=x;obtain⟨hp,i,h1,_,_,h4⟩:=hT.inf t a b z h;exact⟨by simp[zeroValue,typeInfo,h1,h4],uU m z hp⟩
theorem cy{d:TypeDesc}(h:T.und t=some d):(isAgg t).run P w=.ok (nZ d) w:=by
 unfold isAgg;simp only[zK,fS hT w h,zJ];cases d<;>rfl
theorem ZZ{cs:List Value}{v:Value}(h:yW T t cs off=some v):
  (part t ⟨aE m cs⟩ off).run P w=.ok (aD m v) w:=by
 unfold yW at h;rcases hd:T.und t with _|d;simp[hd]at h;simp only[hd]at h;unfold part;simp only[zK,cy hT w hd,zJ];cases hag:nZ d with
 |true=>simp only[hag,zC]at h;rcases hs:bZ T t with _|n;simp[hs]at h;simp[hs]at h;subst h;simp only[if_true,zK,kS hT w hs,zJ,zL,aD];simp[jX,List.map_drop,List.map_take]
 |false=>simp only[hag,zD,gG]at h;simp[jX,h]
theorem za7{E:TypeId->Value->Value->Option Bool}{d:Nat}(hE:∀t x y b w,E t x y=some b->(Op.equalIn d t (aD m x) (aD m y)).run P w=.ok b w)
  (xs ys:List Value) (fs:List Field) {b:Bool} (w:World) (h:y6 T E xs ys fs=some b):
  (Op.eqFields d ⟨aE m xs⟩ ⟨aE m ys⟩ fs).run P w=.ok b w:=by
 induction fs generalizing w with|nil=>simp[y6]at h;simp[Op.eqFields,h]|cons f fs ih=>simp only[y6]at h;simp only[Op.eqFields];split at h;rename_i hn;simp only[hn,ne_eq,not_false_eq_true,if_true];rcases h1:yW T f.type xs f.offset with _|x;simp[h1]at h;simp only[h1]at h;rcases h2:yW T f.type ys f.offset with _|y;simp[h2]at h;simp only[h2]at h;rcases h3:E f.type x y with _|r;simp[h3]at h;simp only[zK,ZZ hT m w h1,zJ,ZZ hT m w h2,hE _ _ _ _ w h3];rcases r with _|_;simp[h3]at h;simp[h];simp only[h3]at h;simpa using ih w h;rename_i hn;simp only[hn,if_false];exact ih w h
theorem SN(d k:Nat){x y:Value}{b:Bool}(w:World)(h:eqv T d t x y=some b):
  (Op.equalIn (d+k) t (aD m x) (aD m y)).run P w=.ok b w:=by
 induction d generalizing t x y b w with
 |zero=>simp[eqv]at h|succ d ih=>
  have hsucc:d+1+k=(d+k)+1:=by omega
  rw[hsucc];simp only[eqv]at h;rcases hd:T.und t with _|ty;simp[hd]at h;have hu:=fS hT w hd;cases ty with
  |bool=>simp only[hd]at h;cases x<;>cases y<;>simp at h;subst h;simp[Op.equalIn,hu,aD]|int kk=>simp only[hd]at h;cases x<;>cases y<;>simp at h;obtain⟨rfl,h⟩:=h;simp[Op.equalIn,hu,aD,h]
  |string=>simp only[hd]at h;cases x<;>cases y<;>simp at h;subst h;rename_i s1 s2;simp only[Op.equalIn,zK,hu,aD,zJ,zL,Nu];rw[beq_toListBytes,ByteArray.toList_eq,ByteArray.toList_eq]|pointer e=>
   simp only[hd]at h;cases x<;>cases y<;>try simp at h
   rename_i p q;cases p<;>cases q<;>simp at h<;>subst h<;>simp[Op.equalIn,hu,aD]
  |slice e=>
   simp only[hd]at h;cases x<;>cases y<;>try simp at h
   rename_i p _ _ q _ _;cases p<;>cases q<;>simp at h<;>subst h<;>simp[Op.equalIn,hu,aD];rename_i p q _ _;cases p<;>cases q<;>simp at h<;>subst h<;>simp[Op.equalIn,hu,aD]
  |map e e'=>
   simp only[hd]at h;cases x<;>cases y<;>try simp at h
   rename_i p q;cases p<;>cases q<;>simp at h<;>subst h<;>simp[Op.equalIn,hu,aD]
  |struct fs=>
   simp only[hd]at h;cases x<;>cases y<;>simp at h;rename_i xs ys;obtain⟨xs⟩:=xs;obtain⟨ys⟩:=ys;rcases he:T.eqs t with _|_;simp[he]at h;simp only[he,zC]at h;have hund:=hT.und t _ hd;have hfo:P.fieldsOf t=fs:=by simp[Program.fieldsOf,hund]
   simp only[aD,fQ];rw[run_equalIn_struct w (d+k) t _ _ (by rw[hfo];exact hund) (hT.eqs t he).1,hfo];exact za7 hT m (fun t x y b w hh=>ih w hh) xs ys fs.toList w h
  |_=>simp[hd]at h
end
end Go.Rx
namespace Go.Rx
open Go
variable{m:Nm}
variable{tm:List Value}
variable{a:Act}
variable{v:Value}
theorem iQ(ha:a.tmps=⟨aE m tm⟩){x:Operand}(h:evalO tm x=some v):a.eval x=aD m v:=by
 cases x with
 |tmp t=>simp only[evalO,gG]at h;simp[Act.eval,ha,jX,h]|const c=>simp only[evalO]at h;rcases hp:plain c with _|_;simp[hp]at h;simp[hp]at h;subst h;simp[Act.eval,uU m c hp]
 |func f=>simp[evalO]at h;subst h;simp[Act.eval,aD,aE]|global g=>simp[evalO]at h
theorem z6l(ha:a.tmps=⟨aE m tm⟩){l:List Operand}{vs:List Value}(h:iH tm l=some vs):l.map a.eval=aE m vs:=by
 induction l generalizing vs with|nil=>simp[iH]at h;subst h;simp[aE]|cons x l ih=>simp only[iH]at h;rcases hx:evalO tm x with _|v;simp[hx]at h;rcases hl:iH tm l with _|r;simp[hx,hl]at h;simp[hx,hl]at h;subst h;simp[aE,iQ ha hx,ih hl]
theorem pH(ha:a.tmps=⟨aE m tm⟩){l:Array Operand}{vs:List Value}(h:iH tm l.toList=some vs):l.map a.eval=⟨aE m vs⟩:=by
 rw[<-z6l ha h];cases l;simp
theorem Xg(ha:a.tmps=⟨aE m tm⟩){l:List (Nat×Operand)}{vs:List (Nat×Value)}(h:BE tm l=some vs):
  l.map (fun p=>(p.1,a.eval p.2))=vs.map (fun p=>(p.1,aD m p.2)):=by
 induction l generalizing vs with|nil=>simp[BE]at h;subst h;simp|cons x l ih=>obtain⟨i,x⟩:=x;simp only[BE]at h;rcases hx:evalO tm x with _|v;simp[hx]at h;rcases hl:BE tm l with _|r;simp[hx,hl]at h;simp[hx,hl]at h;subst h;simp[iQ ha hx,ih hl]
theorem GZ(ha:a.tmps=⟨aE m tm⟩){x:Option Operand}{v:Option Value}(h:nX tm x=some v):x.map a.eval=v.map (aD m):=by
 rcases x with _|x;simp[nX]at h;subst h;rfl;simp only[nX]at h;rcases hx:evalO tm x with _|u;simp[hx]at h;simp[hx]at h;subst h;simp[iQ ha hx]
theorem qtv(op:BinOp)(t:TypeId)(x y:Operand)(u v:Value)(h1 : ∀a b, ¬ (u=.agg a/\v=.agg b))(h2 : ¬ (u=.nilIface/\v=.nilIface)): eqGuard op t x y u v=pure ():=by
  cases op<;>simp only[eqGuard]<;>first
    |rfl
    | (simp only [Bool.not_true, Bool.false_eq_true, if_false]
       split;simp_all;simp_all;rfl)
theorem lg{c:Array Value}(h:aD m v=.agg c):∃d,v=.agg d:=by
 cases v with
 |pointer a=>cases a<;>simp[aD]at h|slice a n c=>cases a<;>simp[aD]at h
 |map r=>cases r<;>simp[aD]at h|chan r=>cases r<;>simp[aD]at h
 |agg d=>exact⟨d,rfl⟩|_=>simp[aD]at h
theorem qn8(h:aD m v=.nilIface):v=.nilIface:=by
 cases v with
 |pointer a=>cases a<;>simp[aD]at h|slice a n c=>cases a<;>simp[aD]at h
 |map r=>cases r<;>simp[aD]at h|chan r=>cases r<;>simp[aD]at h
 |nilIface=>rfl|_=>simp[aD]at h
theorem uq(off:Nat):∀(vs:List Value)(k:Nat)(cells:List Value),off+k+vs.length<=cells.length->
  (vs.zipIdx k).foldl (fun(cs:Array Value) (p:Value×Nat)=>cs.setIfInBounds (off+p.2) p.1) ⟨cells⟩=⟨cells.take (off+k)++vs++cells.drop (off+k+vs.length)⟩
 |[],k,cells,_=>by simp
 |v::vs,k,cells,h=>by
  simp only[zO]at h;simp only[List.zipIdx_cons,List.foldl_cons,List.setIfInBounds_toArray];rw[uq off vs (k+1) (cells.set (off+k) v) (by simp;omega)];congr 1;have e1:(cells.set (off+k) v).take (off+(k+1))=cells.take (off+k)++[v]:=by rw[show off+(k+1)=off+k+1 by omega,List.take_set,List.take_succ_eq_append_getElem (by omega)];rw[List.set_append_right _ _ (by simp;omega)];simp[Nat.min_eq_left (show off+k<=cells.length by omega)]
  have e2:(cells.set (off+k) v).drop (off+(k+1)+vs.length)=cells.drop (off+k+(v::vs).length):=by rw[List.drop_set_of_lt (by omega)];congr 1;simp;omega
  rw[e1,e2];simp
theorem ZV(m:Nm)(place:Nat->Option (Nat×Nat)):∀(ps:List (Nat×Value))(cells r:List Value),xB place cells ps=some r->
  Instr.fill place ⟨aE m cells⟩ (ps.map fun p=>(p.1,aD m p.2))=some ⟨aE m r⟩
 |[],cells,r,h=>by simp[xB]at h;simp[Instr.fill,h]
 |(i,v)::ps,cells,r,h=>by
  simp only[xB]at h;rcases hp:place i with _|x;simp[hp]at h;obtain⟨off,size⟩:=x;simp only[hp,beq_eq]at h;by_cases hs:v.cells.toList.length=size;simp only[hs,yC,zC]at h;rcases hq:oY cells off v.cells.toList with _|c;simp[hq]at h;simp only[hq]at h;obtain⟨h1,h2⟩:=ei hq;have hsz:v.cells.size=size:=by simpa using hs
  simp only[zQ,Instr.fill,hp,Nc,wN,hsz];have hno:(decide (size≠size)||decide (off+size>(⟨aE m cells⟩:Array Value).size))=false:=by simp;simp[hsz]at h1;omega
  rw[hno];simp only[Bool.false_eq_true,if_false];have hfold:((wI m v.cells).zipIdx.foldl (fun(cs:Array Value) (p:Value×Nat)=>cs.setIfInBounds (off+p.2) p.1) ⟨aE m cells⟩)=⟨aE m c⟩:=by rw[<-Array.foldl_toList,Array.toList_zipIdx,j5,uq off _ 0 _ (by simp;simpa using h1)];rw[h2];simp[jX,List.map_drop,List.map_take]
  exact(congrArg (fun z=>Instr.fill place z (ps.map fun p=>(p.1,aD m p.2))) hfold).trans (ZV m place ps c r h);simp only[hs,yB,zD]at h;cases h
variable{t:TypeId}
variable{x:Value}
variable{y:Value}
theorem tz{T:Tb}{d:Nat}{r:Bool}(h:eqv T d t x y=some r):
  (∃a b,x=.bool a/\y=.bool b)\/(∃k a k' b,x=.int k a/\y=.int k' b)\/(∃a b,x=.string a/\y=.string b)\/(∃a b,x=.pointer a/\y=.pointer b)\/
  (∃a n c b n' c',x=.slice a n c/\y=.slice b n' c')\/(∃a b,x=.map a/\y=.map b)\/(∃a b,x=.agg a/\y=.agg b)\/(∃r n c,x=.chan (some r)/\y=.slice none n c):=by
 cases d with
 |zero=>simp[eqv]at h|succ d=>
  simp only[eqv]at h;rcases hd:T.und t with _|ty;simp[hd]at h;cases ty<;>simp only[hd]at h<;>first
   |(simp at h;done)
   |(cases x<;>cases y<;>first |(simp at h;done)|(simp;done)|(rename_i p q _ _;cases p<;>cases q<;>simp at h ⊢))
section
variable{P:Program}{T:Tb}(hT:iW P T)(m:Nm)(w:World)
include hT
theorem z6t(op:BinOp)(ox oy:Operand)(h:rF T t x y=true):(eqGuard op t ox oy (aD m x) (aD m y)).run P w=.ok () w:=by
 by_cases ha:∃c d,x=.agg c/\y=.agg d;obtain⟨c,d,rfl,rfl⟩:=ha;simp only[rF]at h;simp only[aD];exact run_eqGuard_agg w op t ox oy _ _ (hT.eqs t h).2;rw[qtv op t ox oy];rfl;rintro a b ⟨h1,h2⟩;obtain⟨c,rfl⟩:=lg h1;obtain⟨d,rfl⟩:=lg h2;exact ha ⟨c,d,rfl,rfl⟩;rintro⟨h1,h2⟩;rw[qn8 h1,qn8 h2]at h;simp[rF]at h
theorem Ms{b:Bool}(h:eqv T 50 t x y=some b):(Op.equal t (aD m x) (aD m y)).run P w=.ok b w :=
 SN hT m 50 9950 w h
theorem T8(op:BinOp)(ox oy:Operand)(h:mT T op t x y=some v):
  (do eqGuard op t ox oy (aD m x) (aD m y);binOp op t (aD m x) (aD m y):Sem Value).run P w=.ok (aD m v) w:=by
 by_cases hi:∃k a k' b,x=.int k a/\y=.int k' b
 ·obtain⟨k,a,k',b,rfl,rfl⟩:=hi;simp only[mT]at h;simp only[aD,eqGuard_at_int,zK,zL,zJ];by_cases hk:k=k'
  ·subst hk;cases op<;>simp[iG]at h<;>first
    |(subst h;simp[binOp,Op.intArith,Op.intBits,Op.intCmp,aD];done)
    |(obtain⟨h1,rfl⟩:=h;simp[binOp,Op.intDiv,Op.shift,aD,h1];done)
    |(obtain⟨h1,rfl⟩:=h;simp[binOp,Op.shift,aD];omega)
  cases op<;>simp[iG,hk]at h<;>first
   |(obtain⟨h1,rfl⟩:=h;simp[binOp,Op.shift,aD];omega)
 ·by_cases hs:∃a b,x=.string a/\y=.string b
  ·obtain⟨a,b,rfl,rfl⟩:=hs;simp only[mT]at h;simp only[aD,eqGuard_at_string,zK,zL,zJ];have e1:a.toList=a.data.toList:=ByteArray.toList_eq a;have e2:b.toList=b.data.toList:=ByteArray.toList_eq b;cases op<;>simp[B5]at h<;>first
    |(subst h;simp[binOp,Op.stringOp,aD,e1,e2,Nu,qze];done)
    |skip
   obtain⟨h1,rfl⟩:=h;have h2:¬ ((a.size+b.size:Nat):Int)>9223372036854775807:=by have ea:a.size=a.data.size:=rfl;have eb:b.size=b.data.size:=rfl;rw[ea,eb];omega
   simp only[binOp,Op.stringOp,IntKind.max_i64,if_neg h2,zL,aD];have e3:a++b=⟨(a.data.toList++b.data.toList).toArray⟩:=by apply ByteArray.ext;simp
   rw[e3]
  have hb:(op=.eql\/op=.neq)/\rF T t x y=true/\∃r,eqv T 50 t x y=some r/\v=.bool (if op=.eql then r else !r):=by unfold mT at h;split at h;exact absurd ⟨_,_,_,_,rfl,rfl⟩ hi;exact absurd ⟨_,_,rfl,rfl⟩ hs;cases op<;>simp at h;rcases hg:rF T t x y with _|_;simp[hg]at h;rcases he:eqv T 50 t x y with _|r;simp[hg,he]at h;simp[hg,he]at h;subst h;simp;rcases hg:rF T t x y with _|_;simp[hg]at h;rcases he:eqv T 50 t x y with _|r;simp[hg,he]at h;simp[hg,he]at h;subst h;simp
  obtain⟨hop,hg,r,he,rfl⟩:=hb;have hq:=Ms hT m w he;simp only[zK,z6t hT m w op ox oy hg,zJ];have hsh:=tz he;rcases hop with rfl |rfl;have key:binOp .eql t (aD m x) (aD m y)=(do pure (.bool (<-Op.equal t (aD m x) (aD m y))):Sem Value):=by rcases hsh with⟨a,b,rfl,rfl⟩|⟨k,a,k',b,rfl,rfl⟩|⟨a,b,rfl,rfl⟩|⟨a,b,rfl,rfl⟩|⟨a,n,c,b,n',c',rfl,rfl⟩|⟨a,b,rfl,rfl⟩|⟨a,b,rfl,rfl⟩|⟨r,n,c,rfl,rfl⟩;simp[aD,binOp];exact absurd ⟨_,_,_,_,rfl,rfl⟩ hi;exact absurd ⟨_,_,rfl,rfl⟩ hs;cases a<;>cases b<;>simp[aD,binOp];cases a<;>cases b<;>simp[aD,binOp];cases a<;>cases b<;>simp[aD,binOp];simp[aD,binOp];simp[aD,binOp]
  rw[key];simp[hq,aD];have key:binOp .neq t (aD m x) (aD m y)=(do pure (.bool (!(<-Op.equal t (aD m x) (aD m y)))):Sem Value):=by rcases hsh with⟨a,b,rfl,rfl⟩|⟨k,a,k',b,rfl,rfl⟩|⟨a,b,rfl,rfl⟩|⟨a,b,rfl,rfl⟩|⟨a,n,c,b,n',c',rfl,rfl⟩|⟨a,b,rfl,rfl⟩|⟨a,b,rfl,rfl⟩|⟨r,n,c,rfl,rfl⟩;simp[aD,binOp];exact absurd ⟨_,_,_,_,rfl,rfl⟩ hi;exact absurd ⟨_,_,rfl,rfl⟩ hs;cases a<;>cases b<;>simp[aD,binOp];cases a<;>cases b<;>simp[aD,binOp];cases a<;>cases b<;>simp[aD,binOp];simp[aD,binOp];simp[aD,binOp]
  rw[key];simp[hq,aD]
omit hT in
theorem YM{op:UnOp}{x v:Value}(h:J4 op x=some v):(Op.unary op (aD m x)).run P w=.ok (aD m v) w:=by
 cases op<;>cases x<;>simp[J4]at h<;>subst h<;>simp[Op.unary,aD,Op.intArith,Op.intBits]
theorem za2{src dst:TypeId}(h:convX T src dst x=some v):(convert src dst (aD m x)).run P w=.ok (aD m v) w:=by
 unfold convX at h;rcases h1:T.und src with _|d1;simp[h1]at h;rcases h2:T.und dst with _|d2;simp[h1,h2]at h;simp only[h1,h2]at h;unfold convert;simp only[zK,fS hT w h1,fS hT w h2,zJ];cases d2<;>cases x<;>simp at h<;>subst h<;>cases d1<;>simp[aD,Conv.intToInt]
theorem qzr(fs:List Field)(hs:BM T fs=true):(fs.mapM (fun f=>do pure (f.offset,<-sizeOf f.type):Field->Sem (Nat×Nat))).run P w=.ok (fs.map fun f=>(f.offset,(bZ T f.type).getD 0)) w:=by
 induction fs with|nil=>simp|cons f fs ih=>simp only[BM]at hs;rcases hf:bZ T f.type with _|n;simp[hf]at hs;simp only[hf]at hs;have ih':=ih hs;simp only[List.mapM_cons,zK,kS hT w hf,zJ,zL,ih',zQ,hf,Option.getD_some]
omit hT in
theorem z05{fs:List Field}(hs:BM T fs=true){i:Nat}{f:Field}(hf:fs[i]? = some f):∃n,bZ T f.type=some n:=by
 induction fs generalizing i with
 |nil=>simp at hf|cons g fs ih=>
  simp only[BM]at hs;rcases hg:bZ T g.type with _|n;simp[hg]at hs;simp only[hg]at hs;cases i with
  |zero=>simp at hf;subst hf;exact⟨n,hg⟩|succ i=>exact ih hs (by simpa using hf)
theorem z68{ps:List (Nat×Value)}(h:ZJ T t ps=some v):
  (Instr.build t (ps.map fun p=>(p.1,aD m p.2)).toArray).run P w=.ok (aD m v) w:=by
 unfold ZJ at h;rcases hi:T.inf t with _|x;simp[hi]at h;obtain⟨a,b,z⟩:=x;obtain⟨hz,hzr⟩:=BT hT m w hi;simp only at hz hzr;have hzc:z.cells=⟨aE m z.cells.toList⟩:=by
  conv=>lhs;rw[<-hzr,Nc]
  cases z.cells;simp
 simp only[hi]at h;unfold Instr.build;simp only[zK,hz,zJ];rcases hd:T.und t with _|d;simp[hd]at h;simp only[fS hT w hd,zJ];cases d with
 |struct fs=>
  simp only[hd]at h;rcases hs:BM T fs.toList with _|_;simp[hs]at h;simp only[hs,zC]at h;rcases hf:xB (EM T fs.toList) z.cells.toList ps with _|cs;simp[hf]at h;simp[hf]at h;subst h;have hm:=qzr hT w fs.toList hs;have hm':(fs.mapM (fun f=>do pure (f.offset,<-sizeOf f.type):Field->Sem (Nat×Nat))).run P w=.ok ⟨fs.toList.map fun f=>(f.offset,(bZ T f.type).getD 0)⟩ w:=by rw[Array.mapM_eq_mapM_toList];simp only[Sem.run_map,hm,zJ]
  have hpl:(fun i=>(⟨fs.toList.map fun f=>(f.offset,(bZ T f.type).getD 0)⟩:Array (Nat×Nat))[i]?)=EM T fs.toList:=by
   funext i;simp only[EM,gG];rcases hfi:fs.toList[i]? with _|f;simp at hfi;simp[hfi];obtain⟨n,hn⟩:=z05 hs hfi;have:fs[i]? = some f:=by simpa using hfi
   simp[this,hn]
  have hfill:=ZV m (EM T fs.toList) ps z.cells.toList cs hf;simp only[zK,hm',zJ,hpl];rw[hzc];simp only[hfill,zL,aD,fQ]
 |array n e=>simp only[hd]at h;rcases hs:bZ T e with _|k;simp[hs]at h;simp only[hs]at h;rcases hf:xB (fun i=>some (i*k,k)) z.cells.toList ps with _|cs;simp[hf]at h;simp[hf]at h;subst h;have hfill:=ZV m (fun i=>some (i*k,k)) ps z.cells.toList cs hf;simp only[zK,kS hT w hs,zJ];rw[hzc];simp only[hfill,zL,aD,fQ]
 |_=>simp[hd]at h
omit hT in
theorem sZ(b o n:Nat):(⟨b,o,none⟩:Addr).add n=⟨b,o+n,none⟩:=Addr.add_lit b o n
theorem qzl{st:TypeId}{f:Nat}(h:Am T st x f=some v):(Instr.fieldAt st (aD m x) f).run P w=.ok (aD m v) w:=by
 unfold Am at h;rcases hd:T.und st with _|d;simp[hd]at h;cases d with
 |struct fs=>
  simp only[hd,gG]at h;rcases hf:fs.toList[f]? with _|fd;simp at hf;simp[hf]at h;have hf':fs[f]? = some fd:=by simpa using hf
  simp only[hf]at h;cases x with
  |pointer p=>rcases p with _|a;simp at h;simp only at h;rcases hs:bZ T fd.type with _|n;simp[hs]at h;cases n with|zero=>simp[hs]at h|succ n=>simp[hs]at h;subst h;simp[Instr.fieldAt,fS hT w hd,hf',aD,Instr.sureAddr,fieldPlace,kS hT w hs,sZ,Nat.add_assoc]
  |_=>simp at h
 |_=>simp[hd]at h
theorem z6n{st:TypeId}{f:Nat}(h:ZG T st x f=some v):(Instr.field st (aD m x) f).run P w=.ok (aD m v) w:=by
 unfold ZG at h;rcases hd:T.und st with _|d;simp[hd]at h;cases d with
 |struct fs=>
  simp only[hd,gG]at h;rcases hf:fs.toList[f]? with _|fd;simp at hf;simp[hf]at h;have hf':fs[f]? = some fd:=by simpa using hf
  simp only[hf]at h;cases x with
  |agg cs=>obtain⟨cs⟩:=cs;simp only at h;simp[Instr.field,fS hT w hd,hf',aD,asAgg,ZZ hT m w h]
  |_=>simp at h
 |_=>simp[hd]at h
omit hT in
theorem PE{i:Int}{n:Nat}(h:o4 i n=true):0<=i/\i<n:=by
 cases i with|ofNat k=>simp only[o4,Nat.blt_eq]at h;exact⟨Int.natCast_nonneg k,Int.ofNat_lt.2 h⟩|negSucc k=>simp[o4]at h
theorem qzn{ix:Value}(h:Af T t x ix=some v):(Instr.indexAt t (aD m x) (aD m ix)).run P w=.ok (aD m v) w:=by
 unfold Af at h;cases ix with
 |int k i=>
  simp only at h;rcases hd:T.und t with _|d;simp[hd]at h;cases d with
  |array n e=>
   simp only[hd]at h;cases x with
   |pointer p=>rcases p with _|a;simp at h;simp only at h;rcases hr:o4 i n with _|_;simp[hr]at h;rcases hs:bZ T e with _|sz;simp[hr,hs]at h;simp[hr,hs]at h;subst h;have:=PE hr;simp[Instr.indexAt,asIntOf,aD,fS hT w hd,Instr.sureAddr,this,kS hT w hs,sZ,Nat.add_assoc]
   |_=>simp at h
  |slice e=>
   simp only[hd]at h;cases x with
   |slice p n c=>rcases p with _|a;simp at h;simp only at h;rcases hr:o4 i n with _|_;simp[hr]at h;rcases hs:bZ T e with _|sz;simp[hr,hs]at h;simp[hr,hs]at h;subst h;have:=PE hr;simp[Instr.indexAt,asIntOf,aD,fS hT w hd,this,kS hT w hs,sZ,Nat.add_assoc]
   |_=>simp at h
  |_=>simp[hd]at h
 |_=>simp at h
theorem z6u{ix:Value}(h:OY T t x ix=some v):(Instr.index t (aD m x) (aD m ix)).run P w=.ok (aD m v) w:=by
 unfold OY at h;cases ix with
 |int k i=>
  simp only at h;rcases hd:T.und t with _|d;simp[hd]at h;cases d with
  |array n e=>
   simp only[hd]at h;cases x with
   |agg cs=>obtain⟨cs⟩:=cs;simp only at h;rcases hr:o4 i n with _|_;simp[hr]at h;rcases hs:bZ T e with _|sz;simp[hr,hs]at h;simp only[hr,hs,zC]at h;have:=PE hr;simp[Instr.index,asIntOf,aD,fS hT w hd,this,kS hT w hs,ZZ hT m w h]
   |_=>simp at h
  |string=>
   simp only[hd]at h;cases x with
   |string s=>
    simp only[gG]at h;rcases hr:o4 i s.data.toList.length with _|_;simp only[hr,zD]at h;cases h;simp only[hr,zC]at h;have hi:=PE hr;rcases hb:s.data.toList[i.toNat]? with _|b;simp[hb]at h;simp[hb]at h;subst h;have hb':s[i.toNat]? = some b:=by
     have:s.data[i.toNat]? = some b:=by simpa using hb
     obtain⟨hlt,e⟩:=Array.getElem?_eq_some_iff.1 this;have hlt':i.toNat<s.size:=hlt;rw[getElem?_pos s i.toNat hlt'];exact congrArg some e
    simp[Instr.index,asIntOf,aD,fS hT w hd,hi.1,hb']
   |_=>simp at h
  |_=>simp[hd]at h
 |_=>simp at h
omit hT in
theorem qzj{x v:Value}{i:Nat}(h:V3 x i=some v):(Instr.extract (aD m x) i).run P w=.ok (aD m v) w:=by
 cases x with
 |tuple vs=>obtain⟨vs⟩:=vs;simp only[V3,gG]at h;simp[Instr.extract,aD,jX,h]
 |_=>simp[V3]at h
end
section
variable{P:Program}{T:Tb}(hT:iW P T)(m:Nm)(w:World)
include hT
variable{t:TypeId}
variable{x:Value}
variable{v:Value}
theorem R1{ty:TypeId}{ts:List TypeId}(h:xS T t x=some v):(Builtin.len_ (t::ts).toArray ty #[aD m x]).run P w=.ok (aD m v) w:=by
 unfold xS at h;rcases hd:T.und t with _|d;simp[hd]at h;simp only[hd]at h;have hu:=fS hT w hd;cases d with
 |string=>cases x<;>simp at h;subst h;rename_i s;simp only[Builtin.len_,List.getElem?_toArray,List.getElem?_cons_zero,zK,hu,zJ,aD,goInt,zL]|slice e=>
  cases x with
  |slice a _ _=>simp only[zA]at h;subst h;cases a<;>simp[Builtin.len_,hu,aD,goInt]|chan r=>rcases r with _|r;simp at h;simp only[zA]at h;subst h;simp[Builtin.len_,hu,aD,goInt]
  |_=>simp at h
 |array n e=>simp at h;subst h;simp[Builtin.len_,hu,aD,goInt]|_=>simp at h
theorem T2{ty:TypeId}{ts:List TypeId}(h:DH T t x=some v):(Builtin.cap_ (t::ts).toArray ty #[aD m x]).run P w=.ok (aD m v) w:=by
 unfold DH at h;rcases hd:T.und t with _|d;simp[hd]at h;simp only[hd]at h;have hu:=fS hT w hd;cases d with
 |slice e=>
  cases x with
  |slice a _ c=>
   cases a with
   |none=>simp only[zA]at h;subst h;simp[Builtin.cap_,hu,aD,goInt]|some a=>
    simp only at h;rcases hc:Nat.blt c bL with _|_;simp[hc]at h;simp only[hc,zC,zA]at h;subst h;have hc':c<bL:=by simpa[Nat.blt_eq]using hc
    simp[Builtin.cap_,hu,aD,goInt,bJ,hc']
  |chan r=>rcases r with _|r;simp at h;simp only[zA]at h;subst h;simp[Builtin.cap_,hu,aD,goInt]
  |_=>simp at h
 |_=>simp at h
omit hT in
theorem QY{x v:Value}{l:List Value}(h:sW JP x l=some v):((aE m l).foldlM Builtin.max2 (aD m x)).run P w=.ok (aD m v) w:=by
 induction l generalizing x with
 |nil=>simp[sW]at h;simp[aE,h]|cons y l ih=>
  simp only[sW]at h;rcases hxy:JP x y with _|z;simp[hxy]at h;simp only[hxy]at h;have:(Builtin.max2 (aD m x) (aD m y)).run P w=.ok (aD m z) w:=by cases x<;>cases y<;>simp[JP]at hxy;subst hxy;simp[aD,Builtin.max2]
  simp only[aE,List.foldlM_cons,zK,this,zJ];exact ih h
omit hT in
theorem QW{x v:Value}{l:List Value}(h:sW JO x l=some v):((aE m l).foldlM Builtin.min2 (aD m x)).run P w=.ok (aD m v) w:=by
 induction l generalizing x with
 |nil=>simp[sW]at h;simp[aE,h]|cons y l ih=>
  simp only[sW]at h;rcases hxy:JO x y with _|z;simp[hxy]at h;simp only[hxy]at h;have:(Builtin.min2 (aD m x) (aD m y)).run P w=.ok (aD m z) w:=by cases x<;>cases y<;>simp[JO]at hxy;subst hxy;simp[aD,Builtin.min2]
  simp only[aE,List.foldlM_cons,zK,this,zJ];exact ih h
omit hT in
theorem K1{v:Value}{y n:Nat}(h:gZ v y=some n)(Y:Nat)(hY:y<=Y)(code:BoundsCode):(Instr.sliceBound (aD m v) Y code).run P w=.ok n w/\n<=y:=by
 cases v with
 |int k i=>
  simp only[gZ]at h;rcases hr:o4 i (y+1)with _|_;simp[hr]at h;simp[hr]at h;subst h;have:=PE hr;refine⟨?_,by omega⟩;have h2:0<=i/\i<=(Y:Int):=by omega
  simp[Instr.sliceBound,aD,asIntOf,h2]
 |_=>simp[gZ]at h
omit hT in
theorem H6{isS:Bool}{n c Y:Nat}{lo hi mx:Option Value}{l h M:Nat}(hb:fF n c lo hi mx=some (l,h,M))(hY:c<=Y):
  (Instr.sliceBounds isS n Y (lo.map (aD m)) (hi.map (aD m)) (mx.map (aD m))).run P w=.ok (l,h,if mx.isSome then M else Y) w/\l<=h/\(mx.isSome=true->h<=M/\M<=c)/\(mx=none->M=c/\(hi.isSome=true->h<=c)/\(hi=none->h=n)):=by
 unfold fF at hb;cases mx with
 |some v=>
  simp only at hb;rcases h1:gZ v c with _|M';simp[h1]at hb;simp only[h1]at hb;rcases hi with _|u;simp at hb;simp only at hb;rcases h2:gZ u M' with _|h';simp[h2]at hb;simp only[h2]at hb;have b1:=fun code=>K1 (P:=P) m w h1 Y hY code
  have b2:=fun code=>K1 (P:=P) m w h2 M' (zF _) code;cases lo with
  |none=>simp at hb;obtain⟨rfl,rfl,rfl⟩:=hb;have q1:=(b1 .index).2;have q2:=(b2 .index).2;refine⟨?_,by omega,fun _=>⟨q2,q1⟩,by simp⟩;simp[Instr.sliceBounds,(b1 _).1,(b2 _).1]
  |some x=>
   simp only at hb;rcases h3:gZ x h' with _|l';simp[h3]at hb;simp[h3]at hb;obtain⟨rfl,rfl,rfl⟩:=hb;have b3:=fun code=>K1 (P:=P) m w h3 h' (zF _) code
   have q1:=(b1 .index).2;have q2:=(b2 .index).2;have q3:=(b3 .index).2;refine⟨?_,q3,fun _=>⟨q2,q1⟩,by simp⟩;simp[Instr.sliceBounds,(b1 _).1,(b2 _).1,(b3 _).1]
 |none=>
  simp only at hb;cases hi with
  |some u=>
   simp only at hb;rcases h2:gZ u c with _|h';simp[h2]at hb;simp only[h2]at hb;have b2:=fun code=>K1 (P:=P) m w h2 Y hY code
   have q2:=(b2 .index).2;cases lo with
   |none=>simp at hb;obtain⟨rfl,rfl,rfl⟩:=hb;refine⟨?_,by omega,by simp,fun _=>⟨rfl,fun _=>q2,by simp⟩⟩;simp[Instr.sliceBounds,(b2 _).1]
   |some x=>
    simp only at hb;rcases h3:gZ x h' with _|l';simp[h3]at hb;simp[h3]at hb;obtain⟨rfl,rfl,rfl⟩:=hb;have b3:=fun code=>K1 (P:=P) m w h3 h' (zF _) code
    have q3:=(b3 .index).2;refine⟨?_,q3,by simp,fun _=>⟨rfl,fun _=>q2,by simp⟩⟩;simp[Instr.sliceBounds,(b2 _).1,(b3 _).1]
  |none=>
   simp only at hb;cases lo with
   |none=>simp at hb;obtain⟨rfl,rfl,rfl⟩:=hb;refine⟨?_,by omega,by simp,by simp⟩;simp[Instr.sliceBounds]
   |some x=>
    simp only at hb;rcases h3:gZ x n with _|l';simp[h3]at hb;simp[h3]at hb;obtain⟨rfl,rfl,rfl⟩:=hb;have b3:=fun code=>K1 (P:=P) m w h3 n (zF _) code
    have q3:=(b3 .index).2;refine⟨?_,q3,by simp,by simp⟩;simp[Instr.sliceBounds,(b3 _).1]
theorem z7v{lo hi mx:Option Value}(h:kR T t x lo hi mx=some v):
  (Instr.sliceAt t (aD m x) (lo.map (aD m)) (hi.map (aD m)) (mx.map (aD m))).run P w=.ok (aD m v) w:=by
 unfold kR at h;rcases hd:T.und t with _|d;simp[hd]at h;simp only[hd]at h;have hu:=fS hT w hd;cases d with
 |string=>
  cases x with
  |string s=>
   simp only at h;cases mx with
   |some _=>simp at h|none=>
    simp only at h;rcases hb:fF s.data.toList.length s.data.toList.length lo hi none with _|r;simp only[hb]at h;cases h;obtain⟨l,hh,M⟩:=r;simp only[hb,zA]at h;subst h;obtain⟨h1,_,_,_⟩:=H6 (P:=P) (isS:=false) m w hb (zF _);have hsz:s.size=s.data.toList.length:=rfl;simp only[Option.map_none]at h1;simp only[Instr.sliceAt,zK,hu,zJ,Instr.slice,aD,Option.map_none,Option.isSome_none,Bool.false_eq_true,if_false,hsz,h1,zL];have e3:s.extract l hh=⟨((s.data.toList.take hh).drop l).toArray⟩:=by apply ByteArray.ext;rw[ByteArray.data_extract];apply Array.ext';simp[List.drop_take]
    rw[e3]
  |_=>simp at h
 |slice e=>
  cases x with
  |slice a n c=>
   simp only at h;cases hc:Nat.blt c bL with
   |false=>
    simp only[hc,zD]at h;unfold emptyS at h;rcases a with _|a;simp at h;cases n with
    |succ n=>simp at h|zero=>
     simp only at h;rcases hb:fF 0 0 lo hi mx with _|r;simp[hb]at h;obtain⟨l,hh,M⟩:=r;simp only[hb]at h;cases l with
     |succ l=>simp at h|zero=>
      cases hh with
      |succ l=>simp at h|zero=>
       cases M with
       |succ l=>simp at h|zero=>
        simp only at h;rcases hs:bZ T e with _|sz;simp[hs]at h;simp only[hs,zA]at h;subst h;obtain⟨h1,_,_,_⟩:=H6 (P:=P) (isS:=true) (Y:=bJ m a.block c) m w hb (Nat.zero_le _);cases mx with
        |none=>simp only[Option.isSome_none,Bool.false_eq_true,if_false]at h1;simp only[Instr.sliceAt,zK,hu,zJ,Instr.slice,aD,h1,kS hT w hs,zL,zM,Nat.zero_mul,Nat.sub_zero,sZ,Nat.add_zero,ite_self]|some vm=>
         simp only[Option.isSome_some,if_true,zM]at h1;have h0:bJ m a.block 0=0:=by simp[bJ,bL]
         simp only[Instr.sliceAt,zK,hu,zJ,Instr.slice,aD,h1,kS hT w hs,zL,zM,Nat.zero_mul,Nat.sub_zero,sZ,Nat.add_zero,ite_self,h0]
   |true=>
    simp only[hc,zC]at h;have hc':c<bL:=by simpa[Nat.blt_eq]using hc
    rcases hb:fF n c lo hi mx with _|r;simp[hb]at h;obtain⟨l,hh,M⟩:=r;simp only[hb]at h;rcases hs:bZ T e with _|sz;simp[hs]at h;simp only[hs,zA]at h;subst h;have hcap:∀i,bJ m i c=c:=fun i=>by simp[bJ,hc']
    obtain⟨h1,h2,h3,h4⟩:=H6 (P:=P) (isS:=true) (Y:=c) m w hb (zF _);have hM:(if mx.isSome then M else c)=M:=by rcases mx with _|v;simp[(h4 rfl).1];simp
    rw[hM]at h1;have hMl:M-l<bL:=by rcases mx with _|v;have:=(h4 rfl).1;omega;have:=(h3 rfl).2;omega
    cases a with|none=>simp only[Instr.sliceAt,zK,hu,zJ,Instr.slice,aD,h1,kS hT w hs,zL,beq_eq];by_cases e:M=l<;>simp[e,aD]|some a=>simp only[Instr.sliceAt,zK,hu,zJ,Instr.slice,aD,hcap,h1,kS hT w hs,zL,beq_eq];by_cases e:M=l;simp[e,aD,bJ,bL];simp[e,aD,bJ,hMl,sZ,Nat.add_assoc]
  |chan r=>
   rcases r with _|r;simp at h;simp only at h;rcases hb:fF 0 0 lo hi mx with _|q;simp[hb]at h;obtain⟨l,hh,M⟩:=q;simp only[hb]at h;rcases hs:bZ T e with _|sz;simp[hs]at h;simp only[hs,zA]at h;subst h;obtain⟨h1,h2,h3,h4⟩:=H6 (P:=P) (isS:=true) (Y:=0) m w hb (zF _);have hz:l=0/\hh=0/\M=0:=by
    cases mx with
    |none=>obtain⟨q1,q2,q3⟩:=h4 rfl;rcases hi with _|v;have:=q3 rfl;omega;have:=q2 rfl;omega
    |some v=>have:=h3 rfl;omega
   obtain⟨rfl,rfl,rfl⟩:=hz;simp only[ite_self]at h1;simp only[Instr.sliceAt,zK,hu,zJ,Instr.slice,aD,h1,kS hT w hs,zL,if_true,Nat.sub_zero]
  |_=>simp at h
 |array n e=>
  cases x with
  |pointer p=>
   rcases p with _|a;simp at h;simp only at h;rcases hb:fF n n lo hi mx with _|r;simp only[hb]at h;cases h;obtain⟨l,hh,M⟩:=r;simp only[hb]at h;rcases hs:bZ T e with _|sz;simp[hs]at h;simp only[hs]at h;rcases hn:Nat.blt n bL with _|_;simp[hn]at h;simp only[hn,zC,zA]at h;subst h;have hn':n<bL:=by simpa[Nat.blt_eq]using hn
   obtain⟨h1,h2,h3,h4⟩:=H6 (P:=P) (isS:=false) (Y:=n) m w hb (zF _);have hM:(if mx.isSome then M else n)=M:=by rcases mx with _|v;simp[(h4 rfl).1];simp
   rw[hM]at h1;have hMl:M-l<bL:=by rcases mx with _|v;have:=(h4 rfl).1;omega;have:=(h3 rfl).2;omega
   simp only[Instr.sliceAt,zK,hu,zJ,Instr.sureAddr,aD,h1,kS hT w hs,zL,beq_eq];by_cases e:M=l;simp[e,bJ,bL];simp[e,bJ,hMl,sZ,Nat.add_assoc]
  |_=>simp at h
 |_=>simp at h
theorem zax{tm:List Value}{a:Act}(ha:a.tmps=⟨aE m tm⟩)(o:Oper)(h:gA T tm o.op=some v):(execOp a.eval o).run P w=.ok (.value (aD m v)) w:=by
 obtain⟨dst,op,type,pos,after,guard⟩:=o;simp only at h;unfold gA at h;cases op with
 |move x=>simp only at h;simp[execOp,iQ ha h]|assign x=>simp only at h;simp[execOp,iQ ha h]
 |pick c x y=>
  simp only at h;rcases hc:evalO tm c with _|cv;simp[hc]at h;cases cv with
  |bool b=>rcases b with _|_;simp only[hc]at h;simp[execOp,iQ ha hc,iQ ha h,aD,asBool];simp only[hc]at h;simp[execOp,iQ ha hc,iQ ha h,aD,asBool]
  |_=>simp[hc]at h
 |build t ps=>
  simp only at h;rcases hp:BE tm ps.toList with _|qs;simp[hp]at h;simp only[hp]at h;have e1:(ps.map fun x=>(x.1,a.eval x.2))=(qs.map fun p=>(p.1,aD m p.2)).toArray:=by rw[<-Xg ha hp];cases ps;simp
  have:=z68 hT m w h;rw[<-e1]at this;simp only[execOp,zK];rw[this];rfl
 |nilCheck x=>
  simp only at h;rcases hx:evalO tm x with _|u;simp[hx]at h;have he:=iQ ha hx;cases u with
  |pointer p=>rcases p with _|q;simp[hx]at h;simp[hx]at h;subst h;simp[execOp,he,aD]
  |func fn x y=>cases fn with|func f=>simp[hx]at h;subst h;simp[execOp,he,aD]|_=>simp[hx]at h
  |_=>simp[hx]at h
 |binOp op t x y ty=>simp only at h;rcases hx:evalO tm x with _|u;simp[hx]at h;rcases hy:evalO tm y with _|u';simp[hx,hy]at h;simp only[hx,hy]at h;have:=T8 hT m w op x y h;simp only[execOp,iQ ha hx,iQ ha hy];rw[zK,this];rfl
 |unOp op t x=>simp only at h;rcases hx:evalO tm x with _|u;simp[hx]at h;simp only[hx]at h;simp[execOp,iQ ha hx,YM m w h]
 |convert s d x=>simp only at h;rcases hx:evalO tm x with _|u;simp[hx]at h;simp only[hx]at h;simp[execOp,iQ ha hx,za2 hT m w h]
 |makeFunc fn first cap=>
  simp only at h;rcases hx:iH tm first.toList with _|u
  simp[hx]at h;rcases hy:iH tm cap.toList with _|u';simp[hx,hy]at h;simp only[hx,hy,zA]at h;subst h;simp[execOp,pH ha hx,pH ha hy,Instr.makeFunc,aD]
 |slice t x lo hi mx=>simp only at h;rcases hx:evalO tm x with _|u;simp[hx]at h;rcases h1:nX tm lo with _|l;simp[hx,h1]at h;rcases h2:nX tm hi with _|hh;simp[hx,h1,h2]at h;rcases h3:nX tm mx with _|mm;simp[hx,h1,h2,h3]at h;simp only[hx,h1,h2,h3]at h;have:=z7v hT m w h;simp only[execOp,iQ ha hx,GZ ha h1,GZ ha h2,GZ ha h3];rw[zK,this];rfl
 |fieldAddr t x f=>simp only at h;rcases hx:evalO tm x with _|u;simp[hx]at h;simp only[hx]at h;simp[execOp,iQ ha hx,qzl hT m w h]
 |field t x f=>simp only at h;rcases hx:evalO tm x with _|u;simp[hx]at h;simp only[hx]at h;simp[execOp,iQ ha hx,z6n hT m w h]
 |indexAddr t x i=>simp only at h;rcases hx:evalO tm x with _|u;simp[hx]at h;rcases hy:evalO tm i with _|u';simp[hx,hy]at h;simp only[hx,hy]at h;simp[execOp,iQ ha hx,iQ ha hy,qzn hT m w h]
 |index t x i=>simp only at h;rcases hx:evalO tm x with _|u;simp[hx]at h;rcases hy:evalO tm i with _|u';simp[hx,hy]at h;simp only[hx,hy]at h;simp[execOp,iQ ha hx,iQ ha hy,z6u hT m w h]
 |extract x i=>simp only at h;rcases hx:evalO tm x with _|u;simp[hx]at h;simp only[hx]at h;simp[execOp,iQ ha hx,qzj m w h]
 |call c=>
  obtain⟨callee,args,ats⟩:=c;simp only at h;cases callee with
  |builtin b=>
   cases b with
   |len=>simp only at h;rcases hx:iH tm args.toList with _|vs;simp[hx]at h;rcases vs with _ |⟨x,_ |⟨y,l⟩⟩;simp[hx]at h;obtain⟨ats⟩:=ats;rcases ats with _|⟨t,ts⟩;simp[hx]at h;simp only[hx]at h;have e1:=pH ha hx;simp only[aE]at e1;have:=R1 hT m w (ty:=type) (ts:=ts) h;simp only[execOp,zK,resolve,zL,zJ,invoke,builtin,e1];rw[this];rfl;simp[hx]at h
   |cap=>simp only at h;rcases hx:iH tm args.toList with _|vs;simp[hx]at h;rcases vs with _ |⟨x,_ |⟨y,l⟩⟩;simp[hx]at h;obtain⟨ats⟩:=ats;rcases ats with _|⟨t,ts⟩;simp[hx]at h;simp only[hx]at h;have e1:=pH ha hx;simp only[aE]at e1;have:=T2 hT m w (ty:=type) (ts:=ts) h;simp only[execOp,zK,resolve,zL,zJ,invoke,builtin,e1];rw[this];rfl;simp[hx]at h
   |max=>simp only at h;rcases hx:iH tm args.toList with _|vs;simp[hx]at h;rcases vs with _|⟨x,l⟩;simp[hx]at h;simp only[hx]at h;have e1:=pH ha hx;simp only[aE]at e1;have:=QY (P:=P) m w h;simp only[execOp,zK,resolve,zL,zJ,invoke,builtin,e1,Builtin.max_];rw[this];rfl
   |min=>simp only at h;rcases hx:iH tm args.toList with _|vs;simp[hx]at h;rcases vs with _|⟨x,l⟩;simp[hx]at h;simp only[hx]at h;have e1:=pH ha hx;simp only[aE]at e1;have:=QW (P:=P) m w h;simp only[execOp,zK,resolve,zL,zJ,invoke,builtin,e1,Builtin.min_];rw[this];rfl
   |_=>simp at h
  |_=>simp at h
 |_=>simp at h
end
theorem vV.cell{m:Nm}{i:Nat}{l:List Value}{e:TypeId}{w:World}{md:Nat}(h:vV m i l e w md){j:Nat}{v:Value}(hj:l[j]? = some v):
  w.cell? ⟨m.blk i,m.sh i+j,none⟩=some (aD m v):=by
 have hlt:j<l.length:=(zG.1 hj).1;rcases md with _ |_ |n;obtain⟨h0,h1⟩:=h;simp[World.cell?,h1,h0,jX,hj];obtain⟨c,e',fr,h1,h2,_⟩:=h;simp[World.cell?,h1,h2 j v hj];obtain⟨pr,rest,h1,h2,_⟩:=h;simp only[World.cell?,h1,Option.isSome_none,Bool.false_eq_true,if_false,List.getElem?_toArray,zT,<-h2];rw[List.getElem?_append_right (by omega),Nat.add_sub_cancel_left,List.getElem?_append_left (by simpa using hlt)];simp[jX,hj]
theorem EX{P:Program}{w:World}{r:Nat}{es:Array MapEntry}{c:Nat}(h:w.heap[r]? = some (.map es c)):(getObj r).run P w=.ok (.map es c) w:=by
 simp[getObj,Sem.run,h]
variable{s:S}
theorem Oe{i:Nat}{l:List Value}{e:TypeId}{md:Nat}(h:c9 s i=some (l,e,md)):lk s.h i=some (.inl (l,e,md))/\md≠1:=by
 unfold c9 at h;rcases hl:lk s.h i with _|b;simp[hl]at h;rcases b with⟨l',e',md'⟩|⟨es,c⟩;rcases md' with _ |_ |n<;>simp[hl]at h<;>obtain⟨rfl,rfl,rfl⟩:=h<;>simp;simp[hl]at h
theorem Bc{a b:Nat}(h:Nat.blt a b=false):¬ a<b:=fun hlt=>by
 have:Nat.blt a b=true:=Nat.ble_eq_true_of_le hlt;rw[this]at h;cases h
theorem BW{a b:Nat}(h:Nat.blt a b=true):a<b:=zY h
theorem z08(c b k:Nat)(h:b<=c):c+k-b=c-b+k:=by omega
theorem bq{c:Nat}(h:bL<=c)(k:Nat):bE (c+k)=bE c+k:=z08 c bL k h
section
variable{P:Program}{T:Tb}(hT:iW P T)(m:Nm)(w:World)
include hT
variable{t:TypeId}
variable{v:Value}
theorem Lz(hf:Fits m s w){i off:Nat}{l:List Value}{e:TypeId}{md:Nat}(hl:lk s.h i=some (.inl (l,e,md)))
  (h:(match T.und t with
    |none=>none|some d=>cond (nZ d) (match bZ T t with
      |some n=>match rP l off n with
       |some cs=>some (Value.agg cs.toArray)|none=>none
      |none=>none) (nth l off))=some v):
  (loadVar t ⟨m.blk i,m.sh i+off,none⟩).run P w=.ok (aD m v) w:=by
 have hr:vV m i l e w md:=hf.ok i _ hl;rcases hd:T.und t with _|d;simp[hd]at h;simp only[hd]at h;unfold loadVar;simp only[zK,cy hT w hd,zJ];cases hag:nZ d with
 |true=>
  simp only[hag,zC]at h;rcases hs:bZ T t with _|n;simp[hs]at h;simp only[hs]at h;rcases hg:rP l off n with _|cs;simp[hg]at h;simp only[hg,zA]at h;subst h;have hlen:(aE m cs).length=n:=by rw[tE];exact Vp hg
  have:=run_loadCells_list (P:=P) w ⟨m.blk i,m.sh i+off,none⟩ (aE m cs) (fun j u hu=>by rw[jX,List.getElem?_map]at hu;rcases hc:cs[j]? with _|u';simp[hc]at hu;simp[hc]at hu;subst hu;rw[sZ,Nat.add_assoc];exact hr.cell (yw hg hc));rw[hlen]at this;simp[kS hT w hs,this,aD]
 |false=>simp only[hag,zD,gG]at h;have:=hr.cell h;simp[this]
theorem z6w{K:TypeId->Value->Bool}{d:Nat}{b:Bool}(hK:∀t v w,K t v=true->(Instr.checkKey b d t (aD m v)).run P w=.ok () w)(cs:List Value)(fs:List Field)(h:XO T K cs fs=true):
  (forIn fs PUnit.unit (fun f _=>
    if f.name ≠ "_" then (do
     let x <-part f.type ⟨aE m cs⟩ f.offset
     Instr.checkKey b d f.type x
     pure (ForInStep.yield PUnit.unit))
    else pure (ForInStep.yield PUnit.unit)):Sem PUnit).run P w=.ok PUnit.unit w:=by
 induction fs with|nil=>simp|cons f fs ih=>simp only[XO]at h;simp only[List.forIn_cons];split at h;rename_i hn;rcases hp:yW T f.type cs f.offset with _|v;simp[hp]at h;simp only[hp]at h;rcases hk:K f.type v with _|_;simp[hk]at h;simp only[hk,zC]at h;have h1:=ZZ hT m w hp;have h2:=hK f.type v w hk;simp only[hn,ne_eq,not_false_eq_true,if_true,zK,h1,zJ,h2,zL];exact ih h;rename_i hn;simp only[hn,if_false,zK,zL,zJ];exact ih h
theorem ZF(b:Bool)(d k:Nat)(w:World)(h:lS T d t v=true):(Instr.checkKey b (d+k) t (aD m v)).run P w=.ok () w:=by
 induction d generalizing t v w with
 |zero=>simp[lS]at h|succ d ih=>
  have hsucc:d+1+k=(d+k)+1:=by omega
  rw[hsucc];simp only[lS]at h;rcases hd:T.und t with _|ty;simp[hd]at h;have hu:=fS hT w hd;cases ty with
  |int kk=>simp[Instr.checkKey,hu]|string=>simp[Instr.checkKey,hu]
  |bool=>simp[Instr.checkKey,hu]|struct fs=>
   simp only[hd]at h;cases v with
   |agg cs=>obtain⟨cs⟩:=cs;simp only at h;have:=z6w hT m w (b:=b) (d:=d+k) (fun t v w hk=>ih w hk) cs fs.toList h;simp only[Instr.checkKey,zK,hu,zJ,aD,fQ];rw[<-Array.forIn_toList,this];rfl
   |_=>simp at h
  |_=>simp[hd]at h
theorem z0v{kt:TypeId}{k:Value}(es:List MapEntry)(i:Nat){r:Option (Nat×Value)}(h:nG T kt k es i=some r):
  (Instr.findAsking kt (aD m k) (es.map (dU m)) i).run P w=.ok (r.map fun p=>(p.1,aD m p.2)) w:=by
 induction es generalizing i with|nil=>simp[nG]at h;subst h;simp[Instr.findAsking]|cons e es ih=>simp only[nG]at h;rcases he:eqv T 50 kt k e.key with _|b;simp[he]at h;have hq:=Ms hT m w he;rcases b with _|_;simp only[he]at h;simpa[Instr.findAsking,dU,hq]using ih (i+1) h;simp[he]at h;subst h;simp[Instr.findAsking,dU,hq]
omit hT in
theorem QV{kt:TypeId}{d:TypeDesc}(hd:T.und kt=some d){k:Value}(es:List MapEntry)(i:Nat){r r':Option (Nat×Value)}(h:nG T kt k es i=some r)
  (h':Instr.findNow d (aD m k) (es.map (dU m)) i=some r'):r'=r.map fun p=>(p.1,aD m p.2):=by
 induction es generalizing i with
 |nil=>simp[nG]at h;subst h;simp[Instr.findNow]at h';simp[<-h']|cons e es ih=>
  simp only[nG]at h;simp only[zQ,Instr.findNow]at h';rcases he:eqv T 50 kt k e.key with _|b;simp[he]at h;have key:∀b',Instr.sameNow d (aD m k) (dU m e).key=some b'->b'=b:=by intro b' hb';simp only[dU]at hb';rcases tz he with⟨x,y,hx,hy⟩|⟨kk,x,k',y,hx,hy⟩|⟨x,y,hx,hy⟩|⟨x,y,hx,hy⟩|⟨x,n,c,y,n',c',hx,hy⟩|⟨x,y,hx,hy⟩|⟨x,y,hx,hy⟩|⟨x,n,c,hx,hy⟩;rw[hx,hy]at hb' he;cases d<;>simp[Instr.sameNow,aD]at hb';simp[eqv,hd]at he;exact hb'.symm.trans he;rw[hx,hy]at hb' he;cases d<;>simp[Instr.sameNow,aD]at hb';simp[eqv,hd]at he;exact hb'.2.symm.trans he.2;rw[hx,hy]at hb' he;cases d<;>simp[Instr.sameNow,aD]at hb';simp[eqv,hd]at he;rw[<-hb',<-he,Nu,beq_toListBytes,ByteArray.toList_eq,ByteArray.toList_eq];rw[hx,hy]at hb';cases x<;>cases y<;>cases d<;>simp[Instr.sameNow,aD]at hb';rw[hx,hy]at hb';cases x<;>cases y<;>cases d<;>simp[Instr.sameNow,aD]at hb';rw[hx,hy]at hb';cases x<;>cases y<;>cases d<;>simp[Instr.sameNow,aD]at hb';rw[hx,hy]at hb';cases d<;>simp[Instr.sameNow,aD]at hb';rw[hx,hy]at hb';cases d<;>simp[Instr.sameNow,aD]at hb'
  rcases hsn:Instr.sameNow d (aD m k) (dU m e).key with _|b';simp[hsn]at h';have:=key b' hsn;subst this;rcases b' with _|_;simp only[he]at h;simp only[hsn]at h';exact ih (i+1) h h';simp[he]at h;subst h;simp[hsn]at h';simp[<-h',dU]
theorem GV{kt:TypeId}{d:TypeDesc}(hd:T.und kt=some d){k:Value}{es:List MapEntry}{r:Option (Nat×Value)}(h:nG T kt k es 0=some r):
  (Instr.findKey kt (aD m k) (es.map (dU m))).run P w=.ok (r.map fun p=>(p.1,aD m p.2)) w:=by
 unfold Instr.findKey;simp only[zK,fS hT w hd,zJ];rcases hn:Instr.findNow d (aD m k) (es.map (dU m)) 0 with _|r';exact z0v hT m w es 0 h;simp[QV m hd es 0 h hn]
omit hT in
theorem Mp{d:Nat}{kt:TypeId}{v:Value}(h:lS T d kt v=true):∃ty,T.und kt=some ty:=by
 cases d with|zero=>simp[lS]at h|succ d=>simp only[lS]at h;rcases hd:T.und kt with _|ty;simp[hd]at h;exact⟨ty,rfl⟩
omit hT in
theorem Yz{s:S}{i sz:Nat}{l:List Value}(h:xD s i sz=some l):∃e md,lk s.h i=some (.inl (l,e,md))/\(md=1/\e=sz+1\/md=sz+2):=by
 unfold xD at h;rcases hl:lk s.h i with _|b;simp[hl]at h;rcases b with⟨l',e',md'⟩|⟨es,c⟩;rcases md' with _ |_ |n;simp[hl]at h;simp only[hl,beq_eq]at h;by_cases he:e'=sz+1;simp only[he,yC,zC,zA]at h;subst h;exact⟨_,_,rfl,.inl ⟨rfl,he⟩⟩;simp[he]at h;simp only[hl,beq_eq]at h;by_cases he:n=sz;simp only[he,yC,zC,zA]at h;subst h;exact⟨_,_,rfl,.inr (by rw[he])⟩;simp[he]at h;simp[hl]at h
omit hT in
theorem Mi{s:S}(hf:Fits m s w){i c sz:Nat}{l:List Value}(hl:xD s i (sz+1)=some l){off n:Nat}(ho:off=bE c*(sz+1))(hn:off+n*(sz+1)<=l.length):n+bE c<=m.cp i:=by
 obtain⟨e,md,hl,hmd⟩:=Yz hl;have h3:l.length<=m.cp i*(sz+1):=by rcases hmd with⟨rfl,rfl⟩|rfl;obtain⟨_,_,_,_,_,h3⟩:=hf.ok i _ hl;exact h3 _ rfl;obtain⟨pr,rest,_,_,h3⟩:=hf.ok i _ hl;omega
 have:(n+bE c)*(sz+1)<=m.cp i*(sz+1):=by rw[Nat.add_mul];omega
 exact Nat.le_of_mul_le_mul_right this (by omega)
theorem z4s(hf:Fits m s w){x:Value}{lo hi mx:Option Value}(h:yZ T s t x lo hi mx=some v):
  (Instr.sliceAt t (aD m x) (lo.map (aD m)) (hi.map (aD m)) (mx.map (aD m))).run P w=.ok (aD m v) w:=by
 unfold yZ at h;rcases hd:T.und t with _|dd;simp[hd]at h;cases dd with
 |slice e=>
  cases x with
  |slice p n c=>
   rcases p with _|a;simp[hd]at h;simp only[hd]at h;cases hc:Nat.blt c bL with
   |true=>simp[hc]at h|false=>
    have hc':¬ c<bL:=Bc hc;simp only[hc,zD]at h;rcases hs:bZ T e with _|sz;simp[hs]at h;simp only[hs]at h;rcases hr:xD s a.block sz with _|l;simp[hr]at h;simp only[hr,beq_eq]at h;by_cases hoff:a.off=bE c*sz;rw[decide_eq_true hoff]at h;simp only[zC]at h;rcases hpos:Nat.blt 0 sz with _|_;simp[hpos]at h;have hpos':0<sz:=BW hpos;simp only[hpos,zC]at h;obtain⟨sz,rfl⟩:∃q,sz=q+1:=⟨sz-1,by omega⟩;obtain⟨_,_,FH,_⟩:=Yz hr;have hl:=hr;have hbd:=hf.bd _ _ FH;have ecx:aD m (.slice (some a) n c)=.slice (some ⟨m.blk a.block,m.sh a.block+a.off,none⟩) n (m.cp a.block-bE c):=by simp[aD,bJ,hc']
    have hknown:(l.length-a.off)/(sz+1)<=m.cp a.block-bE c:=by
     rcases Nat.eq_zero_or_pos ((l.length-a.off)/(sz+1))with h0 |hp;omega;have hle:=Nat.div_mul_le_self (l.length-a.off) (sz+1);have hge:a.off<=l.length:=by rcases Nat.lt_or_ge l.length a.off with hlt |hge;rw[show l.length-a.off=0 by omega]at hp;simp at hp;exact hge
     have:=Mi m w hf (c:=c) (n:=(l.length-a.off)/(sz+1)) (off:=a.off) hl hoff (by omega);omega
    have hu:=fS hT w hd;cases mx with
    |some vm=>
     simp only at h;rcases rK:gZ vm ((l.length-a.off)/(sz+1))with _|M0;simp[rK]at h;simp only[rK]at h;rcases mH:Nat.ble (a.off+M0*(sz+1)) l.length with _|_;simp[mH]at h;simp only[mH,zC]at h;rcases hb:fF n M0 lo hi (some vm)with _|q;simp[hb]at h;obtain⟨l1,hh,M⟩:=q;simp only[hb]at h;rcases hMc:Nat.blt M bL with _|_;simp[hMc]at h;simp only[hMc,zC,zA]at h;subst h;have hMc':M<bL:=BW hMc;have wj:M0<=m.cp a.block-bE c:=by have:=(K1 (P:=P) m w rK _ (zF _) .index).2;omega
     obtain⟨b1,b2,b3,_⟩:=H6 (P:=P) (isS:=true) m w hb wj;simp only[Option.isSome_some,if_true,zM]at b1;have hMl:M-l1<bL:=Nat.lt_of_le_of_lt (Nat.sub_le _ _) hMc';have hrun:(Instr.sliceAt t (aD m (.slice (some a) n c)) (lo.map (aD m)) (hi.map (aD m)) ((some vm).map (aD m))).run P w=.ok (.slice (if M=l1 then some ⟨m.blk a.block,m.sh a.block+a.off,none⟩else some ⟨m.blk a.block,m.sh a.block+a.off+l1*(sz+1),none⟩) (hh-l1) (M-l1)) w:=by rw[ecx];simp only[Instr.sliceAt,zK,hu,zJ,Instr.slice,b1,kS hT w hs,zL,zM,sZ]
     rw[hrun];by_cases v7:M=l1;rw[v7]at hMl ⊢;simp only[yC,zC,aD,if_true,bJ,if_pos hMl];simp only[decide_eq_false v7,zD,aD,if_neg v7,bJ,if_pos hMl,Nat.add_assoc]
    |none=>
     simp only at h;rcases hb:fF n ((l.length-a.off)/(sz+1)) lo hi none with _|q;simp[hb]at h;obtain⟨l1,hh,M⟩:=q;simp only[hb]at h;rcases mH:Nat.ble (a.off+hh*(sz+1)) l.length with _|_;simp[mH]at h;simp only[mH,zC]at h;have RT:a.off+hh*(sz+1)<=l.length:=zY mH;have hhC:=Mi m w hf (c:=c) (n:=hh) (off:=a.off) hl hoff RT;obtain⟨b1,b2,_,b4⟩:=H6 (P:=P) (isS:=true) m w hb hknown;simp only[Option.isSome_none,Bool.false_eq_true,if_false]at b1;have hrun:(Instr.sliceAt t (aD m (.slice (some a) n c)) (lo.map (aD m)) (hi.map (aD m)) ((none:Option Value).map (aD m))).run P w=.ok (.slice (if m.cp a.block-bE c=l1 then some ⟨m.blk a.block,m.sh a.block+a.off,none⟩else some ⟨m.blk a.block,m.sh a.block+a.off+l1*(sz+1),none⟩) (hh-l1) (m.cp a.block-bE c-l1)) w:=by rw[ecx];simp only[Instr.sliceAt,zK,hu,zJ,Instr.slice,b1,kS hT w hs,zL,zM,sZ]
     cases l1 with
     |zero=>simp only[zA]at h;subst h;rw[Nat.sub_zero,Nat.sub_zero,Nat.zero_mul,Nat.add_zero]at hrun;by_cases hC:m.cp a.block-bE c=0;rw[if_pos hC]at hrun;rw[hrun];simp only[aD,bJ,if_neg hc'];rw[if_neg hC]at hrun;rw[hrun];simp only[aD,bJ,if_neg hc']|succ l1=>
      simp only at h;rcases hlt:Nat.blt (l1+1) hh with _|_;simp[hlt]at h;have hlt':l1+1<hh:=BW hlt;simp only[hlt,zC,zA]at h;subst h;have hne:¬ m.cp a.block-bE c=l1+1:=by omega
      have hnc:¬ c+(l1+1)<bL:=fun hh=>hc' (Nat.lt_of_le_of_lt (Nat.le_add_right _ _) hh);have hcd:bE (c+(l1+1))=bE c+(l1+1):=bq (Nat.le_of_not_lt hc') _;rw[hrun];simp only[aD,bJ,if_neg hnc,if_neg hne,hcd,Nat.add_assoc,Nat.sub_sub]
    rw[decide_eq_false hoff]at h;simp at h
  |_=>simp[hd]at h
 |_=>simp[hd]at h
theorem Vs(hf:Fits m s w){tm:List Value}{a:Act}(ha:a.tmps=⟨aE m tm⟩)(o:Oper)(h:kP T tm s o.op=some v): (execOp a.eval o).run P w=.ok (.value (aD m v)) w:=by
  obtain⟨dst,op,type,pos,after,guard⟩:=o;simp only at h;unfold kP at h;cases op with
  |load t x=>
    simp only at h;rcases hx:evalO tm x with _|u;simp[hx]at h;cases u with
    |pointer p=>rcases p with _|b;simp[hx]at h;simp only[hx]at h;rcases hl:lk s.h b.block with _|blk;simp[hl]at h;rcases blk with⟨l,e,md⟩|⟨es,c⟩;simp only[hl]at h;have:=Lz hT m w hf hl h;simp[execOp,iQ ha hx,aD,Instr.loadAt,Instr.sureAddr,this];simp[hl]at h
    |_=> simp[hx]at h
  |slice t x lo hi mx=>simp only at h;rcases hx:evalO tm x with _|u;simp[hx]at h;rcases h1:nX tm lo with _|l;simp[hx,h1]at h;rcases h2:nX tm hi with _|hh;simp[hx,h1,h2]at h;rcases h3:nX tm mx with _|mm;simp[hx,h1,h2,h3]at h;simp only[hx,h1,h2,h3]at h;have:=z4s hT m w hf h;simp only[execOp,iQ ha hx,GZ ha h1,GZ ha h2,GZ ha h3];rw[zK,this];rfl
  |lookup t x k ok=>
    simp only at h;rcases hd:T.und t with _|d;simp[hd]at h;cases d with
    |map kt et=>
      simp only[hd]at h;rcases hx:evalO tm x with _|u;simp[hx]at h;cases u with
      |map r=>
        simp only[hx]at h;rcases hk:evalO tm k with _|kv;simp[hk]at h;simp only[hk]at h;rcases hkx:lS T 50 kt kv with _|_;simp[hkx]at h;simp only[hkx,zC]at h;obtain⟨ty,hty⟩:=Mp hkx;have main : ∀ es : List MapEntry, (match nG T kt kv es 0 with
              |none=> none|some (some (_,v))=> some (cond ok (.tuple #[v, .bool true]) v)
              |some none=> match T.inf et with
                |some (_,_,z)=> some (cond ok (.tuple #[z, .bool false]) z)|none=> none)=some v->
            (Instr.checkKey (es.map (dU m)).toArray.isEmpty 10000 kt (aD m kv)).run P w=.ok () w/\
            ((∃pi pv,(Instr.findKey kt (aD m kv) (es.map (dU m))).run P w=.ok (some (pi,pv)) w/\aD m v=if ok=true then Value.tuple #[pv, .bool true]else pv)\/
             (∃z,(Instr.findKey kt (aD m kv) (es.map (dU m))).run P w=.ok none w/\(zeroValue et).run P w=.ok z w/\aD m v=if ok=true then Value.tuple #[z, .bool false]else z)):=by
          intro es he;refine⟨ZF hT m _ 50 9950 w hkx, ?_⟩;rcases hfx:nG T kt kv es 0 with _|fr;simp[hfx]at he;have h2:=GV hT m w hty hfx;cases fr with
          |none=>simp only[hfx]at he;rcases hi:T.inf et with _|y;simp[hi]at he;obtain⟨y1,y2,z⟩:=y;obtain⟨hz,hzr⟩:=BT hT m w hi;simp only at hz hzr;simp[hi]at he;subst he;refine .inr ⟨z,h2,hz, ?_⟩;cases ok<;>simp[aD,aE,hzr]
          |some p=>obtain⟨pi,pv⟩:=p;simp[hfx]at he;subst he;refine .inl ⟨pi,aD m pv,h2, ?_⟩;cases ok<;>simp[aD,aE]
        cases r with
        |none=>simp only at h;obtain⟨h1,⟨pi,pv,h2,h3⟩|⟨z,h2,AF,h3⟩⟩:=main [] h;simp only[List.map_nil]at h1 h2;simp only[execOp,iQ ha hx,iQ ha hk,zK,Instr.lookup,fS hT w hd,zJ,aD,zL,h1,h2,h3];simp only[List.map_nil]at h1 h2;simp only[execOp,iQ ha hx,iQ ha hk,zK,Instr.lookup,fS hT w hd,zJ,aD,zL,h1,h2,AF,h3]
        |some r=>simp only at h;rcases hl:lk s.h r with _|blk;simp[hl]at h;rcases blk with x |⟨es,c⟩;simp[hl]at h;simp only[hl]at h;have hb:w.heap[m.blk r]? = some (.map (es.map (dU m)).toArray c):=hf.ok r _ hl;obtain⟨h1,⟨pi,pv,h2,h3⟩|⟨z,h2,AF,h3⟩⟩:=main es h;simp only[execOp,iQ ha hx,iQ ha hk,zK,Instr.lookup,fS hT w hd,zJ,aD,zL,EX hb,h1,h2,h3];simp only[execOp,iQ ha hx,iQ ha hk,zK,Instr.lookup,fS hT w hd,zJ,aD,zL,EX hb,h1,h2,AF,h3]
      |_=> simp[hx]at h
    |_=> simp[hd]at h
  |call c=>
    obtain⟨callee,args,ats⟩:=c;simp only at h;cases callee with
    |builtin b=>
      cases b with
      |len=>
        simp only at h;rcases hx:iH tm args.toList with _|vs;simp[hx]at h;rcases vs with _ |⟨x,_ |⟨y,l⟩⟩;simp[hx]at h;cases x with
        |map r=>
          obtain⟨ats⟩:=ats;rcases ats with _|⟨t,ts⟩;simp[hx]at h;simp only[hx]at h;have e1:=pH ha hx;simp only[aE]at e1;rcases hd:T.und t with _|d;simp[hd]at h;cases d with
          |map kt et=>
            simp only[hd]at h;simp only[execOp,zK,resolve,zL,zJ,invoke,builtin,e1];cases r with
            |none=>simp at h;subst h;simp[Builtin.len_,fS hT w hd,aD,goInt]|some r=>simp only at h;rcases hl:lk s.h r with _|blk;simp[hl]at h;rcases blk with x |⟨es,c⟩;simp[hl]at h;simp only[hl,zA]at h;subst h;have hb:w.heap[m.blk r]? = some (.map (es.map (dU m)).toArray c):=hf.ok r _ hl;simp[Builtin.len_,fS hT w hd,aD,goInt,EX hb]
          |_=> simp[hd]at h
        |_=> simp[hx]at h
        simp[hx]at h
      |_=> simp at h
    |_=> simp at h
  |_=> simp at h
end
end Go.Rx
