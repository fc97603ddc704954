import Derived.Laws.StructEq
import Derived.Test.YtmflfedkfdkipaaGreatP2
set_option linter.all false
namespace Go.Rx
open Go
structure j0(P:DC)(T:Tb):Prop where
 und:∀t d,T.und t=some d->P.underlying t=some d
 inf:∀t a b z,T.inf t=some (a,b,z)->plain z=true/\∃i,P.info? t=some i/\i.size=a/\i.bytes=b/\i.zero=some z
 fn : ∀ f g, T.fn f = some g → P.funcs[f]? = some g ∧ (g.body.isSome = true → (g.name == "runtime.NumGoroutine") = false)
 eqs:∀t,T.eqs t=true->P.stoodInHeld t=false/\P.eqGuardType P.depth t=false
 mixed:P.follows .mixedOrders=true
def kK{v12:Type}(l:X v12)(n:Nat):nth l n=l[n]?:=by induction l generalizing n with|nil=>simp[nth]|cons a l ih=>cases n<;>simp[nth,ih]
variable{l:X Value}
variable{n:Nat}
variable{r:X Value}
def qy6(h:GT l n=some r):r=l.take n/\n<=l.length:=by induction l generalizing n r with|nil=>cases n<;>simp_all[GT]|cons v l ih=>cases n with|zero=>simp_all[GT]|succ n=>simp only[GT]at h;rcases hl:GT l n with _|r';simp[hl]at h;simp[hl]at h;obtain⟨e,hn⟩:=ih hl;subst h;simp[e];exact hn
variable{off:Nat}
def jd(h:uV l off n=some r):r=(l.drop off).take n/\n<=l.length-off:=by have:=qy6 h;simpa using this
def iw(h:uV l off n=some r):r.length=n:=by obtain⟨rfl,hn⟩:=jd h;simp;omega
def z2p(h:uV l off n=some r){j:Nat}{v:Value}(hj:r[j]? = some v):l[off+j]? = some v:=by obtain⟨rfl,hn⟩:=jd h;rw[List.getElem?_take]at hj;split at hj;simpa using hj;cases hj
def z1n{vs:X Value}(h:EZ l vs=some r):vs.length<=l.length/\r=vs++l.drop vs.length:=by induction vs generalizing l r with|nil=>simp[EZ]at h;simp[h]|cons v vs ih=>rcases l with _|⟨x,l⟩;simp[EZ]at h;simp only[EZ]at h;rcases hp:EZ l vs with _|r';simp[hp]at h;simp[hp]at h;obtain⟨e1,e2⟩:=ih hp;subst h;simp[e2];exact e1
def qrh{vs:X Value}(h:y9 l off vs=some r):off+vs.length<=l.length/\r=l.take off++vs++l.drop (off+vs.length):=by
 induction off generalizing l r with
 |zero=>
  have h':EZ l vs=some r:=by cases l<;>simpa[y9]using h
  obtain⟨e1,e2⟩:=z1n h';simp[e2];exact e1
 |succ n ih=>
  rcases l with _|⟨x,l⟩;simp[y9]at h;simp only[y9]at h;rcases hp:y9 l n vs with _|r';simp[hp]at h;simp[hp]at h;obtain⟨e1,e2⟩:=ih hp;subst h;simp only[zO,List.take_succ_cons,List.cons_append,e2];refine⟨by omega,?_⟩;have:n+1+vs.length=(n+vs.length)+1:=by omega
  rw[this,List.drop_succ_cons]
def qwy(h:vD l=true):∀v∈l,v.oneCell'=true:=by induction l with|nil=>simp|cons v l ih=>simp only[vD]at h;rcases hv:v.oneCell' with _|_;simp[hv]at h;simp[hv]at h;intro u hu;rcases zI.1 hu with rfl |hu;exact hv;exact ih h u hu
def qn0{m:Nm}(h:vD l=true):∀v∈aJ m l,v.oneCell'=true:=by intro v hv;rw[mD]at hv;obtain⟨u,hu,rfl⟩:=List.mem_map.1 hv;rw[qt8];exact qwy h u hu
mutual
def O_(m:Nm):(v:Value)->plain v=true->ren m v=v
 |.bool _,_=>by simp[ren]
 |.int _ _,_=>by simp[ren]
 |.string _,_=>by simp[ren]
 |.pointer none,_=>by simp[ren]
 |.slice none _ _,_=>by simp[ren]
 |.map none,_=>by simp[ren]
 |.nilFunc,_=>by simp[ren]
 |.nilIface,_=>by simp[ren]
 |.agg ⟨l⟩,h=>by simp only[plain]at h;simp[ren,e? m l h]
 |.tuple ⟨l⟩,h=>by simp only[plain]at h;simp[ren,e? m l h]
 |.float _ _,h=>by simp[plain]at h
 |.complex _ _ _,h=>by simp[plain]at h
 |.pointer (some _),h=>by simp[plain]at h
 |.slice (some _) _ _,h=>by simp[plain]at h
 |.map (some _),h=>by simp[plain]at h
 |.chan _,h=>by simp[plain]at h
 |.func _ _ _,h=>by simp[plain]at h
 |.iface _ _,h=>by simp[plain]at h
def e?(m:Nm):(l:X Value)->RC l=true->aJ m l=l
 |[],_=>by simp[aJ]
 |v::l,h=>by simp only[RC]at h;rcases hv:plain v with _|_;simp[hv]at h;simp[hv]at h;simp[aJ,O_ m v hv,e? m l h]
end
def qx4(a b:X Yv):lO a b=(a==b):=by
 induction a generalizing b with
 |nil=>cases b<;>simp[lO]|cons x a ih=>
  rcases b with _|⟨y,b⟩;simp[lO];simp only[lO,beq_eq,ih];by_cases e:x=y;subst e;simp;have:x.toNat≠y.toNat:=fun h=>e (UInt8.toNat_inj.1 h)
  simp[this,e]
def qx5(a b:X Yv):kD a b=Op.bytesLess a b:=by
 induction a generalizing b with
 |nil=>cases b<;>simp[kD,Op.bytesLess]|cons x a ih=>
  rcases b with _|⟨y,b⟩;simp[kD,Op.bytesLess];simp only[kD,Op.bytesLess,ih,beq_eq];have aE:Nat.blt x.toNat y.toNat=decide (x<y):=by rw[Bool.eq_iff_iff];simp[Nat.blt_eq,UInt8.lt_iff_toNat_lt]
  rw[aE];by_cases h1:x<y;simp[h1];by_cases e:x=y;subst e;simp;have:x.toNat≠y.toNat:=fun h=>e (UInt8.toNat_inj.1 h);simp[h1,e,this]
section
variable{P:DC}{T:Tb}(hT:j0 P T)(m:Nm){tm:X Value}{a:Act}(w:Nr)
include hT
variable{t:TypeId}
def kM{d:TypeDesc}(h:T.und t=some d):(underlying t).run P w=.ok d w:=run_underlying (hT.und t d h) w
def pR(h:cD T t=some n):(sizeOf t).run P w=.ok n w:=by unfold cD at h;rcases hi:T.inf t with _|x;simp[hi]at h;obtain⟨a,b,z⟩:=x;simp[hi]at h;obtain⟨_,i,h1,h2,_,_⟩:=hT.inf t a b z hi;simp[sizeOf,typeInfo,h1,h2,h]
def NG{x:Nat×Nat×Value}(h:T.inf t=some x):(zeroValue t).run P w=.ok x.2.2 w/\ren m x.2.2=x.2.2:=by obtain⟨a,b,z⟩:=x;obtain⟨hp,i,h1,_,_,h4⟩:=hT.inf t a b z h;exact⟨by simp[zeroValue,typeInfo,h1,h4],O_ m z hp⟩
def qs2{d:TypeDesc}(h:T.und t=some d):(isAgg t).run P w=.ok (qE d) w:=by unfold isAgg;simp only[zK,kM hT w h,zJ];cases d<;>rfl
def qwh{cs:X Value}{v:Value}(h:MZ T t cs off=some v):
  (part t ⟨aJ m cs⟩ off).run P w=.ok (ren m v) w:=by
 unfold MZ at h;rcases hd:T.und t with _|d;simp[hd]at h;simp only[hd]at h;unfold part;simp only[zK,qs2 hT w hd,zJ];cases De:qE d with
 |true=>simp only[De,zC]at h;rcases hs:cD T t with _|n;simp[hs]at h;simp[hs]at h;subst h;simp only[if_true,zK,pR hT w hs,zJ,zL,ren];simp[mD,List.map_drop,List.map_take]
 |false=>simp only[De,zD,kK]at h;simp[mD,h]
end
end Go.Rx
namespace Go.Rx
open Go
set_option maxHeartbeats 2000000
variable{m:Nm}
variable{tm:X Value}
variable{a:Act}
variable{v:Value}
def oP(ha:a.tmps=⟨aJ m tm⟩){x:Xt}(h:evalO tm x=some v):a.eval x=ren m v:=by
 cases x with
 |tmp t=>simp only[evalO,kK]at h;simp[Act.eval,ha,mD,h]|const c=>simp only[evalO]at h;rcases hp:plain c with _|_;simp[hp]at h;simp[hp]at h;subst h;simp[Act.eval,O_ m c hp]
 |func f=>simp[evalO]at h;subst h;simp[Act.eval,ren,aJ]|global g=>simp[evalO]at h
def z4v(ha:a.tmps=⟨aJ m tm⟩){l:X Xt}{vs:X Value}(h:oN tm l=some vs):l.map a.eval=aJ m vs:=by induction l generalizing vs with|nil=>simp[oN]at h;subst h;simp[aJ]|cons x l ih=>simp only[oN]at h;rcases hx:evalO tm x with _|v;simp[hx]at h;rcases hl:oN tm l with _|r;simp[hx,hl]at h;simp[hx,hl]at h;subst h;simp[aJ,oP ha hx,ih hl]
def L3(ha:a.tmps=⟨aJ m tm⟩){l:Zu Xt}{vs:X Value}(h:oN tm l.toList=some vs):l.map a.eval=⟨aJ m vs⟩:=by rw[<-z4v ha h];cases l;simp
def u_(ha:a.tmps=⟨aJ m tm⟩){l:X (Nat×Xt)}{vs:X (Nat×Value)}(h:GY tm l=some vs):
  l.map (fun p=>(p.1,a.eval p.2))=vs.map (fun p=>(p.1,ren m p.2)):=by induction l generalizing vs with|nil=>simp[GY]at h;subst h;simp|cons x l ih=>obtain⟨i,x⟩:=x;simp only[GY]at h;rcases hx:evalO tm x with _|v;simp[hx]at h;rcases hl:GY tm l with _|r;simp[hx,hl]at h;simp[hx,hl]at h;subst h;simp[oP ha hx,ih hl]
def Hs(ha:a.tmps=⟨aJ m tm⟩){x:V Xt}{v:V Value}(h:v7 tm x=some v):x.map a.eval=v.map (ren m):=by rcases x with _|x;simp[v7]at h;subst h;rfl;simp only[v7]at h;rcases hx:evalO tm x with _|u;simp[hx]at h;simp[hx]at h;subst h;simp[oP ha hx]
def qqk(op:BinOp)(t:TypeId)(x y:Xt)(u v:Value)(h1 : ∀a b, ¬ (u=.agg a/\v=.agg b))(h2 : ¬ (u=.nilIface/\v=.nilIface)): eqGuard op t x y u v=pure ():=by
  cases op<;>simp only[eqGuard]<;>first
    |rfl
    | (simp only [Bool.not_true, Bool.false_eq_true, if_false]
       split;simp_all;simp_all;rfl)
def qzi(off:Nat):∀(vs:X Value)(k:Nat)(cells:X Value),off+k+vs.length<=cells.length->
  (vs.zipIdx k).foldl (fun(cs:Zu Value) (p:Value×Nat)=>cs.setIfInBounds (off+p.2) p.1) ⟨cells⟩=⟨cells.take (off+k)++vs++cells.drop (off+k+vs.length)⟩
 |[],k,cells,_=>by simp
 |v::vs,k,cells,h=>by
  simp only[zO]at h;simp only[List.zipIdx_cons,List.foldl_cons,List.setIfInBounds_toArray];rw[qzi off vs (k+1) (cells.set (off+k) v) (by simp;omega)];congr 1;have e1:(cells.set (off+k) v).take (off+(k+1))=cells.take (off+k)++[v]:=by rw[show off+(k+1)=off+k+1 by omega,List.take_set,List.take_succ_eq_append_getElem qq0];rw[List.set_append_right _ _ (by simp;omega)];simp[Nat.min_eq_left (show off+k<=cells.length by omega)]
  have e2:(cells.set (off+k) v).drop (off+(k+1)+vs.length)=cells.drop (off+k+(v::vs).length):=by rw[List.drop_set_of_lt qq0];congr 1;simp;omega
  rw[e1,e2];simp
def Oy(m:Nm)(place:Nat->V (Nat×Nat)):∀(ps:X (Nat×Value))(cells r:X Value),DI place cells ps=some r->
  Instr.fill place ⟨aJ m cells⟩ (ps.map fun p=>(p.1,ren m p.2))=some ⟨aJ m r⟩
 |[],cells,r,h=>by simp[DI]at h;simp[Instr.fill,h]
 |(i,v)::ps,cells,r,h=>by
  simp only[DI]at h;rcases hp:place i with _|x;simp[hp]at h;obtain⟨off,size⟩:=x;simp only[hp,beq_eq]at h;by_cases hs:v.cells.toList.length=size;simp only[hs,yC,zC]at h;rcases hq:y9 cells off v.cells.toList with _|c;simp[hq]at h;simp only[hq]at h;obtain⟨h1,h2⟩:=qrh hq;have eY:v.cells.size=size:=by simpa using hs
  simp only[zQ,Instr.fill,hp,kc,v15,eY];have eT:(decide (size≠size)||decide (off+size>(⟨aJ m cells⟩:Zu Value).size))=false:=by simp;simp[eY]at h1;omega
  rw[eT];simp only[Bool.false_eq_true,if_false];have Ws:((uB m v.cells).zipIdx.foldl (fun(cs:Zu Value) (p:Value×Nat)=>cs.setIfInBounds (off+p.2) p.1) ⟨aJ m cells⟩)=⟨aJ m c⟩:=by rw[<-Array.foldl_toList,Array.toList_zipIdx,lM,qzi off _ 0 _ (by simp;simpa using h1)];rw[h2];simp[mD,List.map_drop,List.map_take]
  exact(congrArg (fun z=>Instr.fill place z (ps.map fun p=>(p.1,ren m p.2))) Ws).trans (Oy m place ps c r h);simp only[hs,yB,zD]at h;cases h
section
variable{P:DC}{T:Tb}(hT:j0 P T)(m:Nm)(w:Nr)
include hT
variable{t:TypeId}
variable{x:Value}
def Dy(op:BinOp)(ox oy:Xt){y:Value}{b:PE}(h:M3 T t x y=some b):(eqGuard op t ox oy (ren m x) (ren m y)).run P w=.ok () w/\
  (binOp .eql t (ren m x) (ren m y)).run P w=.ok (.bool b) w/\(binOp .neq t (ren m x) (ren m y)).run P w=.ok (.bool (!b)) w:=by
 unfold M3 at h;obtain⟨k,hE⟩:∃k,∀u v,Op.equal t u v=Op.equalIn (k+1) t u v:=⟨9999,fun _ _=>rfl⟩;have fin:∀{x y:Value}(hu:(∀a c,¬ (ren m x=.agg a/\ren m y=.agg c))/\¬ (ren m x=.nilIface/\ren m y=.nilIface)),(eqGuard op t ox oy (ren m x) (ren m y)).run P w=.ok () w:=fun hu=>by rw[qqk op t ox oy _ _ hu.1 hu.2];rfl
 split at h;rename_i hd;have hu:=kM hT w hd;cases h;exact⟨fin (by simp[ren]),by simp[ren,binOp,hE,Op.equalIn,hu],by simp[ren,binOp,hE,Op.equalIn,hu]⟩;rename_i a c hd;have hu:=kM hT w hd;cases a<;>cases c<;>simp[FJ]at h<;>subst h<;>exact⟨fin (by simp[ren]),by simp[ren,binOp,hE,Op.equalIn,hu],by simp[ren,binOp,hE,Op.equalIn,hu]⟩;rename_i a c hd;have hu:=kM hT w hd;cases a<;>cases c<;>simp[FJ]at h<;>subst h<;>exact⟨fin (by simp[ren]),by simp[ren,binOp,hE,Op.equalIn,hu],by simp[ren,binOp,hE,Op.equalIn,hu]⟩;rename_i a _ _ c _ _ hd;have hu:=kM hT w hd;cases a<;>cases c<;>simp[FJ]at h<;>subst h<;>exact⟨fin (by simp[ren]),by simp[ren,binOp,hE,Op.equalIn,hu],by simp[ren,binOp,hE,Op.equalIn,hu]⟩;rename_i hd;have hu:=kM hT w hd;cases h;exact⟨fin (by simp[ren]),by simp[ren,binOp,hE,Op.equalIn,hu],by simp[ren,binOp,hE,Op.equalIn,hu]⟩;cases h
def Ev(op:BinOp)(ox oy:Xt){y:Value}(h:sF T op t x y=some v):
  (do eqGuard op t ox oy (ren m x) (ren m y);binOp op t (ren m x) (ren m y):Sem Value).run P w=.ok (ren m v) w:=by
 by_cases hi:∃k a k' b,x=.int k a/\y=.int k' b
 ·obtain⟨k,a,k',b,rfl,rfl⟩:=hi;simp only[sF]at h;simp only[ren,eqGuard_at_int,zK,zL,zJ];by_cases hk:k=k'
  ·subst hk;cases op<;>simp[kB]at h<;>first
    |(subst h;simp[binOp,Op.intArith,Op.intBits,Op.intCmp,ren];done)
    |(obtain⟨h1,rfl⟩:=h;simp[binOp,Op.intDiv,Op.shift,ren,h1];done)
    |(obtain⟨h1,rfl⟩:=h;simp[binOp,Op.shift,ren];omega)
  cases op<;>simp[kB,hk]at h<;>first
   |(obtain⟨h1,rfl⟩:=h;simp[binOp,Op.shift,ren];omega)
 ·by_cases hs:∃a b,x=.string a/\y=.string b
  ·obtain⟨a,b,rfl,rfl⟩:=hs;simp only[sF]at h;simp only[ren,eqGuard_at_string,zK,zL,zJ];have e1:a.toList=a.data.toList:=ByteArray.toList_eq a;have e2:b.toList=b.data.toList:=ByteArray.toList_eq b;cases op<;>simp[GJ]at h<;>first
    |(subst h;simp[binOp,Op.stringOp,ren,e1,e2,qx4,qx5];done)
    |skip
   obtain⟨h1,rfl⟩:=h;have h2:¬ ((a.size+b.size:Nat):Int)>9223372036854775807:=by have ea:a.size=a.data.size:=rfl;have eb:b.size=b.data.size:=rfl;rw[ea,eb];omega
   simp only[binOp,Op.stringOp,IntKind.max_i64,if_neg h2,zL,ren];have e3:a++b=⟨(a.data.toList++b.data.toList).toArray⟩:=by apply ByteArray.ext;simp
   rw[e3]
  unfold sF at h;split at h;exact absurd ⟨_,_,_,_,rfl,rfl⟩ hi;exact absurd ⟨_,_,rfl,rfl⟩ hs;split at h;rename_i b he;obtain⟨g0,g1,g2⟩:=Dy hT m w op ox oy he;cases op<;>simp at h<;>subst h;simp[g0,g1,ren];simp[g0,g2,ren];cases h
omit hT in
def Mx{op:UnOp}{x v:Value}(h:QL op x=some v):(Op.unary op (ren m x)).run P w=.ok (ren m v) w:=by cases op<;>cases x<;>simp[QL]at h<;>subst h<;>simp[Op.unary,ren,Op.intArith,Op.intBits]
def z96{src dst:TypeId}(h:XX T src dst x=some v):(convert src dst (ren m x)).run P w=.ok (ren m v) w:=by unfold XX at h;rcases h1:T.und src with _|d1;simp[h1]at h;rcases h2:T.und dst with _|d2;simp[h1,h2]at h;simp only[h1,h2]at h;unfold convert;simp only[zK,kM hT w h1,kM hT w h2,zJ];cases d2<;>cases x<;>simp at h<;>subst h<;>cases d1<;>simp[ren,Conv.intToInt]
def qxn(fs:X Field)(hs:H4 T fs=true):(fs.mapM (fun f=>do pure (f.offset,<-sizeOf f.type):Field->Sem (Nat×Nat))).run P w=.ok (fs.map fun f=>(f.offset,(cD T f.type).getD 0)) w:=by induction fs with|nil=>simp|cons f fs ih=>simp only[H4]at hs;rcases hf:cD T f.type with _|n;simp[hf]at hs;simp only[hf]at hs;have pw:=ih hs;simp only[List.mapM_cons,zK,pR hT w hf,zJ,zL,pw,zQ,hf,Option.getD_some]
omit hT in
def qy3{fs:X Field}(hs:H4 T fs=true){i:Nat}{f:Field}(hf:fs[i]? = some f):∃n,cD T f.type=some n:=by
 induction fs generalizing i with
 |nil=>simp at hf|cons g fs ih=>
  simp only[H4]at hs;rcases hg:cD T g.type with _|n;simp[hg]at hs;simp only[hg]at hs;cases i with
  |zero=>simp at hf;subst hf;exact⟨n,hg⟩|succ i=>exact ih hs (by simpa using hf)
def z4c{ps:X (Nat×Value)}(h:Ok T t ps=some v):
  (Instr.build t (ps.map fun p=>(p.1,ren m p.2)).toArray).run P w=.ok (ren m v) w:=by
 unfold Ok at h;rcases hi:T.inf t with _|x;simp[hi]at h;obtain⟨a,b,z⟩:=x;obtain⟨hz,CE⟩:=NG hT m w hi;simp only at hz CE;have CF:z.cells=⟨aJ m z.cells.toList⟩:=by
  conv=>lhs;rw[<-CE,kc]
  cases z.cells;simp
 simp only[hi]at h;unfold Instr.build;simp only[zK,hz,zJ];rcases hd:T.und t with _|d;simp[hd]at h;simp only[kM hT w hd,zJ];cases d with
 |struct fs=>
  simp only[hd]at h;rcases hs:H4 T fs.toList with _|_;simp[hs]at h;simp only[hs,zC]at h;rcases hf:DI (KZ T fs.toList) z.cells.toList ps with _|cs;simp[hf]at h;simp[hf]at h;subst h;have hm:=qxn hT w fs.toList hs;have jR:(fs.mapM (fun f=>do pure (f.offset,<-sizeOf f.type):Field->Sem (Nat×Nat))).run P w=.ok ⟨fs.toList.map fun f=>(f.offset,(cD T f.type).getD 0)⟩ w:=by rw[Array.mapM_eq_mapM_toList];simp only[Sem.run_map,hm,zJ]
  have vO:(fun i=>(⟨fs.toList.map fun f=>(f.offset,(cD T f.type).getD 0)⟩:Zu (Nat×Nat))[i]?)=KZ T fs.toList:=by
   funext i;simp only[KZ,kK];rcases TY:fs.toList[i]? with _|f;simp at TY;simp[TY];obtain⟨n,hn⟩:=qy3 hs TY;have:fs[i]? = some f:=by simpa using TY
   simp[this,hn]
  have lT:=Oy m (KZ T fs.toList) ps z.cells.toList cs hf;simp only[zK,jR,zJ,vO];rw[CF];simp only[lT,zL,ren,lY]
 |array n e=>simp only[hd]at h;rcases hs:cD T e with _|k;simp[hs]at h;simp only[hs]at h;rcases hf:DI (fun i=>some (i*k,k)) z.cells.toList ps with _|cs;simp[hf]at h;simp[hf]at h;subst h;have lT:=Oy m (fun i=>some (i*k,k)) ps z.cells.toList cs hf;simp only[zK,pR hT w hs,zJ];rw[CF];simp only[lT,zL,ren,lY]
 |_=>simp[hd]at h
omit hT in
def FD(b o n:Nat):(⟨b,o,none⟩:Addr).add n=⟨b,o+n,none⟩:=Addr.add_lit b o n
def qxf{st:TypeId}{f:Nat}(h:Pk T st x f=some v):(Instr.fieldAt st (ren m x) f).run P w=.ok (ren m v) w:=by
 unfold Pk at h;rcases hd:T.und st with _|d;simp[hd]at h;cases d with
 |struct fs=>
  simp only[hd,kK]at h;rcases hf:fs.toList[f]? with _|fd;simp at hf;simp[hf]at h;have xH:fs[f]? = some fd:=by simpa using hf
  simp only[hf]at h;cases x with
  |pointer p=>rcases p with _|a;simp at h;simp only at h;rcases hs:cD T fd.type with _|n;simp[hs]at h;cases n with|zero=>simp[hs]at h|succ n=>simp[hs]at h;subst h;simp[Instr.fieldAt,kM hT w hd,xH,ren,Instr.sureAddr,fieldPlace,pR hT w hs,FD,Nat.add_assoc]
  |_=>simp at h
 |_=>simp[hd]at h
def z4x{st:TypeId}{f:Nat}(h:Og T st x f=some v):(Instr.field st (ren m x) f).run P w=.ok (ren m v) w:=by
 unfold Og at h;rcases hd:T.und st with _|d;simp[hd]at h;cases d with
 |struct fs=>
  simp only[hd,kK]at h;rcases hf:fs.toList[f]? with _|fd;simp at hf;simp[hf]at h;have xH:fs[f]? = some fd:=by simpa using hf
  simp only[hf]at h;cases x with
  |agg cs=>obtain⟨cs⟩:=cs;simp only at h;simp[Instr.field,kM hT w hd,xH,ren,asAgg,qwh hT m w h]
  |_=>simp at h
 |_=>simp[hd]at h
omit hT in
def Hj{i:Int}{n:Nat}(h:sL i n=true):0<=i/\i<n:=by cases i with|ofNat k=>simp only[sL,Nat.blt_eq]at h;exact⟨Int.natCast_nonneg k,Int.ofNat_lt.2 h⟩|negSucc k=>simp[sL]at h
def qxk{ix:Value}(h:Pg T t x ix=some v):(Instr.indexAt t (ren m x) (ren m ix)).run P w=.ok (ren m v) w:=by
 unfold Pg at h;cases ix with
 |int k i=>
  simp only at h;rcases hd:T.und t with _|d;simp[hd]at h;cases d with
  |array n e=>
   simp only[hd]at h;cases x with
   |pointer p=>rcases p with _|a;simp at h;simp only at h;rcases hr:sL i n with _|_;simp[hr]at h;rcases hs:cD T e with _|sz;simp[hr,hs]at h;simp[hr,hs]at h;subst h;have:=Hj hr;simp[Instr.indexAt,asIntOf,ren,kM hT w hd,Instr.sureAddr,this,pR hT w hs,FD,Nat.add_assoc]
   |_=>simp at h
  |slice e=>
   simp only[hd]at h;cases x with
   |slice p n c=>rcases p with _|a;simp at h;simp only at h;rcases hr:sL i n with _|_;simp[hr]at h;rcases hs:cD T e with _|sz;simp[hr,hs]at h;simp[hr,hs]at h;subst h;have:=Hj hr;simp[Instr.indexAt,asIntOf,ren,kM hT w hd,this,pR hT w hs,FD,Nat.add_assoc]
   |_=>simp at h
  |_=>simp[hd]at h
 |_=>simp at h
def z58{ix:Value}(h:Y4 T t x ix=some v):(Instr.index t (ren m x) (ren m ix)).run P w=.ok (ren m v) w:=by
 unfold Y4 at h;cases ix with
 |int k i=>
  simp only at h;rcases hd:T.und t with _|d;simp[hd]at h;cases d with
  |array n e=>
   simp only[hd]at h;cases x with
   |agg cs=>obtain⟨cs⟩:=cs;simp only at h;rcases hr:sL i n with _|_;simp[hr]at h;rcases hs:cD T e with _|sz;simp[hr,hs]at h;simp only[hr,hs,zC]at h;have:=Hj hr;simp[Instr.index,asIntOf,ren,kM hT w hd,this,pR hT w hs,qwh hT m w h]
   |_=>simp at h
  |string=>
   simp only[hd]at h;cases x with
   |string s=>
    simp only[kK]at h;rcases hr:sL i s.data.toList.length with _|_;simp only[hr,zD]at h;cases h;simp only[hr,zC]at h;have hi:=Hj hr;rcases hb:s.data.toList[i.toNat]? with _|b;simp[hb]at h;simp[hb]at h;subst h;have cK:s[i.toNat]? = some b:=by
     have:s.data[i.toNat]? = some b:=by simpa using hb
     obtain⟨aE,e⟩:=Array.getElem?_eq_some_iff.1 this;have xD:i.toNat<s.size:=aE;rw[getElem?_pos s i.toNat xD];exact congrArg some e
    simp[Instr.index,asIntOf,ren,kM hT w hd,hi.1,cK]
   |_=>simp at h
  |_=>simp[hd]at h
 |_=>simp at h
omit hT in
def qxd{x v:Value}{i:Nat}(h:Hr x i=some v):(Instr.extract (ren m x) i).run P w=.ok (ren m v) w:=by
 cases x with
 |tuple vs=>obtain⟨vs⟩:=vs;simp only[Hr,kK]at h;simp[Instr.extract,ren,mD,h]
 |_=>simp[Hr]at h
end
end Go.Rx
namespace Go.Rx
open Go
section
variable{P:DC}{T:Tb}(hT:j0 P T)(m:Nm)(w:Nr)
include hT
variable{v:Value}
def Ad{t ty:TypeId}{ts:X TypeId}{x:Value}(h:HK T t x=some v):(Builtin.len_ (t::ts).toArray ty #[ren m x]).run P w=.ok (ren m v) w:=by
 unfold HK at h;rcases hd:T.und t with _|d;simp[hd]at h;simp only[hd]at h;have hu:=kM hT w hd;cases d with
 |string=>cases x<;>simp at h;subst h;rename_i s;simp only[Builtin.len_,List.getElem?_toArray,List.getElem?_cons_zero,zK,hu,zJ,ren,goInt,zL]|slice e=>
  cases x with
  |slice a _ _=>simp only[zA]at h;subst h;cases a<;>simp[Builtin.len_,hu,ren,goInt]|chan r=>rcases r with _|r;simp at h;simp only[zA]at h;subst h;simp[Builtin.len_,hu,ren,goInt]
  |_=>simp at h
 |array n e=>simp at h;subst h;simp[Builtin.len_,hu,ren,goInt]|_=>simp at h
omit hT in
def ZZ{x v:Value}{l:X Value}(h:wC R8 x l=some v):((aJ m l).foldlM Builtin.max2 (ren m x)).run P w=.ok (ren m v) w:=by
 induction l generalizing x with
 |nil=>simp[wC]at h;simp[aJ,h]|cons y l ih=>
  simp only[wC]at h;rcases nK:R8 x y with _|z;simp[nK]at h;simp only[nK]at h;have:(Builtin.max2 (ren m x) (ren m y)).run P w=.ok (ren m z) w:=by cases x<;>cases y<;>simp[R8]at nK;subst nK;simp[ren,Builtin.max2]
  simp only[aJ,List.foldlM_cons,zK,this,zJ];exact ih h
omit hT in
def ZY{x v:Value}{l:X Value}(h:wC R7 x l=some v):((aJ m l).foldlM Builtin.min2 (ren m x)).run P w=.ok (ren m v) w:=by
 induction l generalizing x with
 |nil=>simp[wC]at h;simp[aJ,h]|cons y l ih=>
  simp only[wC]at h;rcases nK:R7 x y with _|z;simp[nK]at h;simp only[nK]at h;have:(Builtin.min2 (ren m x) (ren m y)).run P w=.ok (ren m z) w:=by cases x<;>cases y<;>simp[R7]at nK;subst nK;simp[ren,Builtin.min2]
  simp only[aJ,List.foldlM_cons,zK,this,zJ];exact ih h
omit hT in
def C_{v:Value}{y n:Nat}(h:wE v y=some n)(v00:Nat)(hY:y<=v00)(code:BoundsCode):(Instr.sliceBound (ren m v) v00 code).run P w=.ok n w/\n<=y:=by
 cases v with
 |int k i=>
  simp only[wE]at h;rcases hr:sL i (y+1)with _|_;simp[hr]at h;simp[hr]at h;subst h;have:=Hj hr;refine⟨?_,by omega⟩;have h2:0<=i/\i<=(v00:Int):=by omega
  simp[Instr.sliceBound,ren,asIntOf,h2]
 |_=>simp[wE]at h
omit hT in
def Pt{isS:PE}{n c v00:Nat}{lo hi:V Value}{l h M:Nat}(hb:mV n c lo hi=some (l,h,M))(hY:c<=v00):
  (Instr.sliceBounds isS n v00 (lo.map (ren m)) (hi.map (ren m)) none).run P w=.ok (l,h,v00) w/\l<=h/\M=c/\(hi.isSome=true->h<=c)/\(hi=none->h=n):=by
 unfold mV at hb;cases hi with
 |some u=>
  simp only at hb;rcases h2:wE u c with _|h';simp[h2]at hb;simp only[h2]at hb;have b2:=fun code=>C_ (P:=P) m w h2 v00 hY code
  have q2:=(b2 .index).2;cases lo with
  |none=>simp at hb;obtain⟨rfl,rfl,rfl⟩:=hb;refine⟨?_,by omega,rfl,fun _=>q2,by simp⟩;simp[Instr.sliceBounds,(b2 _).1]
  |some x=>
   simp only at hb;rcases h3:wE x h' with _|l';simp[h3]at hb;simp[h3]at hb;obtain⟨rfl,rfl,rfl⟩:=hb;have b3:=fun code=>C_ (P:=P) m w h3 h' (zF _) code
   have q3:=(b3 .index).2;refine⟨?_,q3,rfl,fun _=>q2,by simp⟩;simp[Instr.sliceBounds,(b2 _).1,(b3 _).1]
 |none=>
  simp only at hb;cases lo with
  |none=>simp at hb;obtain⟨rfl,rfl,rfl⟩:=hb;refine⟨?_,by omega,rfl,by simp,by simp⟩;simp[Instr.sliceBounds]
  |some x=>
   simp only at hb;rcases h3:wE x n with _|l';simp[h3]at hb;simp[h3]at hb;obtain⟨rfl,rfl,rfl⟩:=hb;have b3:=fun code=>C_ (P:=P) m w h3 n (zF _) code
   have q3:=(b3 .index).2;refine⟨?_,q3,rfl,by simp,by simp⟩;simp[Instr.sliceBounds,(b3 _).1]
def z6e{t:TypeId}{x:Value}{lo hi:V Value}(h:tN T t x lo hi=some v):
  (Instr.sliceAt t (ren m x) (lo.map (ren m)) (hi.map (ren m)) none).run P w=.ok (ren m v) w:=by
 unfold tN at h;rcases hd:T.und t with _|d;simp[hd]at h;simp only[hd]at h;have hu:=kM hT w hd;cases d with
 |slice e=>
  cases x with
  |slice a n c=>
   simp only at h;cases hc:Nat.blt c cV with
   |false=>
    simp only[hc,zD]at h;unfold emptyS at h;rcases a with _|a;simp at h;cases n with
    |succ n=>simp at h|zero=>
     simp only at h;rcases hb:mV 0 0 lo hi with _|r;simp[hb]at h;obtain⟨l,hh,M⟩:=r;simp only[hb]at h;cases l with
     |succ l=>simp at h|zero=>cases hh with|succ l=>simp at h|zero=>cases M with|succ l=>simp at h|zero=>simp only at h;rcases hs:cD T e with _|sz;simp[hs]at h;simp only[hs,zA]at h;subst h;obtain⟨h1,_⟩:=Pt (P:=P) (isS:=true) (v00:=dM m a.block c) m w hb (Nat.zero_le _);simp only[Instr.sliceAt,zK,hu,zJ,Instr.slice,ren,h1,pR hT w hs,zL,zM,Nat.zero_mul,Nat.sub_zero,FD,Nat.add_zero,ite_self]
   |true=>
    simp only[hc,zC]at h;have oT:c<cV:=by simpa[Nat.blt_eq]using hc
    rcases hb:mV n c lo hi with _|r;simp[hb]at h;obtain⟨l,hh,M⟩:=r;simp only[hb]at h;rcases hs:cD T e with _|sz;simp[hs]at h;simp only[hs,zA]at h;subst h;have iU:∀i,dM m i c=c:=fun i=>by simp[dM,oT]
    obtain⟨h1,h2,h3,h4,h5⟩:=Pt (P:=P) (isS:=true) (v00:=c) m w hb (zF _);subst h3;have hMl:M-l<cV:=by omega
    cases a with|none=>simp only[Instr.sliceAt,zK,hu,zJ,Instr.slice,ren,h1,pR hT w hs,zL,beq_eq];by_cases e:M=l<;>simp[e,ren]|some a=>simp only[Instr.sliceAt,zK,hu,zJ,Instr.slice,ren,iU,h1,pR hT w hs,zL,beq_eq];by_cases e:M=l;simp[e,ren,dM,cV];simp[e,ren,dM,hMl,FD,Nat.add_assoc]
  |chan r=>
   rcases r with _|r;simp at h;simp only at h;rcases hb:mV 0 0 lo hi with _|q;simp[hb]at h;obtain⟨l,hh,M⟩:=q;simp only[hb]at h;rcases hs:cD T e with _|sz;simp[hs]at h;simp only[hs,zA]at h;subst h;obtain⟨h1,h2,h3,h4,h5⟩:=Pt (P:=P) (isS:=true) (v00:=0) m w hb (zF _);have hz:l=0/\hh=0/\M=0:=by rcases hi with _|v;have:=h5 rfl;omega;have:=h4 rfl;omega
   obtain⟨rfl,rfl,rfl⟩:=hz;simp only[Instr.sliceAt,zK,hu,zJ,Instr.slice,ren,h1,pR hT w hs,zL,if_true,Nat.sub_zero]
  |_=>simp at h
 |_=>simp at h
def za4{tm:X Value}{a:Act}(ha:a.tmps=⟨aJ m tm⟩)(o:Oper)(h:jN T tm o.op=some v):(execOp a.eval o).run P w=.ok (.value (ren m v)) w:=by
 obtain⟨dst,op,type,pos,after,guard⟩:=o;simp only at h;unfold jN at h;cases op with
 |move x=>simp only at h;simp[execOp,oP ha h]|assign x=>simp only at h;simp[execOp,oP ha h]
 |pick c x y=>
  simp only at h;rcases hc:evalO tm c with _|cv;simp[hc]at h;cases cv with
  |bool b=>rcases b with _|_;simp only[hc]at h;simp[execOp,oP ha hc,oP ha h,ren,asBool];simp only[hc]at h;simp[execOp,oP ha hc,oP ha h,ren,asBool]
  |_=>simp[hc]at h
 |build t ps=>
  simp only at h;rcases hp:GY tm ps.toList with _|qs;simp[hp]at h;simp only[hp]at h;have e1:(ps.map fun x=>(x.1,a.eval x.2))=(qs.map fun p=>(p.1,ren m p.2)).toArray:=by rw[<-u_ ha hp];cases ps;simp
  have:=z4c hT m w h;rw[<-e1]at this;simp only[execOp,zK];rw[this];rfl
 |nilCheck x=>
  simp only at h;rcases hx:evalO tm x with _|u;simp[hx]at h;have he:=oP ha hx;cases u with
  |pointer p=>rcases p with _|q;simp[hx]at h;simp[hx]at h;subst h;simp[execOp,he,ren]
  |func fn x y=>cases fn with|func f=>simp[hx]at h;subst h;simp[execOp,he,ren]|_=>simp[hx]at h
  |_=>simp[hx]at h
 |binOp op t x y ty=>simp only at h;rcases hx:evalO tm x with _|u;simp[hx]at h;rcases hy:evalO tm y with _|u';simp[hx,hy]at h;simp only[hx,hy]at h;have:=Ev hT m w op x y h;simp only[execOp,oP ha hx,oP ha hy];rw[zK,this];rfl
 |unOp op t x=>simp only at h;rcases hx:evalO tm x with _|u;simp[hx]at h;simp only[hx]at h;simp[execOp,oP ha hx,Mx m w h]
 |convert s d x=>simp only at h;rcases hx:evalO tm x with _|u;simp[hx]at h;simp only[hx]at h;simp[execOp,oP ha hx,z96 hT m w h]
 |makeFunc fn first cap=>
  simp only at h;rcases hx:oN tm first.toList with _|u
  simp[hx]at h;rcases hy:oN tm cap.toList with _|u';simp[hx,hy]at h;simp only[hx,hy,zA]at h;subst h;simp[execOp,L3 ha hx,L3 ha hy,Instr.makeFunc,ren]
 |slice t x lo hi mx=>
  cases mx with|some _=>simp at h|none=>
  simp only at h;rcases hx:evalO tm x with _|u;simp[hx]at h;rcases h1:v7 tm lo with _|l;simp[hx,h1]at h;rcases h2:v7 tm hi with _|hh;simp[hx,h1,h2]at h;simp only[hx,h1,h2]at h;have:=z6e hT m w h;simp only[execOp,oP ha hx,Hs ha h1,Hs ha h2,Option.map_none];rw[zK,this];rfl
 |fieldAddr t x f=>simp only at h;rcases hx:evalO tm x with _|u;simp[hx]at h;simp only[hx]at h;simp[execOp,oP ha hx,qxf hT m w h]
 |field t x f=>simp only at h;rcases hx:evalO tm x with _|u;simp[hx]at h;simp only[hx]at h;simp[execOp,oP ha hx,z4x hT m w h]
 |indexAddr t x i=>simp only at h;rcases hx:evalO tm x with _|u;simp[hx]at h;rcases hy:evalO tm i with _|u';simp[hx,hy]at h;simp only[hx,hy]at h;simp[execOp,oP ha hx,oP ha hy,qxk hT m w h]
 |index t x i=>simp only at h;rcases hx:evalO tm x with _|u;simp[hx]at h;rcases hy:evalO tm i with _|u';simp[hx,hy]at h;simp only[hx,hy]at h;simp[execOp,oP ha hx,oP ha hy,z58 hT m w h]
 |extract x i=>simp only at h;rcases hx:evalO tm x with _|u;simp[hx]at h;simp only[hx]at h;simp[execOp,oP ha hx,qxd m w h]
 |call c=>
  obtain⟨callee,args,ats⟩:=c;simp only at h;cases callee with
  |builtin b=>
   cases b with
   |len=>simp only at h;rcases hx:oN tm args.toList with _|vs;simp[hx]at h;rcases vs with _ |⟨x,_ |⟨y,l⟩⟩;simp[hx]at h;obtain⟨ats⟩:=ats;rcases ats with _|⟨t,ts⟩;simp[hx]at h;simp only[hx]at h;have e1:=L3 ha hx;simp only[aJ]at e1;have:=Ad hT m w (ty:=type) (ts:=ts) h;simp only[execOp,zK,resolve,zL,zJ,invoke,builtin,e1];rw[this];rfl;simp[hx]at h
   |max=>simp only at h;rcases hx:oN tm args.toList with _|vs;simp[hx]at h;rcases vs with _|⟨x,l⟩;simp[hx]at h;simp only[hx]at h;have e1:=L3 ha hx;simp only[aJ]at e1;have:=ZZ (P:=P) m w h;simp only[execOp,zK,resolve,zL,zJ,invoke,builtin,e1,Builtin.max_];rw[this];rfl
   |min=>simp only at h;rcases hx:oN tm args.toList with _|vs;simp[hx]at h;rcases vs with _|⟨x,l⟩;simp[hx]at h;simp only[hx]at h;have e1:=L3 ha hx;simp only[aJ]at e1;have:=ZY (P:=P) m w h;simp only[execOp,zK,resolve,zL,zJ,invoke,builtin,e1,Builtin.min_];rw[this];rfl
   |_=>simp at h
  |_=>simp at h
 |_=>simp at h
end
def yH.cell{m:Nm}{i:Nat}{l:X Value}{e:TypeId}{w:Nr}{md:Nat}(h:yH m i l e w md){j:Nat}{v:Value}(hj:l[j]? = some v):
  w.cell? ⟨m.blk i,m.sh i+j,none⟩=some (ren m v):=by have aE:j<l.length:=(zG.1 hj).1;rcases md with _ |_ |n;obtain⟨h0,h1⟩:=h;simp[World.cell?,h1,h0,mD,hj];obtain⟨c,e',fr,h1,h2,_⟩:=h;simp[World.cell?,h1,h2 j v hj];obtain⟨pr,rest,h1,h2,_⟩:=h;simp only[World.cell?,h1,Option.isSome_none,Bool.false_eq_true,if_false,List.getElem?_toArray,zT,<-h2];rw[List.getElem?_append_right qq0,Nat.add_sub_cancel_left,List.getElem?_append_left (by simpa using aE)];simp[mD,hj]
variable{c:Nat}
def run_getObj_map{P:DC}{w:Nr}{r:Nat}{es:Zu MapEntry}(h:w.heap[r]? = some (.map es c)):(getObj r).run P w=.ok (.map es c) w:=by simp[getObj,Sem.run,h]
variable{s:S}
def q?{i:Nat}{l:X Value}{e:TypeId}{md:Nat}(h:eR s i=some (l,e,md)):lk s.h i=some (.inl (l,e,md))/\md≠1:=by unfold eR at h;rcases hl:lk s.h i with _|b;simp[hl]at h;rcases b with⟨l',e',md'⟩|⟨es,c⟩;rcases md' with _ |_ |n<;>simp[hl]at h<;>obtain⟨rfl,rfl,rfl⟩:=h<;>simp;simp[hl]at h
def kh{a b:Nat}(h:Nat.blt a b=false):¬ a<b:=fun aE=>by
 have:Nat.blt a b=true:=Nat.ble_eq_true_of_le aE;rw[this]at h;cases h
def YM{a b:Nat}(h:Nat.blt a b=true):a<b:=zY h
def qy4(c b k:Nat)(h:b<=c):c+k-b=c-b+k:=qq0
def z4h(h:cV<=c)(k:Nat):cT (c+k)=cT c+k:=qy4 c cV k h
section
variable{P:DC}{T:Tb}(hT:j0 P T)(m:Nm)(w:Nr)
include hT
variable{t:TypeId}
variable{v:Value}
def z04(hf:Fits m s w){i off:Nat}{l:X Value}{e:TypeId}{md:Nat}(hl:lk s.h i=some (.inl (l,e,md)))
  (h:(match T.und t with
    |none=>none|some d=>cond (qE d) (match cD T t with
      |some n=>match uV l off n with
       |some cs=>some (Value.agg cs.toArray)|none=>none
      |none=>none) (nth l off))=some v):
  (loadVar t ⟨m.blk i,m.sh i+off,none⟩).run P w=.ok (ren m v) w:=by
 have hr:yH m i l e w md:=hf.ok i _ hl;rcases hd:T.und t with _|d;simp[hd]at h;simp only[hd]at h;unfold loadVar;simp only[zK,qs2 hT w hd,zJ];cases De:qE d with
 |true=>
  simp only[De,zC]at h;rcases hs:cD T t with _|n;simp[hs]at h;simp only[hs]at h;rcases hg:uV l off n with _|cs;simp[hg]at h;simp only[hg,zA]at h;subst h;have aQ:(aJ m cs).length=n:=by rw[wL];exact iw hg
  have:=run_loadCells_list (P:=P) w ⟨m.blk i,m.sh i+off,none⟩ (aJ m cs) (fun j u hu=>by rw[mD,List.getElem?_map]at hu;rcases hc:cs[j]? with _|u';simp[hc]at hu;simp[hc]at hu;subst hu;rw[FD,Nat.add_assoc];exact hr.cell (z2p hg hc));rw[aQ]at this;simp[pR hT w hs,this,ren]
 |false=>simp only[De,zD,kK]at h;have:=hr.cell h;simp[this]
omit hT in
def qkx{s:S}{i sz:Nat}{l:X Value}(h:KT s i sz=some l):∃e md,lk s.h i=some (.inl (l,e,md))/\(md=1/\e=sz+1\/md=sz+2):=by unfold KT at h;rcases hl:lk s.h i with _|b;simp[hl]at h;rcases b with⟨l',e',md'⟩|⟨es,c⟩;rcases md' with _ |_ |n;simp[hl]at h;simp only[hl,beq_eq]at h;by_cases he:e'=sz+1;simp only[he,yC,zC,zA]at h;subst h;exact⟨_,_,rfl,.inl ⟨rfl,he⟩⟩;simp[he]at h;simp only[hl,beq_eq]at h;by_cases he:n=sz;simp only[he,yC,zC,zA]at h;subst h;exact⟨_,_,rfl,.inr (by rw[he])⟩;simp[he]at h;simp[hl]at h
omit hT in
def qwn{s:S}(hf:Fits m s w){i c sz:Nat}{l:X Value}(hl:KT s i (sz+1)=some l){off n:Nat}(ho:off=cT c*(sz+1))(hn:off+n*(sz+1)<=l.length):n+cT c<=m.cp i:=by
 obtain⟨e,md,hl,pD⟩:=qkx hl;have h3:l.length<=m.cp i*(sz+1):=by rcases pD with⟨rfl,rfl⟩|rfl;obtain⟨_,_,_,_,_,h3⟩:=hf.ok i _ hl;exact h3 _ rfl;obtain⟨pr,rest,_,_,h3⟩:=hf.ok i _ hl;omega
 have:(n+cT c)*(sz+1)<=m.cp i*(sz+1):=by rw[Nat.add_mul];omega
 exact Nat.le_of_mul_le_mul_right this qq0
def L_(hf:Fits m s w){x:Value}{lo hi:V Value}{l1 hh sz:Nat}{a:Addr}(h:Y0 T s t x lo hi=some (l1,hh,a,c,sz)):
  (Instr.sliceAt t (ren m x) (lo.map (ren m)) (hi.map (ren m)) none).run P w=.ok (.slice (if m.cp a.block-cT c=l1 then some ⟨m.blk a.block,m.sh a.block+a.off,none⟩else some ⟨m.blk a.block,m.sh a.block+a.off+l1*sz,none⟩) (hh-l1) (m.cp a.block-cT c-l1)) w/\
  l1<=hh/\hh+cT c<=m.cp a.block/\¬ c<cV/\∃q,lk s.h a.block=some q:=by
 unfold Y0 at h;rcases hd:T.und t with _|dd;simp[hd]at h;cases dd with
 |slice e=>
  cases x with
  |slice p n c'=>
   rcases p with _|a';simp[hd]at h;simp only[hd]at h;cases hc:Nat.blt c' cV with
   |true=>simp[hc]at h|false=>
    have oT:¬ c'<cV:=kh hc;simp only[hc,zD]at h;rcases hs:cD T e with _|gM;simp[hs]at h;simp only[hs]at h;rcases hr:KT s a'.block gM with _|l;simp[hr]at h;simp only[hr,beq_eq]at h;by_cases fI:a'.off=cT c'*gM;rw[decide_eq_true fI]at h;simp only[zC]at h;rcases iQ:Nat.blt 0 gM with _|_;simp[iQ]at h;have Vq:0<gM:=YM iQ;simp only[iQ,zC]at h;obtain⟨gM,rfl⟩:∃q,gM=q+1:=⟨gM-1,by omega⟩;rcases hb:mV n ((l.length-a'.off)/(gM+1)) lo hi with _|q;simp[hb]at h;obtain⟨l2,h2,M⟩:=q;simp only[hb]at h;rcases Ce:Nat.ble (a'.off+h2*(gM+1)) l.length with _|_;simp[Ce]at h;simp only[Ce,zC,zA,zB]at h;obtain⟨rfl,rfl,rfl,rfl,rfl⟩:=h;obtain⟨_,_,FS,_⟩:=qkx hr;have Cg:(l.length-a'.off)/(gM+1)<=m.cp a'.block-cT c':=by
     rcases Nat.eq_zero_or_pos ((l.length-a'.off)/(gM+1))with h0 |hp;omega;have pU:=Nat.div_mul_le_self (l.length-a'.off) (gM+1);have IK:a'.off<=l.length:=by rcases Nat.lt_or_ge l.length a'.off with aE |IK;rw[show l.length-a'.off=0 by omega]at hp;simp at hp;exact IK
     have:=qwn m w hf (c:=c') (n:=(l.length-a'.off)/(gM+1)) (off:=a'.off) hr fI qq0;omega
    obtain⟨b1,b2,_⟩:=Pt (P:=P) (isS:=true) m w hb Cg;refine⟨?_,b2,qwn m w hf (c:=c') (n:=h2) (off:=a'.off) hr fI (zY Ce),oT,_,FS⟩;simp only[ren,dM,if_neg oT,Instr.sliceAt,zK,kM hT w hd,zJ,Instr.slice,b1,pR hT w hs,zL,zM,FD];rw[decide_eq_false fI]at h;simp at h
  |_=>simp[hd]at h
 |_=>simp[hd]at h
def z2u(hf:Fits m s w){x:Value}{lo hi:V Value}(h:KR T s t x lo hi=some v):
  (Instr.sliceAt t (ren m x) (lo.map (ren m)) (hi.map (ren m)) none).run P w=.ok (ren m v) w:=by
 unfold KR at h;split at h;rename_i hh a c sz hg;obtain⟨dG,_,_,oT,_⟩:=L_ hT m w hf hg;cases h;rw[Nat.sub_zero,Nat.sub_zero,Nat.zero_mul,Nat.add_zero]at dG;by_cases hC:m.cp a.block-cT c=0;rw[if_pos hC]at dG;rw[dG];simp only[ren,dM,if_neg oT];rw[if_neg hC]at dG;rw[dG];simp only[ren,dM,if_neg oT];rename_i l1 hh a c sz hg;obtain⟨dG,_,hC,oT,_⟩:=L_ hT m w hf hg;rcases aE:Nat.blt (l1+1) hh with _|_;simp[aE]at h;have xD:l1+1<hh:=YM aE;simp only[aE,zC,zA]at h;subst h;have cR:¬ m.cp a.block-cT c=l1+1:=by omega
 have IH:¬ c+(l1+1)<cV:=fun hh=>oT (Nat.lt_of_le_of_lt (Nat.le_add_right _ _) hh);have LY:cT (c+(l1+1))=cT c+(l1+1):=z4h (Nat.le_of_not_lt oT) _;rw[dG];simp only[ren,dM,if_neg IH,if_neg cR,LY,Nat.add_assoc,Nat.sub_sub];cases h
def ni(hf:Fits m s w){tm:X Value}{a:Act}(ha:a.tmps=⟨aJ m tm⟩)(o:Oper)(h:v6 T tm s o.op=some v):(execOp a.eval o).run P w=.ok (.value (ren m v)) w:=by
 obtain⟨dst,op,type,pos,after,guard⟩:=o;simp only at h;unfold v6 at h;cases op with
 |load t x=>
  simp only at h;rcases hx:evalO tm x with _|u;simp[hx]at h;cases u with
  |pointer p=>rcases p with _|b;simp[hx]at h;simp only[hx]at h;rcases hl:lk s.h b.block with _|blk;simp[hl]at h;rcases blk with⟨l,e,md⟩|⟨es,c⟩;simp only[hl]at h;have:=z04 hT m w hf hl h;simp[execOp,oP ha hx,ren,Instr.loadAt,Instr.sureAddr,this];simp[hl]at h
  |_=>simp[hx]at h
 |slice t x lo hi mx=>
  cases mx with|some _=>simp at h|none=>
  simp only at h;rcases hx:evalO tm x with _|u;simp[hx]at h;rcases h1:v7 tm lo with _|l;simp[hx,h1]at h;rcases h2:v7 tm hi with _|hh;simp[hx,h1,h2]at h;simp only[hx,h1,h2]at h;have:=z2u hT m w hf h;simp only[execOp,oP ha hx,Hs ha h1,Hs ha h2,Option.map_none];rw[zK,this];rfl
 |_=>simp at h
end
end Go.Rx
