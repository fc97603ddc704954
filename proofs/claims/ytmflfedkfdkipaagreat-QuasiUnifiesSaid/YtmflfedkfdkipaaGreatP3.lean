import Derived.Laws.StructEq
import Derived.Test.YtmflfedkfdkipaaGreatP2
set_option linter.all false
set_option maxHeartbeats 2000000
open List Go.IntKind
open Nat hiding beq_eq
namespace Go.Rx
open Go
structure jW(P:Ua)(T:Tb):Prop where
 I1:∀t d,T.I1 t=some d->P.underlying t=some d
 inf:∀t a b z,T.inf t=some (a,b,z)->plain z=true/\∃i,P.info? t=some i/\i.size=a/\i.bytes=b/\i.zero=some z
 fn : ∀ f g, T.fn f = some g → P.funcs[f]? = some g ∧ (g.body.isSome = true → (g.name == "runtime.NumGoroutine") = false)
 eqs:∀t,T.eqs t=true->P.stoodInHeld t=false/\P.eqGuardType P.depth t=false
 mixed:P.follows .mixedOrders=true
def lW{b:Type}(l:X b)(n:Nat):nth l n=l[n]?:=by induction l generalizing n with|nil=>simp[nth]|cons a l c=>cases n<;>simp[nth,c]
variable{l:X Value}{n:Nat}{r:X Value}
def z0k(h:JB l n=some r):r=l.take n/\n<=l.length:=by induction l generalizing n r with|nil=>cases n<;>simp_all[JB]|cons v l c=>cases n with|zero=>simp_all[JB]|succ n=>simp only[JB]at h;rcases a:JB l n with _|r';simp[a]at h;simp[a]at h;obtain⟨e,b⟩:=c a;subst h;simp[e];exact b
variable{off:Nat}
def tf(h:xM l off n=some r):r=(l.drop off).take n/\n<=l.length-off:=by have:=z0k h;simpa using this
def qwb(h:xM l off n=some r):r.length=n:=by obtain⟨rfl,a⟩:=tf h;simp;omega
def z5i(h:xM l off n=some r){j:Nat}{v:Value}(a:r[j]? = some v):l[off+j]? = some v:=by obtain⟨rfl,b⟩:=tf h;rw[jz]at a;split at a;simpa using a;cases a
def z4k{a:X Value}(h:H5 l a=some r):a.length<=l.length/\r=a++l.drop a.length:=by induction a generalizing l r with|nil=>simp[H5]at h;simp[h]|cons v a e=>obtain _|⟨x,l⟩:=l;simp[H5]at h;simp only[H5]at h;rcases b:H5 l a with _|r';simp[b]at h;simp[b]at h;obtain⟨c,d⟩:=e b;subst h;simp[d];exact c
def qts{a:X Value}(h:BN l off a=some r):off+a.length<=l.length/\r=l.take off++a++l.drop (off+a.length):=by
 induction off generalizing l r with
 |zero=>
  have e:H5 l a=some r:=by cases l<;>simpa[BN]using h
  obtain⟨d,b⟩:=z4k e;simp[b];exact d
 |succ n f=>
  obtain _|⟨x,l⟩:=l;simp[BN]at h;simp only[BN]at h;rcases c:BN l n a with _|r';simp[c]at h;simp[c]at h;obtain⟨d,b⟩:=f c;subst h;simp only[zO,Ga,Zg,b];refine⟨by omega,?_⟩;have:n+1+a.length=(n+a.length)+1:=by omega
  rw[this,drop_succ_cons]
def qzd(h:xY l=true):∀v∈l,v.oneCell'=true:=by induction l with|nil=>simp|cons v l c=>simp only[xY]at h;rcases b:v.oneCell' with _|_;simp[b]at h;simp[b]at h;intro u a;obtain rfl |a:=zI.1 a;exact b;exact c h u a
def qoy{m:Nm}(h:xY l=true):∀v∈aL m l,v.oneCell'=true:=by intro v a;rw[nE]at a;obtain⟨u,b,rfl⟩:=mem_map.1 a;rw[qvi];exact qzd h u b
mutual
def qo2(m:Nm):(v:Value)->plain v=true->H3 m v=v
 |.bool _,_=>by simp[H3]
 |.int _ _,_=>by simp[H3]
 |.string _,_=>by simp[H3]
 |.pointer none,_=>by simp[H3]
 |.slice none _ _,_=>by simp[H3]
 |.map none,_=>by simp[H3]
 |.nilFunc,_=>by simp[H3]
 |.nilIface,_=>by simp[H3]
 |.agg ⟨l⟩,h=>by simp only[plain]at h;simp[H3,qky m l h]
 |.tuple ⟨l⟩,h=>by simp only[plain]at h;simp[H3,qky m l h]
 |.float _ _,h=>by simp[plain]at h
 |.complex _ _ _,h=>by simp[plain]at h
 |.pointer (some _),h=>by simp[plain]at h
 |.slice (some _) _ _,h=>by simp[plain]at h
 |.map (some _),h=>by simp[plain]at h
 |.chan _,h=>by simp[plain]at h
 |.func _ _ _,h=>by simp[plain]at h
 |.iface _ _,h=>by simp[plain]at h
def qky(m:Nm):(l:X Value)->UQ l=true->aL m l=l
 |[],_=>by simp[aL]
 |v::l,h=>by simp only[UQ]at h;rcases a:plain v with _|_;simp[a]at h;simp[a]at h;simp[aL,qo2 m v a,qky m l h]
end
def qzj(a b:X Yv):mR a b=(a==b):=by
 induction a generalizing b with
 |nil=>cases b<;>simp[mR]|cons x a c=>
  obtain _|⟨y,b⟩:=b;simp[mR];simp only[mR,beq_eq,c];by_cases e:x=y;subst e;simp;have:x.toNat≠y.toNat:=fun h=>e (UInt8.toNat_inj.1 h)
  simp[this,e]
def qzk(a b:X Yv):lP a b=Op.bytesLess a b:=by
 induction a generalizing b with
 |nil=>cases b<;>simp[lP,Op.bytesLess]|cons x a f=>
  obtain _|⟨y,b⟩:=b;simp[lP,Op.bytesLess];simp only[lP,Op.bytesLess,f,beq_eq];have d:blt x.toNat y.toNat=decide (x<y):=by rw[vg];simp[uv,UInt8.lt_iff_toNat_lt]
  rw[d];by_cases c:x<y;simp[c];by_cases e:x=y;subst e;simp;have:x.toNat≠y.toNat:=fun h=>e<|UInt8.toNat_inj.1 h;simp[c,e,this]
section
variable{P:Ua}{T:Tb}(c:jW P T)(m:Nm){tm:X Value}{a:Act}(w:Ep)
include c
variable{t:TypeId}
def lX{d:TypeDesc}(h:T.I1 t=some d):(underlying t).run P w=.ok d w:=run_underlying (c.I1 t d h) w
def rR(h:cP T t=some n):(sizeOf t).run P w=.ok n w:=by unfold cP at h;rcases d:T.inf t with _|x;simp[d]at h;obtain⟨a,b,z⟩:=x;simp[d]at h;obtain⟨_,i,e,f,_,_⟩:=c.inf t a b z d;simp[sizeOf,typeInfo,e,f,h]
def QF{x:Nat×Nat×Value}(h:T.inf t=some x):(zeroValue t).run P w=.ok x.2.2 w/\H3 m x.2.2=x.2.2:=by obtain⟨a,b,z⟩:=x;obtain⟨f,i,d,_,_,e⟩:=c.inf t a b z h;exact⟨by simp[zeroValue,typeInfo,d,e],qo2 m z f⟩
def quc{d:TypeDesc}(h:T.I1 t=some d):(isAgg t).run P w=.ok (sG d) w:=by unfold isAgg;simp only[zK,lX c w h,zJ];cases d<;>rfl
def qyv{g:X Value}{v:Value}(h:PZ T t g off=some v):
  (part t ⟨aL m g⟩ off).run P w=.ok (H3 m v) w:=by
 unfold PZ at h;rcases b:T.I1 t with _|d;simp[b]at h;simp only[b]at h;unfold part;simp only[zK,quc c w b,zJ];cases f:sG d with
 |true=>simp only[f,zC]at h;rcases e:cP T t with _|n;simp[e]at h;simp[e]at h;subst h;simp only[It,zK,rR c w e,zJ,zL,H3];simp[nE,As,Bd]
 |false=>simp only[f,zD,lW]at h;simp[nE,h]
end
end Go.Rx
namespace Go.Rx
open Go
variable{m:Nm}{tm:X Value}{a:Act}{v:Value}
def qJ(d:a.tmps=⟨aL m tm⟩){x:He}(h:F8 tm x=some v):a.eval x=H3 m v:=by
 cases x with
 |tmp t=>simp only[F8,lW]at h;simp[Act.eval,d,nE,h]|const c=>simp only[F8]at h;rcases b:plain c with _|_;simp[b]at h;simp[b]at h;subst h;simp[Act.eval,qo2 m c b]
 |func f=>simp[F8]at h;subst h;simp[Act.eval,H3,aL]|global g=>simp[F8]at h
def z7o(e:a.tmps=⟨aL m tm⟩){l:X He}{d:X Value}(h:qI tm l=some d):l.map a.eval=aL m d:=by induction l generalizing d with|nil=>simp[qI]at h;subst h;simp[aL]|cons x l f=>simp only[qI]at h;rcases b:F8 tm x with _|v;simp[b]at h;rcases c:qI tm l with _|r;simp[b,c]at h;simp[b,c]at h;subst h;simp[aL,qJ e b,f c]
def O4(c:a.tmps=⟨aL m tm⟩){l:Jg He}{b:X Value}(h:qI tm l.toList=some b):l.map a.eval=⟨aL m b⟩:=by rw[<-z7o c h];cases l;simp
def qq8(e:a.tmps=⟨aL m tm⟩){l:X (Nat×He)}{d:X (Nat×Value)}(h:JF tm l=some d):
  l.map (fun p=>(p.1,a.eval p.2))=d.map (fun p=>(p.1,H3 m p.2)):=by induction l generalizing d with|nil=>simp[JF]at h;subst h;simp|cons x l f=>obtain⟨i,x⟩:=x;simp only[JF]at h;rcases b:F8 tm x with _|v;simp[b]at h;rcases c:JF tm l with _|r;simp[b,c]at h;simp[b,c]at h;subst h;simp[qJ e b,f c]
def Ng(c:a.tmps=⟨aL m tm⟩){x:V He}{v:V Value}(h:xT tm x=some v):x.map a.eval=v.map (H3 m):=by obtain _|x:=x;simp[xT]at h;subst h;rfl;simp only[xT]at h;rcases b:F8 tm x with _|u;simp[b]at h;simp[b]at h;subst h;simp[qJ c b]
def qsr(op:BinOp)(t:TypeId)(x y:He)(u v:Value)(c : ∀a b, ¬ (u=.agg a/\v=.agg b))(d : ¬ (u=.nilIface/\v=.nilIface)): eqGuard op t x y u v=pure ():=by
  cases op<;>simp only[eqGuard]<;>first
    |rfl
    | (simp only [Zr, gj, MF]
       split;simp_all;simp_all;rfl)
def z2e(off:Nat):∀(b:X Value)(k:Nat)(cells:X Value),off+k+b.length<=cells.length->
  (b.zipIdx k).foldl (fun(c:Jg Value) (p:Value×Nat)=>c.setIfInBounds (off+p.2) p.1) ⟨cells⟩=⟨cells.take (off+k)++b++cells.drop (off+k+b.length)⟩
 |[],k,cells,_=>by simp
 |v::b,k,cells,h=>by
  simp only[zO]at h;simp only[E',py,qcE];rw[z2e off b (k+1) (cells.set (off+k) v) (by simp;omega)];congr 1;have d:(cells.set (off+k) v).take (off+(k+1))=cells.take (off+k)++[v]:=by rw[show off+(k+1)=off+k+1 by omega,take_set,take_succ_eq_append_getElem af];rw[Lm _ _ (by simp;omega)];simp[pg<|show off+k<=cells.length by omega]
  have e:(cells.set (off+k) v).drop (off+(k+1)+b.length)=cells.drop (off+k+(v::b).length):=by rw[drop_set_of_lt af];congr 1;simp;omega
  rw[d,e];simp
def Uu(m:Nm)(place:Nat->V (Nat×Nat)):∀(b:X (Nat×Value))(cells r:X Value),FQ place cells b=some r->
  Instr.fill place ⟨aL m cells⟩ (b.map fun p=>(p.1,H3 m p.2))=some ⟨aL m r⟩
 |[],cells,r,h=>by simp[FQ]at h;simp[Instr.fill,h]
 |(i,v)::b,cells,r,h=>by
  simp only[FQ]at h;rcases d:place i with _|x;simp[d]at h;obtain⟨off,size⟩:=x;simp only[d,beq_eq]at h;by_cases f:v.cells.toList.length=size;simp only[f,yC,zC]at h;rcases e:BN cells off v.cells.toList with _|c;simp[e]at h;simp only[e]at h;obtain⟨j,n⟩:=qts e;have g:v.cells.size=size:=by simpa using f
  simp only[zQ,Instr.fill,d,ae,v14,g];have l:(decide (size≠size)||decide (off+size>(⟨aL m cells⟩:Jg Value).size))=false:=by simp;simp[g]at j;omega
  rw[l];simp only[gj,MF];have o:((wG m v.cells).zipIdx.foldl (fun(k:Jg Value) (p:Value×Nat)=>k.setIfInBounds (off+p.2) p.1) ⟨aL m cells⟩)=⟨aL m c⟩:=by rw[<-Array.foldl_toList,Array.toList_zipIdx,mP,z2e off _ 0 _ (by simp;simpa using j)];rw[n];simp[nE,As,Bd]
  exact(congrArg (fun z=>Instr.fill place z<|b.map fun p=>(p.1,H3 m p.2)) o).trans (Uu m place b c r h);simp only[f,yB,zD]at h;cases h
section
variable{P:Ua}{T:Tb}(j:jW P T)(m:Nm)(w:Ep)
include j
variable{t:TypeId}{x:Value}
def v16(op:BinOp)(i l:He){y:Value}{b:FK}(h:OV T t x y=some b):(eqGuard op t i l (H3 m x)<|H3 m y).run P w=.ok () w/\
  (binOp .eql t (H3 m x)<|H3 m y).run P w=.ok (.bool b) w/\(binOp .neq t (H3 m x)<|H3 m y).run P w=.ok (.bool<|!b) w:=by
 unfold OV at h;obtain⟨k,f⟩:∃k,∀u v,Op.equal t u v=Op.equalIn (k+1) t u v:=⟨9999,fun _ _=>rfl⟩;have e:∀{x y:Value}(d:(∀a c,¬ (H3 m x=.agg a/\H3 m y=.agg c))/\¬ (H3 m x=.nilIface/\H3 m y=.nilIface)),(eqGuard op t i l (H3 m x)<|H3 m y).run P w=.ok () w:=fun d=>by rw[qsr op t i l _ _ d.1 d.2];rfl
 split at h;rename_i g;have d:=lX j w g;cases h;exact⟨e (by simp[H3]),by simp[H3,binOp,f,Op.equalIn,d],by simp[H3,binOp,f,Op.equalIn,d]⟩;rename_i a c g;have d:=lX j w g;cases a<;>cases c<;>simp[HX]at h<;>subst h<;>exact⟨e (by simp[H3]),by simp[H3,binOp,f,Op.equalIn,d],by simp[H3,binOp,f,Op.equalIn,d]⟩;rename_i a c g;have d:=lX j w g;cases a<;>cases c<;>simp[HX]at h<;>subst h<;>exact⟨e (by simp[H3]),by simp[H3,binOp,f,Op.equalIn,d],by simp[H3,binOp,f,Op.equalIn,d]⟩;rename_i a _ _ c _ _ g;have d:=lX j w g;cases a<;>cases c<;>simp[HX]at h<;>subst h<;>exact⟨e (by simp[H3]),by simp[H3,binOp,f,Op.equalIn,d],by simp[H3,binOp,f,Op.equalIn,d]⟩;rename_i g;have d:=lX j w g;cases h;exact⟨e (by simp[H3]),by simp[H3,binOp,f,Op.equalIn,d],by simp[H3,binOp,f,Op.equalIn,d]⟩;cases h
def Kc(op:BinOp)(i l:He){y:Value}(h:tA T op t x y=some v):
  (do eqGuard op t i l (H3 m x) (H3 m y);binOp op t (H3 m x) (H3 m y):Sem Value).run P w=.ok (H3 m v) w:=by
 by_cases e:∃k a d b,x=.int k a/\y=.int d b
 ·obtain⟨k,a,d,b,rfl,rfl⟩:=e;simp only[tA]at h;simp only[H3,eqGuard_at_int,zK,zL,zJ];by_cases f:k=d
  ·subst f;cases op<;>simp[lI]at h<;>first
    |(subst h;simp[binOp,Op.intArith,Op.intBits,Op.intCmp,H3];done)
    |(obtain⟨c,rfl⟩:=h;simp[binOp,Op.intDiv,Op.shift,H3,c];done)
    |(obtain⟨c,rfl⟩:=h;simp[binOp,Op.shift,H3];omega)
  cases op<;>simp[lI,f]at h<;>first
   |(obtain⟨c,rfl⟩:=h;simp[binOp,Op.shift,H3];omega)
 ·by_cases g:∃a b,x=.string a/\y=.string b
  ·obtain⟨a,b,rfl,rfl⟩:=g;simp only[tA]at h;simp only[H3,eqGuard_at_string,zK,zL,zJ];have n:a.toList=a.data.toList:=ByteArray.toList_eq a;have o:b.toList=b.data.toList:=ByteArray.toList_eq b;cases op<;>simp[J4]at h<;>first
    |(subst h;simp[binOp,Op.stringOp,H3,n,o,qzj,qzk];done)
    |skip
   obtain⟨c,rfl⟩:=h;have s:¬ ((a.size+b.size:Nat):Int)>9223372036854775807:=by have q:a.size=a.data.size:=rfl;have r:b.size=b.data.size:=rfl;rw[q,r];omega
   simp only[binOp,Op.stringOp,max_i64,hF s,zL,H3];have p:a++b=⟨(a.data.toList++b.data.toList).toArray⟩:=by apply ByteArray.ext;simp
   rw[p]
  unfold tA at h;split at h;exact absurd ⟨_,_,_,_,rfl,rfl⟩ e;exact absurd ⟨_,_,rfl,rfl⟩ g;split at h;rename_i b u;obtain⟨g0,g1,g2⟩:=v16 j m w op i l u;cases op<;>simp at h<;>subst h;simp[g0,g1,H3];simp[g0,g2,H3];cases h
omit j in
def Te{op:UnOp}{x v:Value}(h:TX op x=some v):(Op.unary op (H3 m x)).run P w=.ok (H3 m v) w:=by cases op<;>cases x<;>simp[TX]at h<;>subst h<;>simp[Op.unary,H3,Op.intArith,Op.intBits]
def zbx{src b:TypeId}(h:Q1 T src b x=some v):(convert src b<|H3 m x).run P w=.ok (H3 m v) w:=by unfold Q1 at h;rcases c:T.I1 src with _|d1;simp[c]at h;rcases d:T.I1 b with _|d2;simp[c,d]at h;simp only[c,d]at h;unfold convert;simp only[zK,lX j w c,lX j w d,zJ];cases d2<;>cases x<;>simp at h<;>subst h<;>cases d1<;>simp[H3,Conv.intToInt]
def z00(b:X Field)(d:JI T b=true):(b.mapM (fun f=>do pure (f.offset,<-sizeOf f.type):Field->Sem (Nat×Nat))).run P w=.ok (b.map fun f=>(f.offset,(cP T f.type).getD 0)) w:=by induction b with|nil=>simp|cons f b g=>simp only[JI]at d;rcases c:cP T f.type with _|n;simp[c]at d;simp only[c]at d;have e:=g d;simp only[IS,zK,rR j w c,zJ,zL,e,zQ,c,jf]
omit j in
def z0g{b:X Field}(d:JI T b=true){i:Nat}{f:Field}(c:b[i]? = some f):∃n,cP T f.type=some n:=by
 induction b generalizing i with
 |nil=>simp at c|cons g b h=>
  simp only[JI]at d;rcases e:cP T g.type with _|n;simp[e]at d;simp only[e]at d;cases i with
  |zero=>simp at c;subst c;exact⟨n,e⟩|succ i=>exact h d (by simpa using c)
def z74{o:X (Nat×Value)}(h:Ul T t o=some v):
  (Instr.build t (o.map fun p=>(p.1,H3 m p.2)).toArray).run P w=.ok (H3 m v) w:=by
 unfold Ul at h;rcases s:T.inf t with _|x;simp[s]at h;obtain⟨a,b,z⟩:=x;obtain⟨B,y⟩:=QF j m w s;simp only at B y;have A:z.cells=⟨aL m z.cells.toList⟩:=by
  conv=>lhs;rw[<-y,ae]
  cases z.cells;simp
 simp only[s]at h;unfold Instr.build;simp only[zK,B,zJ];rcases q:T.I1 t with _|d;simp[q]at h;simp only[lX j w q,zJ];cases d with
 |struct c=>
  simp only[q]at h;rcases g:JI T c.toList with _|_;simp[g]at h;simp only[g,zC]at h;rcases l:FQ (O1 T c.toList) z.cells.toList o with _|cs;simp[l]at h;simp[l]at h;subst h;have hm:=z00 j w c.toList g;have D:(c.mapM (fun f=>do pure (f.offset,<-sizeOf f.type):Field->Sem (Nat×Nat))).run P w=.ok ⟨c.toList.map fun f=>(f.offset,(cP T f.type).getD 0)⟩ w:=by rw[qcM];simp only[Sem.run_map,hm,zJ]
  have E:(fun i=>(⟨c.toList.map fun f=>(f.offset,(cP T f.type).getD 0)⟩:Jg (Nat×Nat))[i]?)=O1 T c.toList:=by
   funext i;simp only[O1,lW];rcases r:c.toList[i]? with _|f;simp at r;simp[r];obtain⟨n,C⟩:=z0g g r;have:c[i]? = some f:=by simpa using r
   simp[this,C]
  have u:=Uu m (O1 T c.toList) o z.cells.toList cs l;simp only[zK,D,zJ,E];rw[A];simp only[u,zL,H3,nB]
 |array n e=>simp only[q]at h;rcases g:cP T e with _|k;simp[g]at h;simp only[g]at h;rcases l:FQ (fun i=>some (i*k,k)) z.cells.toList o with _|cs;simp[l]at h;simp[l]at h;subst h;have u:=Uu m (fun i=>some (i*k,k)) o z.cells.toList cs l;simp only[zK,rR j w g,zJ];rw[A];simp only[u,zL,H3,nB]
 |_=>simp[q]at h
omit j in
def HR(b o n:Nat):(⟨b,o,none⟩:Addr).add n=⟨b,o+n,none⟩:=Addr.add_lit b o n
def qzu{st:TypeId}{f:Nat}(h:Vh T st x f=some v):(Instr.fieldAt st (H3 m x) f).run P w=.ok (H3 m v) w:=by
 unfold Vh at h;rcases b:T.I1 st with _|d;simp[b]at h;cases d with
 |struct g=>
  simp only[b,lW]at h;rcases c:g.toList[f]? with _|fd;simp at c;simp[c]at h;have i:g[f]? = some fd:=by simpa using c
  simp only[c]at h;cases x with
  |pointer p=>obtain _|a:=p;simp at h;simp only at h;rcases e:cP T fd.type with _|n;simp[e]at h;cases n with|zero=>simp[e]at h|succ n=>simp[e]at h;subst h;simp[Instr.fieldAt,lX j w b,i,H3,Instr.sureAddr,fieldPlace,rR j w e,HR,ns]
  |_=>simp at h
 |_=>simp[b]at h
def z7q{st:TypeId}{f:Nat}(h:Uh T st x f=some v):(Instr.field st (H3 m x) f).run P w=.ok (H3 m v) w:=by
 unfold Uh at h;rcases b:T.I1 st with _|d;simp[b]at h;cases d with
 |struct g=>
  simp only[b,lW]at h;rcases c:g.toList[f]? with _|fd;simp at c;simp[c]at h;have i:g[f]? = some fd:=by simpa using c
  simp only[c]at h;cases x with
  |agg e=>obtain⟨e⟩:=e;simp only at h;simp[Instr.field,lX j w b,i,H3,asAgg,qyv j m w h]
  |_=>simp at h
 |_=>simp[b]at h
omit j in
def My{i:Int}{n:Nat}(h:uH i n=true):0<=i/\i<n:=by cases i with|ofNat k=>simp only[uH,uv]at h;exact⟨qch k,Int.ofNat_lt.2 h⟩|negSucc k=>simp[uH]at h
def qzx{ix:Value}(h:Vd T t x ix=some v):(Instr.indexAt t (H3 m x)<|H3 m ix).run P w=.ok (H3 m v) w:=by
 unfold Vd at h;cases ix with
 |int k i=>
  simp only at h;rcases f:T.I1 t with _|d;simp[f]at h;cases d with
  |array n e=>
   simp only[f]at h;cases x with
   |pointer p=>obtain _|a:=p;simp at h;simp only at h;rcases g:uH i n with _|_;simp[g]at h;rcases b:cP T e with _|sz;simp[g,b]at h;simp[g,b]at h;subst h;have:=My g;simp[Instr.indexAt,asIntOf,H3,lX j w f,Instr.sureAddr,this,rR j w b,HR,ns]
   |_=>simp at h
  |slice e=>
   simp only[f]at h;cases x with
   |slice p n c=>obtain _|a:=p;simp at h;simp only at h;rcases g:uH i n with _|_;simp[g]at h;rcases b:cP T e with _|sz;simp[g,b]at h;simp[g,b]at h;subst h;have:=My g;simp[Instr.indexAt,asIntOf,H3,lX j w f,this,rR j w b,HR,ns]
   |_=>simp at h
  |_=>simp[f]at h
 |_=>simp at h
def z7y{ix:Value}(h:Bs T t x ix=some v):(Instr.index t (H3 m x)<|H3 m ix).run P w=.ok (H3 m v) w:=by
 unfold Bs at h;cases ix with
 |int k i=>
  simp only at h;rcases c:T.I1 t with _|d;simp[c]at h;cases d with
  |array n e=>
   simp only[c]at h;cases x with
   |agg l=>obtain⟨l⟩:=l;simp only at h;rcases u:uH i n with _|_;simp[u]at h;rcases g:cP T e with _|sz;simp[u,g]at h;simp only[u,g,zC]at h;have:=My u;simp[Instr.index,asIntOf,H3,lX j w c,this,rR j w g,qyv j m w h]
   |_=>simp at h
  |string=>
   simp only[c]at h;cases x with
   |string s=>
    simp only[lW]at h;rcases u:uH i s.data.toList.length with _|_;simp only[u,zD]at h;cases h;simp only[u,zC]at h;have r:=My u;rcases f:s.data.toList[i.toNat]? with _|b;simp[f]at h;simp[f]at h;subst h;have q:s[i.toNat]? = some b:=by
     have:s.data[i.toNat]? = some b:=by simpa using f
     obtain⟨p,e⟩:=Array.getElem?_eq_some_iff.1 this;have o:i.toNat<s.size:=p;rw[getElem?_pos s i.toNat o];exact congrArg some e
    simp[Instr.index,asIntOf,H3,lX j w c,r.1,q]
   |_=>simp at h
  |_=>simp[c]at h
 |_=>simp at h
omit j in
def qzs{x v:Value}{i:Nat}(h:Nf x i=some v):(Instr.extract (H3 m x) i).run P w=.ok (H3 m v) w:=by
 cases x with
 |tuple b=>obtain⟨b⟩:=b;simp only[Nf,lW]at h;simp[Instr.extract,H3,nE,h]
 |_=>simp[Nf]at h
end
end Go.Rx
namespace Go.Rx
open Go
section
variable{P:Ua}{T:Tb}(g:jW P T)(m:Nm)(w:Ep)
include g
variable{v:Value}
def Ev{t ty:TypeId}{ts:X TypeId}{x:Value}(h:K0 T t x=some v):(Builtin.len_ (t::ts).toArray ty #[H3 m x]).run P w=.ok (H3 m v) w:=by
 unfold K0 at h;rcases c:T.I1 t with _|d;simp[c]at h;simp only[c]at h;have b:=lX g w c;cases d with
 |string=>cases x<;>simp at h;subst h;rename_i s;simp only[Builtin.len_,xi,SC,zK,b,zJ,H3,goInt,zL]|slice e=>
  cases x with
  |slice a _ _=>simp only[zA]at h;subst h;cases a<;>simp[Builtin.len_,b,H3,goInt]|chan r=>obtain _|r:=r;simp at h;simp only[zA]at h;subst h;simp[Builtin.len_,b,H3,goInt]
  |_=>simp at h
 |array n e=>simp at h;subst h;simp[Builtin.len_,b,H3,goInt]|_=>simp at h
omit g in
def Er{x v:Value}{l:X Value}(h:yZ UL x l=some v):((aL m l).foldlM Builtin.max2 (H3 m x)).run P w=.ok (H3 m v) w:=by
 induction l generalizing x with
 |nil=>simp[yZ]at h;simp[aL,h]|cons y l b=>
  simp only[yZ]at h;rcases a:UL x y with _|z;simp[a]at h;simp only[a]at h;have:(Builtin.max2 (H3 m x) (H3 m y)).run P w=.ok (H3 m z) w:=by cases x<;>cases y<;>simp[UL]at a;subst a;simp[H3,Builtin.max2]
  simp only[aL,foldlM_cons,zK,this,zJ];exact b h
omit g in
def v17{x v:Value}{l:X Value}(h:yZ UK x l=some v):((aL m l).foldlM Builtin.min2 (H3 m x)).run P w=.ok (H3 m v) w:=by
 induction l generalizing x with
 |nil=>simp[yZ]at h;simp[aL,h]|cons y l b=>
  simp only[yZ]at h;rcases a:UK x y with _|z;simp[a]at h;simp only[a]at h;have:(Builtin.min2 (H3 m x) (H3 m y)).run P w=.ok (H3 m z) w:=by cases x<;>cases y<;>simp[UK]at a;subst a;simp[H3,Builtin.min2]
  simp only[aL,foldlM_cons,zK,this,zJ];exact b h
omit g in
def qpy{v:Value}{y n:Nat}(h:zR v y=some n)(a:Nat)(c:y<=a)(code:BoundsCode):(Instr.sliceBound (H3 m v) a code).run P w=.ok n w/\n<=y:=by
 cases v with
 |int k i=>
  simp only[zR]at h;rcases d:uH i (y+1)with _|_;simp[d]at h;simp[d]at h;subst h;have:=My d;refine⟨?_,by omega⟩;have b:0<=i/\i<=(a:Int):=by omega
  simp[Instr.sliceBound,H3,asIntOf,b]
 |_=>simp[zR]at h
omit g in
def Vr{isS:FK}{n c v00:Nat}{lo e:V Value}{l h M:Nat}(a:o9 n c lo e=some (l,h,M))(j:c<=v00):
  (Instr.sliceBounds isS n v00 (lo.map (H3 m)) (e.map (H3 m)) none).run P w=.ok (l,h,v00) w/\l<=h/\M=c/\(e.isSome=true->h<=c)/\(e=none->h=n):=by
 unfold o9 at a;cases e with
 |some u=>
  simp only at a;rcases i:zR u c with _|h';simp[i]at a;simp only[i]at a;have f:=fun code=>qpy (P:=P) m w i v00 j code
  have q2:=(f .index).2;cases lo with
  |none=>simp at a;obtain⟨rfl,rfl,rfl⟩:=a;refine⟨?_,by omega,rfl,fun _=>q2,by simp⟩;simp[Instr.sliceBounds,(f _).1]
  |some x=>
   simp only at a;rcases b:zR x h' with _|l';simp[b]at a;simp[b]at a;obtain⟨rfl,rfl,rfl⟩:=a;have d:=fun code=>qpy (P:=P) m w b h' (zF _) code
   have q3:=(d .index).2;refine⟨?_,q3,rfl,fun _=>q2,by simp⟩;simp[Instr.sliceBounds,(f _).1,(d _).1]
 |none=>
  simp only at a;cases lo with
  |none=>simp at a;obtain⟨rfl,rfl,rfl⟩:=a;refine⟨?_,by omega,rfl,by simp,by simp⟩;simp[Instr.sliceBounds]
  |some x=>
   simp only at a;rcases b:zR x n with _|l';simp[b]at a;simp[b]at a;obtain⟨rfl,rfl,rfl⟩:=a;have d:=fun code=>qpy (P:=P) m w b n (zF _) code
   have q3:=(d .index).2;refine⟨?_,q3,rfl,by simp,by simp⟩;simp[Instr.sliceBounds,(d _).1]
def z91{t:TypeId}{x:Value}{lo k:V Value}(h:vO T t x lo k=some v):
  (Instr.sliceAt t (H3 m x) (lo.map<|H3 m) (k.map<|H3 m) none).run P w=.ok (H3 m v) w:=by
 unfold vO at h;rcases y:T.I1 t with _|d;simp[y]at h;simp only[y]at h;have p:=lX g w y;cases d with
 |slice e=>
  cases x with
  |slice a n c=>
   simp only at h;cases u:blt c dC with
   |false=>
    simp only[u,zD]at h;unfold ej at h;obtain _|a:=a;simp at h;cases n with
    |succ n=>simp at h|zero=>
     simp only at h;rcases f:o9 0 0 lo k with _|r;simp[f]at h;obtain⟨l,o,M⟩:=r;simp only[f]at h;cases l with
     |succ l=>simp at h|zero=>cases o with|succ l=>simp at h|zero=>cases M with|succ l=>simp at h|zero=>simp only at h;rcases b:cP T e with _|sz;simp[b]at h;simp only[b,zA]at h;subst h;obtain⟨j,_⟩:=Vr (P:=P) (isS:=true) (v00:=dV m a.block c) m w f<|qq _;simp only[Instr.sliceAt,zK,p,zJ,Instr.slice,H3,j,rR g w b,zL,zM,my,wm,HR,eT,ite_self]
   |true=>
    simp only[u,zC]at h;have F:c<dC:=by simpa[uv]using u
    rcases f:o9 n c lo k with _|r;simp[f]at h;obtain⟨l,o,M⟩:=r;simp only[f]at h;rcases b:cP T e with _|sz;simp[b]at h;simp only[b,zA]at h;subst h;have E:∀i,dV m i c=c:=fun i=>by simp[dV,F]
    obtain⟨j,C,z,A,B⟩:=Vr (P:=P) (isS:=true) (v00:=c) m w f<|zF _;subst z;have s:M-l<dC:=by omega
    cases a with|none=>simp only[Instr.sliceAt,zK,p,zJ,Instr.slice,H3,j,rR g w b,zL,beq_eq];by_cases e:M=l<;>simp[e,H3]|some a=>simp only[Instr.sliceAt,zK,p,zJ,Instr.slice,H3,E,j,rR g w b,zL,beq_eq];by_cases e:M=l;simp[e,H3,dV,dC];simp[e,H3,dV,s,HR,ns]
  |chan r=>
   obtain _|r:=r;simp at h;simp only at h;rcases f:o9 0 0 lo k with _|q;simp[f]at h;obtain⟨l,o,M⟩:=q;simp only[f]at h;rcases b:cP T e with _|sz;simp[b]at h;simp only[b,zA]at h;subst h;obtain⟨j,C,z,A,B⟩:=Vr (P:=P) (isS:=true) (v00:=0) m w f<|zF _;have D:l=0/\o=0/\M=0:=by obtain _|v:=k;have:=B rfl;omega;have:=A rfl;omega
   obtain⟨rfl,rfl,rfl⟩:=D;simp only[Instr.sliceAt,zK,p,zJ,Instr.slice,H3,j,rR g w b,zL,It,wm]
  |_=>simp at h
 |_=>simp at h
def zcv{k:X Value}{a:Act}(j:a.tmps=⟨aL m k⟩)(o:Oper)(h:kP T k o.op=some v):(execOp a.eval o).run P w=.ok (.value<|H3 m v) w:=by
 obtain⟨H,op,type,pos,after,guard⟩:=o;simp only at h;unfold kP at h;cases op with
 |move x=>simp only at h;simp[execOp,qJ j h]|assign x=>simp only at h;simp[execOp,qJ j h]
 |pick c x y=>
  simp only at h;rcases A:F8 k c with _|G;simp[A]at h;cases G with
  |bool b=>obtain _|_:=b;simp only[A]at h;simp[execOp,qJ j A,qJ j h,H3,asBool];simp only[A]at h;simp[execOp,qJ j A,qJ j h,H3,asBool]
  |_=>simp[A]at h
 |build t E=>
  simp only at h;rcases D:JF k E.toList with _|qs;simp[D]at h;simp only[D]at h;have r:(E.map fun x=>(x.1,a.eval x.2))=(qs.map fun p=>(p.1,H3 m p.2)).toArray:=by rw[<-qq8 j D];cases E;simp
  have:=z74 g m w h;rw[<-r]at this;simp only[execOp,zK];rw[this];rfl
 |nilCheck x=>
  simp only at h;rcases e:F8 k x with _|u;simp[e]at h;have F:=qJ j e;cases u with
  |pointer p=>obtain _|q:=p;simp[e]at h;simp[e]at h;subst h;simp[execOp,F,H3]
  |func fn x y=>cases fn with|func f=>simp[e]at h;subst h;simp[execOp,F,H3]|_=>simp[e]at h
  |_=>simp[e]at h
 |binOp op t x y ty=>simp only at h;rcases e:F8 k x with _|u;simp[e]at h;rcases n:F8 k y with _|u';simp[e,n]at h;simp only[e,n]at h;have:=Kc g m w op x y h;simp only[execOp,qJ j e,qJ j n];rw[zK,this];rfl
 |unOp op t x=>simp only at h;rcases e:F8 k x with _|u;simp[e]at h;simp only[e]at h;simp[execOp,qJ j e,Te m w h]
 |convert s d x=>simp only at h;rcases e:F8 k x with _|u;simp[e]at h;simp only[e]at h;simp[execOp,qJ j e,zbx g m w h]
 |makeFunc fn first cap=>
  simp only at h;rcases e:qI k first.toList with _|u
  simp[e]at h;rcases n:qI k cap.toList with _|u';simp[e,n]at h;simp only[e,n,zA]at h;subst h;simp[execOp,O4 j e,O4 j n,Instr.makeFunc,H3]
 |slice t x lo I J=>
  cases J with|some _=>simp at h|none=>
  simp only at h;rcases e:F8 k x with _|u;simp[e]at h;rcases B:xT k lo with _|l;simp[e,B]at h;rcases C:xT k I with _|hh;simp[e,B,C]at h;simp only[e,B,C]at h;have:=z91 g m w h;simp only[execOp,qJ j e,Ng j B,Ng j C,Bm];rw[zK,this];rfl
 |fieldAddr t x f=>simp only at h;rcases e:F8 k x with _|u;simp[e]at h;simp only[e]at h;simp[execOp,qJ j e,qzu g m w h]
 |field t x f=>simp only at h;rcases e:F8 k x with _|u;simp[e]at h;simp only[e]at h;simp[execOp,qJ j e,z7q g m w h]
 |indexAddr t x i=>simp only at h;rcases e:F8 k x with _|u;simp[e]at h;rcases n:F8 k i with _|u';simp[e,n]at h;simp only[e,n]at h;simp[execOp,qJ j e,qJ j n,qzx g m w h]
 |index t x i=>simp only at h;rcases e:F8 k x with _|u;simp[e]at h;rcases n:F8 k i with _|u';simp[e,n]at h;simp only[e,n]at h;simp[execOp,qJ j e,qJ j n,z7y g m w h]
 |extract x i=>simp only at h;rcases e:F8 k x with _|u;simp[e]at h;simp only[e]at h;simp[execOp,qJ j e,qzs m w h]
 |call c=>
  obtain⟨callee,args,z⟩:=c;simp only at h;cases callee with
  |builtin b=>
   cases b with
   |len=>simp only at h;rcases e:qI k args.toList with _|vs;simp[e]at h;obtain _ |⟨x,_ |⟨y,l⟩⟩:=vs;simp[e]at h;obtain⟨z⟩:=z;obtain _|⟨t,ts⟩:=z;simp[e]at h;simp only[e]at h;have r:=O4 j e;simp only[aL]at r;have:=Ev g m w (ty:=type) (ts:=ts) h;simp only[execOp,zK,resolve,zL,zJ,invoke,builtin,r];rw[this];rfl;simp[e]at h
   |max=>simp only at h;rcases e:qI k args.toList with _|vs;simp[e]at h;obtain _|⟨x,l⟩:=vs;simp[e]at h;simp only[e]at h;have r:=O4 j e;simp only[aL]at r;have:=Er (P:=P) m w h;simp only[execOp,zK,resolve,zL,zJ,invoke,builtin,r,Builtin.max_];rw[this];rfl
   |min=>simp only at h;rcases e:qI k args.toList with _|vs;simp[e]at h;obtain _|⟨x,l⟩:=vs;simp[e]at h;simp only[e]at h;have r:=O4 j e;simp only[aL]at r;have:=v17 (P:=P) m w h;simp only[execOp,zK,resolve,zL,zJ,invoke,builtin,r,Builtin.min_];rw[this];rfl
   |_=>simp at h
  |_=>simp at h
 |_=>simp at h
end
def BR.cell{m:Nm}{i:Nat}{l:X Value}{e:TypeId}{w:Ep}{f:Nat}(h:BR m i l e w f){j:Nat}{v:Value}(b:l[j]? = some v):
  w.cell? ⟨m.I5 i,m.sh i+j,none⟩=some (H3 m v):=by have k:j<l.length:=(zG.1 b).1;obtain _ |_ |n:=f;obtain⟨o,a⟩:=h;simp[World.cell?,a,o,nE,b];obtain⟨c,p,fr,a,d,_⟩:=h;simp[World.cell?,a,d j v b];obtain⟨q,g,a,d,_⟩:=h;simp only[World.cell?,a,qcf,gj,MF,xi,zT,<-d];rw[mu af,qi,mc<|by simpa using k];simp[nE,b]
variable{c:Nat}
def run_getObj_map{P:Ua}{w:Ep}{r:Nat}{a:Jg MapEntry}(h:w.heap[r]? = some (.map a c)):(getObj r).run P w=.ok (.map a c) w:=by simp[getObj,Sem.run,h]
variable{s:S}
def Qc{i:Nat}{l:X Value}{e:TypeId}{d:Nat}(h:fC s i=some (l,e,d)):lk s.h i=some (.inl (l,e,d))/\d≠1:=by unfold fC at h;rcases a:lk s.h i with _|b;simp[a]at h;obtain⟨k,g,f⟩|⟨j,c⟩:=b;obtain _ |_ |n:=f<;>simp[a]at h<;>obtain⟨rfl,rfl,rfl⟩:=h<;>simp;simp[a]at h
def ah{a b:Nat}(h:blt a b=false):¬ a<b:=fun d=>by
 have:blt a b=true:=ve d;rw[this]at h;cases h
def Cj{a b:Nat}(h:blt a b=true):a<b:=zY h
def z0i(c b k:Nat)(h:b<=c):c+k-b=c-b+k:=af
def z7c(h:dC<=c)(k:Nat):dA (c+k)=dA c+k:=z0i c dC k h
section
variable{P:Ua}{T:Tb}(f:jW P T)(m:Nm)(w:Ep)
include f
variable{t:TypeId}{v:Value}
def z34(y:Fits m s w){i off:Nat}{l:X Value}{e:TypeId}{r:Nat}(z:lk s.h i=some (.inl (l,e,r)))
  (h:(match T.I1 t with
    |none=>none|some d=>cond (sG d) (match cP T t with
      |some n=>match xM l off n with
       |some a=>some (Value.agg a.toArray)|none=>none
      |none=>none)<|nth l off)=some v):
  (loadVar t ⟨m.I5 i,m.sh i+off,none⟩).run P w=.ok (H3 m v) w:=by
 have A:BR m i l e w r:=y.ok i _ z;rcases o:T.I1 t with _|d;simp[o]at h;simp only[o]at h;unfold loadVar;simp only[zK,quc f w o,zJ];cases q:sG d with
 |true=>
  simp only[q,zC]at h;rcases p:cP T t with _|n;simp[p]at h;simp only[p]at h;rcases b:xM l off n with _|a;simp[b]at h;simp only[b,zA]at h;subst h;have x:(aL m a).length=n:=by rw[A6];exact qwb b
  have:=run_loadCells_list (P:=P) w ⟨m.I5 i,m.sh i+off,none⟩ (aL m a) (fun j u g=>by rw[nE,me]at g;rcases k:a[j]? with _|u';simp[k]at g;simp[k]at g;subst g;rw[HR,ns];exact A.cell<|z5i b k);rw[x]at this;simp[rR f w p,this,H3]
 |false=>simp only[q,zD,lW]at h;have:=A.cell h;simp[this]
omit f in
def qms{s:S}{i g:Nat}{l:X Value}(h:NS s i g=some l):∃e j,lk s.h i=some (.inl (l,e,j))/\(j=1/\e=g+1\/j=g+2):=by unfold NS at h;rcases d:lk s.h i with _|b;simp[d]at h;obtain⟨q,o,k⟩|⟨p,c⟩:=b;obtain _ |_ |n:=k;simp[d]at h;simp only[d,beq_eq]at h;by_cases a:o=g+1;simp only[a,yC,zC,zA]at h;subst h;exact⟨_,_,rfl,.inl ⟨rfl,a⟩⟩;simp[a]at h;simp only[d,beq_eq]at h;by_cases a:n=g;simp only[a,yC,zC,zA]at h;subst h;exact⟨_,_,rfl,.inr (by rw[a])⟩;simp[a]at h;simp[d]at h
omit f in
def qz1{s:S}(g:Fits m s w){i c a:Nat}{l:X Value}(b:NS s i (a+1)=some l){off n:Nat}(o:off=dA c*(a+1))(k:off+n*(a+1)<=l.length):n+dA c<=m.cp i:=by
 obtain⟨e,p,b,j⟩:=qms b;have d:l.length<=m.cp i*(a+1):=by obtain⟨rfl,rfl⟩|rfl:=j;obtain⟨_,_,_,_,_,d⟩:=g.ok i _ b;exact d _ rfl;obtain⟨q,h,_,_,d⟩:=g.ok i _ b;omega
 have:(n+dA c)*(a+1)<=m.cp i*(a+1):=by rw[dX];omega
 exact WU this af
def qo6(E:Fits m s w){x:Value}{lo y:V Value}{i k G:Nat}{a:Addr}(h:Bo T s t x lo y=some (i,k,a,c,G)):
  (Instr.sliceAt t (H3 m x) (lo.map<|H3 m) (y.map<|H3 m) none).run P w=.ok (.slice (if m.cp a.block-dA c=i then some ⟨m.I5 a.block,m.sh a.block+a.off,none⟩else some ⟨m.I5 a.block,m.sh a.block+a.off+i*G,none⟩) (k-i)<|m.cp a.block-dA c-i) w/\
  i<=k/\k+dA c<=m.cp a.block/\¬ c<dC/\∃q,lk s.h a.block=some q:=by
 unfold Bo at h;rcases g:T.I1 t with _|K;simp[g]at h;cases K with
 |slice e=>
  cases x with
  |slice p n d=>
   obtain _|a':=p;simp[g]at h;simp only[g]at h;cases u:blt d dC with
   |true=>simp[u]at h|false=>
    have F:¬ d<dC:=ah u;simp only[u,zD]at h;rcases z:cP T e with _|b;simp[z]at h;simp only[z]at h;rcases U:NS s a'.block b with _|l;simp[U]at h;simp only[U,beq_eq]at h;by_cases j:a'.off=dA d*b;rw[Zh j]at h;simp only[zC]at h;rcases A:blt 0 b with _|_;simp[A]at h;have R:0<b:=Cj A;simp only[A,zC]at h;obtain⟨b,rfl⟩:∃q,b=q+1:=⟨b-1,by omega⟩;rcases r:o9 n ((l.length-a'.off)/(b+1)) lo y with _|q;simp[r]at h;obtain⟨O,D,M⟩:=q;simp only[r]at h;rcases o:ble (a'.off+D*(b+1)) l.length with _|_;simp[o]at h;simp only[o,zC,zA,zB]at h;obtain⟨rfl,rfl,rfl,rfl,rfl⟩:=h;obtain⟨_,_,H,_⟩:=qms U;have B:(l.length-a'.off)/(b+1)<=m.cp a'.block-dA d:=by
     rcases Hb ((l.length-a'.off)/(b+1))with N |hp;omega;have Q:=div_mul_le_self (l.length-a'.off)<|b+1;have C:a'.off<=l.length:=by obtain L |C:=Zd l.length a'.off;rw[show l.length-a'.off=0 by omega]at hp;simp at hp;exact C
     have:=qz1 m w E (c:=d) (n:=(l.length-a'.off)/(b+1)) (off:=a'.off) U j af;omega
    obtain⟨I,J,_⟩:=Vr (P:=P) (isS:=true) m w r B;refine⟨?_,J,qz1 m w E (c:=d) (n:=D) (off:=a'.off) U j<|zY o,F,_,H⟩;simp only[H3,dV,hF F,Instr.sliceAt,zK,lX f w g,zJ,Instr.slice,I,rR f w z,zL,zM,HR];rw[Zb j]at h;simp at h
  |_=>simp[g]at h
 |_=>simp[g]at h
def z5m(l:Fits m s w){x:Value}{lo n:V Value}(h:NO T s t x lo n=some v):
  (Instr.sliceAt t (H3 m x) (lo.map<|H3 m) (n.map<|H3 m) none).run P w=.ok (H3 m v) w:=by
 unfold NO at h;split at h;rename_i e a c r k;obtain⟨b,_,_,g,_⟩:=qo6 f m w l k;cases h;rw[wm,wm,my,eT]at b;by_cases j:m.cp a.block-dA c=0;rw[lr j]at b;rw[b];simp only[H3,dV,hF g];rw[hF j]at b;rw[b];simp only[H3,dV,hF g];rename_i d e a c r k;obtain⟨b,_,j,g,_⟩:=qo6 f m w l k;rcases i:blt (d+1) e with _|_;simp[i]at h;have u:d+1<e:=Cj i;simp only[i,zC,zA]at h;subst h;have q:¬ m.cp a.block-dA c=d+1:=by omega
 have o:¬ c+(d+1)<dC:=fun e=>g<|Hr (il _ _) e;have p:dA (c+(d+1))=dA c+(d+1):=z7c (ya g) _;rw[b];simp only[H3,dV,hF o,hF q,p,ns,Nat.sub_sub];cases h
def qw3(q:Fits m s w){g:X Value}{a:Act}(j:a.tmps=⟨aL m g⟩)(o:Oper)(h:xS T g s o.op=some v):(execOp a.eval o).run P w=.ok (.value<|H3 m v) w:=by
 obtain⟨r,op,type,pos,after,guard⟩:=o;simp only at h;unfold xS at h;cases op with
 |load t x=>
  simp only at h;rcases d:F8 g x with _|u;simp[d]at h;cases u with
  |pointer p=>obtain _|b:=p;simp[d]at h;simp only[d]at h;rcases k:lk s.h b.block with _|I5;simp[k]at h;obtain⟨l,e,B⟩|⟨A,c⟩:=I5;simp only[k]at h;have:=z34 f m w q k h;simp[execOp,qJ j d,H3,Instr.loadAt,Instr.sureAddr,this];simp[k]at h
  |_=>simp[d]at h
 |slice t x lo y z=>
  cases z with|some _=>simp at h|none=>
  simp only at h;rcases d:F8 g x with _|u;simp[d]at h;rcases i:xT g lo with _|l;simp[d,i]at h;rcases n:xT g y with _|hh;simp[d,i,n]at h;simp only[d,i,n]at h;have:=z5m f m w q h;simp only[execOp,qJ j d,Ng j i,Ng j n,Bm];rw[zK,this];rfl
 |_=>simp at h
end
end Go.Rx
