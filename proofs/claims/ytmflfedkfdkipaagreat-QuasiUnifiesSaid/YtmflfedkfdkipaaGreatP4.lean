import Derived.Laws.Append
import Derived.Test.YtmflfedkfdkipaaGreatP3
set_option linter.all false
open List Go.IntKind
open Nat hiding beq_eq
namespace Go.Rx
open Go
def nn(P:Ua)(m:Nm)(s:S)(w:Ep)(x:Sem Value)(v:Value)(c:S):Prop :=
 ∃b a d,x.run P w=.ok d a/\bS m s w b c a/\jU b c.nx v d
def um(P:Ua)(m:Nm)(s:S)(w:Ep)(x:Sem Unit)(c:S):Prop :=
 ∃b a,x.run P w=.ok () a/\bS m s w b c a
def jU.cells{m:Nm}{n:Nat}{v a:Value}(h:jU m n v a):oU m n v.cells.toList a.cells.toList:=fun c b=>by
 rw[<-h c b,ae,mP]
variable{m:Nm}{n:Nat}{l:X Value}
def qpo(h:∀a,aL a l=l):oU m n l l:=fun a _=>h a
variable{v:Value}
def QR(h:∀a,H3 a v=v):jU m n v v:=fun a _=>h a
def oU.append{a b c d:X Value}(h:oU m n a c)(g:oU m n b d):oU m n (a++b) (c++d):=fun f e=>by
 rw[JS,h f e,g f e]
def EE(m:Nm)(i b c a:Nat):(m.set i b c a).I5 i=b/\(m.set i b c a).sh i=c/\(m.set i b c a).cp i=a:=by simp[Nm.set]
variable{s:S}
def qys(b a c n:Nat)(i:s.nx<n):jU (m.set s.nx b a c) n (.pointer<|some ⟨s.nx,0,none⟩) (.pointer<|some ⟨b,a,none⟩):=fun j h=>by
 have⟨f,g,_⟩:=h s.nx i;have⟨d,e,_⟩:=EE m s.nx b a c;simp[H3,f,g,d,e]
variable{w:Ep}
def ee(j:gZ m s w){b:X Value}(k:oU m s.nx l b)(e:TypeId)(a:Nat):
  bS m s w (m.set s.nx w.heap.size 0 a) (newRow s l e 0) (w.alloc<|.cells ⟨b⟩ e):=by refine bS.alloc j _ _ a fun d c=>?_;have o:aP s.nx m d:=(Nm.K1 m s.nx w.heap.size 0 a).trans c (MD _);obtain⟨h,i,_⟩:=c s.nx<|zN _;have⟨f,g,_⟩:=EE m s.nx w.heap.size 0 a;refine⟨by rw[i,g],?_⟩;rw[h,f,k d o];show(w.heap.push _)[w.heap.size]? = _;simp
def WZ(q:gZ m s w){b rest:X Value}(r:oU m s.nx l b)(e:TypeId)(a f:Nat)(g:l.length+rest.length=a*f):
  bS m s w (m.set s.nx w.heap.size 0 a) (newRow s l e<|f+2) (w.alloc<|.cells ⟨b++rest⟩ e):=by refine bS.alloc q _ _ a fun d c=>?_;have t:aP s.nx m d:=(Nm.K1 m s.nx w.heap.size 0 a).trans c (MD _);obtain⟨k,o,p⟩:=c s.nx<|zN _;have⟨h,i,j⟩:=EE m s.nx w.heap.size 0 a;refine⟨[],rest,?_,by simp[o,i],by rw[p,j,g]⟩;rw[k,h,r d t];show(w.heap.push _)[w.heap.size]? = _;simp
def TR{e:TypeId}{a:Nat}(h:a≠1):gQ (.inl (l,e,a))=true:=by obtain _ |_ |n:=a<;>simp_all[gQ]
def z5u{P:Ua}(o:gZ m s w){i off:Nat}{U q d:X Value}{e:TypeId}{I:Nat}(hr:fC s i=some (l,e,I))(hp:BN l off q=some U)
  (E:oU m s.nx q d) (h1:xY q=true):
  ∃g,(storeCells ⟨m.I5 i,m.sh i+off,none⟩ d 0).run P w=.ok () g/\bS m s w m ⟨up s.h i<|.inl (U,e,I),s.nx⟩ g:=by
 have⟨p,K⟩:=Qc hr;have⟨aT,L⟩:=qts hp;have M:∀v∈d,v.oneCell'=true:=by rw[<-E.at];exact qoy h1
 have T:d.length=q.length:=by rw[<-E.at];simp
 obtain _ |_ |n:=I;have z:∀a,aP s.nx m a->a.sh i=0/\w.heap[a.I5 i]? = some (.cells (aL a l).toArray e (0,0)):=fun a c=>(o a c).ok i _ p
 obtain⟨H,j⟩:=z m<|aP.refl _ _;have u:=run_storeCells_at P (m.I5 i) off e d 0 _ w j (by simp;omega) M;simp only[eT]at u;rw[H,Ty];refine⟨_,u,bS.write o p (TR K) (fun k G=>setRow_other w _ k _ G) aZ rfl rfl rfl (zF _) fun a c=>?_⟩;obtain⟨B,t⟩:=z a c;have r:a.I5 i=m.I5 i:=(c i<|(o.fits).bd i _ p).1;refine⟨B,?_⟩;rw[r,setRow_heap w _ _ _ e (0,0) j];rw[r]at t;have V:aL a l=aL m l:=by have:=j.symm.trans t;simp at this;exact this.symm
 rw[L,JS,JS,E a c];have x:aL a (l.take off)=(aL m l).take off:=by rw[<-V];simp[nE,Bd]
 have y:aL a (l.drop<|off+q.length)=(aL m l).drop (off+d.length):=by rw[<-V,T];simp[nE,As]
 rw[x,y];exact absurd rfl K;have z:∀a,aP s.nx m a->∃f b,w.heap[a.I5 i]? = some (.cells (f++aL a l++b).toArray e (0,0))/\f.length=a.sh i/\l.length+b.length=a.cp i*n:=fun a c=>(o a c).ok i _ p;obtain⟨f,b,j,J,W⟩:=z m<|aP.refl _ _;have u:=run_storeCells_at P (m.I5 i) (m.sh i+off) e d 0 _ w j (by simp;omega) M;simp[eT]at u;refine⟨_,u,bS.write o p (TR K) (fun k G=>setRow_other w _ k _ G) aZ rfl rfl rfl (zF _) fun a c=>?_⟩;have⟨C,N,t,A,D⟩:=z a c;obtain⟨r,Q,F⟩:=c i<|(o.fits).bd i _ p;rw[r]at t;have R:C++aL a l++N=f++aL m l++b:=by have:=j.symm.trans t;simp at this;simpa using this.symm
 have O:C=f/\aL a l=aL m l/\N=b:=by rw[zT,zT]at R;have⟨x,y⟩:=append_inj R (by rw[A,J,Q]);have⟨Y,Z⟩:=append_inj y aZ;exact⟨x,Y,Z⟩
 refine⟨f,b,?_,by rw[Q,J],?_⟩;rw[r,setRow_heap w _ _ _ e (0,0) j];rw[L,JS,JS,E a c];have x:aL a (l.take off)=(aL m l).take off:=by rw[<-O.2.1];simp[nE,Bd]
 have y:aL a (l.drop<|off+q.length)=(aL m l).drop (off+d.length):=by rw[<-O.2.1,T];simp[nE,As]
 rw[x,y];congr 2;simp[zT];rw[<-J,take_append,zW af,qi,Ar (by simp;omega)];rw[qcs,Ii af,X0,show f.length+off+d.length-f.length=off+d.length by omega,xn (by simp;omega)];simp;rw[F,<-W,L];simp;omega
section
variable{P:Ua}{T:Tb}(f:jW P T){m:Nm}{s:S}{w:Ep}(g:gZ m s w)
include f g
def z95{t:TypeId}{p d c u:Value}{x:S}(D:jU m s.nx p d)(y:jU m s.nx v c)(h:Ls T s t p v=some (u,x)):
  um P m s w (Instr.storeAt t d c) x/\u=undef:=by
 unfold Ls at h;cases p with
 |pointer q=>
  obtain _|a:=q;simp at h;simp only[beq_eq]at h;rcases o:cP T t with _|n;simp[o]at h;simp only[o]at h;by_cases j:v.cells.toList.length=n;simp[j,yC,zC]at h;rcases i:xY v.cells.toList with _|_;simp[i]at h;simp[i,zC]at h;rcases F:fC s a.block with _|r;simp[F]at h;have⟨l,e,E⟩:=r;simp[F]at h;rcases k:BN l a.off v.cells.toList with _|l';simp[k]at h;simp[k,zA,zB]at h;obtain⟨rfl,rfl⟩:=h;refine⟨?_,rfl⟩;obtain⟨b,B,A⟩:=z5u (P:=P) g F k y.cells i;refine⟨m,b,?_,A⟩;have z:d=.pointer (some ⟨m.I5 a.block,m.sh a.block+a.off,none⟩):=by rw[<-D.at];simp[H3]
  have C:c.cells.size=n:=by
   have:c.cells.toList.length=n:=by rw[<-y.cells.at];simpa using j
   simpa using this
  subst z;simp[Instr.storeAt,Instr.sureAddr,storeVar,rR f w o,C,B];simp only[j,yB,zD]at h;cases h
 |_=>simp at h
omit f g in
def qs4(z:Jg Value)(n:Nat):(Array.range (n*z.size)).map (fun i=>z[i%z.size]!)=⟨dK z.toList n⟩:=by
 apply Be;simp[Array.toList_map,Array.toList_range];obtain c |jK:=Hb z.size;have d:z= #[]:=by simpa using c
 subst d;induction n with
 |zero=>simp[dK]|succ n a=>simp[dK]at a ⊢;exact a
 induction n with
 |zero=>simp[dK]|succ n a=>
  have e:(n+1)*z.size=z.size+n*z.size:=by rw[dX];omega
  rw[e,range_add,y_,dK,<-a];congr 1;apply od;intro i;by_cases b:i<z.size;simp[b,vu b];simp[b];rw[eF];apply X2;intro i _;simp
omit f g in
def qog(z:X Value)(n:Nat):(dK z n).length=n*z.length:=by induction n with|zero=>simp[dK]|succ n a=>simp[dK,a,dX];omega
omit f g in
def qoh{z:X Value}(h:∀a,aL a z=z)(n:Nat)(a:Nm):aL a (dK z n)=dK z n:=by induction n with|zero=>simp[dK,aL]|succ n b=>simp[dK,JS,b,h]
omit g in
def ak{t:TypeId}{x:Nat×Nat×Value}(h:T.inf t=some x)(a:Nm):aL a x.2.2.cells.toList=x.2.2.cells.toList:=by have:=(QF f a default h).2;rw[<-mP,<-ae,this]
omit f g in
def Cp{b d e n len c h:Nat}(r:s.nx<n)(q:∀a,aP n (m.set s.nx b d e) a->dV a s.nx c=h):
  jU (m.set s.nx b d e) n (.slice (some ⟨s.nx,0,none⟩) len c) (.slice (some ⟨b,d,none⟩) len h):=fun a i=>by
 have⟨o,p,_⟩:=i s.nx r;have⟨j,k,_⟩:=EE m s.nx b d e;simp[H3,o,p,j,k,q a i]
def qvd{t:TypeId}{A:X (Nat×Value)}{I:S}{cps:X (Nat×Value)}(F:∀b,aP s.nx m b->A.map (fun p=>(p.1,H3 b p.2))=cps)
  (h:Vm T s t n A=some (v,I)):nn P m s w (Instr.buildSlice t n cps.toArray) v I:=by
 unfold Vm at h;rcases o:T.I1 t with _|d;simp[o]at h;cases d with
 |slice e=>
  simp only[o]at h;rcases q:T.inf e with _|x;simp[q]at h;obtain⟨a,Q,z⟩:=x;have L:cP T e=some a:=by simp[cP,q]
  have M:=fun b=>QF f b w q;have H:=ak f q;simp only at M H;simp only[q,beq_eq]at h;rcases B:ble (n*a) 16777216 with _|_
  simp[B]at h;simp only[B,zC]at h;have V:n*a<=16777216:=by simpa[yv]using B
  by_cases u:z.cells.toList.length=a;simp[u,yC,zC]at h;rcases y:FQ (fun i=>some (i*a,a)) (dK z.cells.toList n) A with _|cs;simp[y]at h;rcases C:blt n dC with _|_;simp[y,C]at h;have D:n<dC:=by simpa[uv]using C
  simp[y,C,zC,zA,zB]at h;obtain⟨rfl,rfl⟩:=h;have G:∀b,aP s.nx m b->Instr.fill (fun i=>some (i*a,a)) ⟨dK z.cells.toList n⟩ cps=some ⟨aL b cs⟩:=fun b E=>by have:=Uu b _ A _ _ y;rw[F b E,qoh H]at this;exact this
  obtain⟨J,N⟩:∃J,oU m s.nx cs J:=⟨aL m cs,fun b E=>by have R:=G b E;have K:=G m<|aP.refl _ _;rw[R]at K;simpa using K⟩;have O:z.cells.size=a:=by simpa using u
  refine⟨_,_,.slice (some ⟨w.heap.size,0,none⟩) n n,?_,ee g N e 0,?_⟩;have r:(Array.range<|n*a).map (fun i=>(if n*a=0 then(#[]:Jg Value)else z.cells)[i%(if n*a=0 then(#[]:Jg Value)else z.cells).size]!)=⟨dK z.cells.toList n⟩:=by
   by_cases c:n*a=0;rw[c];apply Be;have:(dK z.cells.toList n).length=0:=by rw[qog,u,c]
   simp[length_eq_zero_iff.1 this];simp[hF c];have:=qs4 z.cells n;rw[O]at this;rw[<-this];simp[O]
  have k:=G m<|aP.refl _ _;rw[N.at]at k;have j:¬ n*a>2^24:=by omega
  have U:=(M m).1;by_cases c:n*a=0;simp[lr c]at r;simp[Instr.buildSlice,zK,lX f w o,zJ,rR f w L,Sem.run_ite,hF j,zL,lr c];rw[r,k];simp[Go.newRow];simp[hF c]at r;simp only[Instr.buildSlice,zK,lX f w o,zJ,rR f w L,Sem.run_ite,hF j,zL,hF c,U];rw[r,k];simp[Go.newRow];refine Cp (zN _) fun b _=>?_;simp[dV,D];simp only[u,yB,zD]at h;cases h
 |_=>simp[o]at h
end
variable{n:Nat}
def z1n{m:Nm}{s:S}{w:Ep}(t:gZ m s w){b:V Addr}{f:X Value}(h:xW s b n=some f):
  f.length=n/\∃r,oU m s.nx f r/\∀a,b=some a->∀j u,r[j]? = some u->w.cell? ((⟨m.I5 a.block,m.sh a.block+a.off,none⟩:Addr).add j)=some u:=by
 cases n with
 |zero=>simp[xW]at h;subst h;exact⟨rfl,[],fun _ _=>by simp[aL],fun _ _ j u g=>by simp at g⟩|succ n=>
  simp[xW]at h;obtain _|a:=b;simp at h;simp only at h;rcases i:lk s.h a.block with _|I5;simp[i]at h;obtain⟨l,e,z⟩|x:=I5;simp[i]at h;have q:∀d,aP s.nx m d->∀j v,f[j]? = some v->w.cell? ⟨m.I5 a.block,m.sh a.block+(a.off+j),none⟩=some (H3 d v):=fun d o j v c=>by have A:BR d a.block l e w z:=(t d o).ok _ _ i;have:=A.cell<|z5i h c;obtain⟨p,k,_⟩:=o a.block<|(t.fits).bd _ _ i;rw[p,k]at this;exact this
  refine⟨qwb h,aL m f,fun d o=>?_,?_⟩;rw[nE,nE];apply X2;intro v y;have⟨j,c⟩:=Zc y;have p:=q d o j v c;have k:=q m (aP.refl _ _) j v c;rw[p]at k;simpa using k;rintro _ ⟨rfl⟩ j u g;rw[nE,me]at g;rcases c:f[j]? with _|v;simp[c]at g;simp[c]at g;subst g;rw[HR,ns];exact q m (aP.refl _ _) j v c;simp[i]at h
def z96(x K d n k z:Nat):x+K*z-(x+d*z+n*z+k*z)=(K-(d+n+k))*z:=by rw[Nat.sub_mul,dX,dX];omega
def z6r(n k K d:Nat)(h:n+k<=K-d):n+k+(K-(d+n+k))=K-d:=af
def rO(m:Nm):V Addr->Nat->Nat
 |none,c=>c|some a,c=>dV m a.block c
def bS.rename{m:Nm}{s:S}{w w':Ep}(h:gZ m s w){i:Nat}{b A:nT}(q:lk s.h i=some b)(t:gQ b=true)(p f:Nat)
  (H:∀k,k≠m.I5 i->w'.heap[k]? = w.heap[k]?) (Q:w'.heap.size=w.heap.size) (L:w'.os=w.os) (M:w'.tape=w.tape) (N:w'.output=w.output) (_h4:w.drawn<=w'.drawn) (O:∀c,aP (s.nx+1) (m.set s.nx (m.I5 i) p f) c->xU c s.nx w' A):
  bS m s w (m.set s.nx (m.I5 i) p f) ⟨(s.nx,A)::rm s.h i,s.nx+1⟩ w':=by
 have K:i<s.nx:=(h.fits).bd i b q;have key:∀j d,s.nx≠j->lk ((s.nx,A)::rm s.h i) j=some d->lk s.h j=some d/\i≠j:=fun j d g a=>by simp[nU,g,MF,Lo]at a;by_cases e:i=j;simp[e]at a;simp[e,MF]at a;exact⟨a,e⟩
 refine⟨Nm.K1 m _ _ _ _,MD _,?_,?_,?_,by omega,L,M,N⟩;intro c B;have J:aP s.nx m c:=(Nm.K1 m s.nx (m.I5 i) p f).trans B (MD _);have r:=h c J;have I:c.I5 s.nx=m.I5 i:=by have:=(B s.nx<|zN _).1;simpa[Nm.set]using this
 have o:c.I5 i=m.I5 i:=(J i K).1;refine⟨fun j d a=>?_,fun j k d y a u E C=>?_,fun j d a=>?_⟩;by_cases e:s.nx=j;subst e;simp[nU,It,zA]at a;subst a;exact O c B;have⟨u,D⟩:=key j d e a;refine(r.ok j d u).world (H _ ?_);rw[<-o];exact fun x=>r.inj i j b d q u D t x.symm;by_cases e:s.nx=j;subst e;have⟨z,F⟩:=key k y E u;rw[I,<-o];exact r.inj i k b y q z F t;have⟨g,D⟩:=key j d e a;by_cases G:s.nx=k;subst G;rw[I,<-o];exact fun x=>r.inj i j b d q g D t x.symm;have⟨z,F⟩:=key k y G u;exact r.inj j k d y g z E C;by_cases e:s.nx=j;subst e;exact zN _;exact Ze<|r.bd j d (key j d e a).1;rintro k ⟨j,d,a,C,rfl⟩;left;by_cases e:s.nx=j;subst e;exact⟨i,b,q,t,by simp[Nm.set]⟩;have⟨g,_⟩:=key j d e a;have:=(h.fits).bd j d g;exact⟨j,d,g,C,by simp[Nm.set,show j≠s.nx by omega]⟩;intro k z P;exact H k fun e=>P ⟨i,b,q,t,e.symm⟩
def lN(z:Jg Value)(n:Nat):(Builtin.zeroCells z n).size=n*z.size:=by simp[Builtin.zeroCells]
def z0c{b:Nat}(h:EA n b=true):n*b<=140737488355328/\n<=140737488355328:=by unfold EA at h;rcases a:ble (n*b) 140737488355328 with _|_;simp[a]at h;simp[a,zC]at h;exact⟨by simpa[yv]using a,by simpa[yv]using h⟩
def Wd(m:Nm)(i:Nat):dV m i dC=m.cp i:=by simp[dV,dA]
section
variable{P:Ua}{T:Tb}(f:jW P T){m:Nm}{s:S}{w:Ep}(g:gZ m s w)
include f g
variable{t:TypeId}{v:Value}{o:S}
def zcd{l c I H:Value}(hl:jU m s.nx l I)(hc:jU m s.nx c H)(h:Rp T s t l c=some (v,o)):nn P m s w (Instr.makeSlice t I H) v o:=by
 unfold Rp at h;rcases G:T.I1 t with _|d;simp[G]at h;cases d with
 |slice e=>
  simp only[G]at h;cases l with
  |int k1 a=>
   cases c with
   |int k2 b=>
    simp only at h;have Z:I=.int k1 a:=by rw[<-hl.at];simp[H3]
    have e2:H=.int k2 b:=by rw[<-hc.at];simp[H3]
    subst Z e2;rcases y:T.inf e with _|x;simp[y]at h;obtain⟨r,j,z⟩:=x;have fN:cP T e=some r:=by simp[cP,y]
    have O:=fun R=>QF f R w y;have M:=ak f y;simp only at O M;obtain⟨_,i,W,Qu,Y,hi4⟩:=f.inf e _ _ _ y;simp only[y,beq_eq]at h;cases E:i64.wrap a with
    |negSucc x=>simp[E]at h|ofNat n=>
     cases L:i64.wrap b with
     |negSucc x=>simp[E,L]at h|ofNat k=>
      simp only[E,L]at h;rcases u:ble n k with _|_;simp[u]at h;rcases A:ble (j*k) 281474976710656 with _|_;simp[u,A]at h;by_cases B:z.cells.toList.length=r;rcases J:blt k dC with _|_;simp only[u,A,B,J,zC,yC,zD]at h;cases h;simp only[u,A,B,J,zC,yC,zA,zB]at h;obtain⟨rfl,rfl⟩:=h;have vZ:n<=k:=by simpa[yv]using u
      have V:j*k<=281474976710656:=zY A;have K:k<dC:=by simpa[uv]using J
      have Q:z.cells.size=r:=by simpa using B
      refine⟨_,_,.slice (some ⟨w.heap.size,0,none⟩) n k,?_,ee g (qpo<|qoh M k) e 0,?_⟩;have U:∀q:Nat,q<=k->(decide ((q:Int)<0)||decide ((i.bytes:Int)*(q:Int)>2^48))=false:=by intro q hq;have:j*q<=281474976710656:=Zt (mul_le_mul_left _ hq) V;have N:((j*q:Nat):Int)<=((281474976710656:Nat):Int):=Int.ofNat_le.2 this;simp only[Bool.or_eq_false_iff,IT,Y];refine⟨by omega,?_⟩;rw[Int.natCast_mul]at N;simp[gt_iff_lt,Int.not_lt];exact N
      have F:(Array.range<|k*r).map (fun i=>(if k*r=0 then(#[]:Jg Value)else z.cells)[i%(if k*r=0 then(#[]:Jg Value)else z.cells).size]!)=⟨dK z.cells.toList k⟩:=by
       by_cases p:k*r=0;rw[p];apply Be;have:(dK z.cells.toList k).length=0:=by rw[qog,B,p]
       simp[length_eq_zero_iff.1 this];simp[hF p];have:=qs4 z.cells k;rw[Q]at this;rw[<-this];simp[Q]
      have eW:(((decide ((k:Int)<0)||decide ((i.bytes:Int)*(k:Int)>2^48))||decide ((n:Int)<0))||decide ((n:Int)>(k:Int)))=false:=by rw[U k<|zF _];simp;omega
      have C:i64.wrap a=(n:Int):=E;have D:i64.wrap b=(k:Int):=L;have zk:=(O m).1;simp only[Instr.makeSlice,zK,lX f w G,zJ,asInt,asIntOf,zL,typeInfo,run_program,W,C,D,Sem.run_ite,eW,gj,MF,run_askRoom,zZ,rR f w fN];by_cases p:k*r=0;simp only[lr p]at F;simp only[lr p];rw[F];simp[Go.newRow];simp only[hF p]at F;simp only[hF p,zk,zJ];rw[F];simp[Go.newRow];refine Cp (zN _) fun R _=>?_;simp[dV,K];simp only[u,A,B,zC,yB,zD]at h;cases h
   |_=>simp at h
  |_=>simp at h
 |_=>simp[G]at h
omit g in
def du{t j ty e q:TypeId}{size:Nat}(d:T.I1 t=some (.slice e))(h:T.I1 j=some (.slice q))(c:cP T e=some size){base xb:V Addr}{n C k xc:Nat}{cnew:Jg Value}{w₁:Ep}
  (i:(Builtin.firstCells size k (.slice xb k xc)).run P w=.ok cnew w) (b:n+k<=C) (p:∀a,base=some a->(storeCells (a.add (n*size)) cnew.toList).run P w=.ok () w₁) (r:base=none->w₁=w):
  (Builtin.append_ #[t,j] ty #[.slice base n C,.slice xb k xc]).run P w=.ok (.slice base (n+k) C) w₁:=by cases base with|none=>rw[r rfl];simp[Builtin.append_,lX f w d,lX f w h,rR f w c,Builtin.lenOf,b,i]|some a=>simp[Builtin.append_,lX f w d,lX f w h,rR f w c,Builtin.lenOf,b,i,p a rfl]
omit g in
def jF{t u ty e B:TypeId}{size c:Nat}{z:Value}(I:T.I1 t=some (.slice e))(J:T.I1 u=some (.slice B))(p:T.inf e=some (size,c,z)){base q:V Addr}{n C k r:Nat}{a cold:Jg Value}
  (L:∀b,b.heap=w.heap->(Builtin.firstCells size k (.slice q k r)).run P b=.ok a b) (M:∀b,b.heap=w.heap->(Builtin.firstCells size n (.slice base n C)).run P b=.ok cold b) (A:C<n+k) (U:EA (n+k) c=true): (Builtin.append_ #[t,u] ty #[.slice base n C,.slice q k r]).run P w=
   .ok (.slice (some ⟨w.heap.size,0,none⟩) (n+k) ((Question.appendCap (n+k) C e).cut (w.tape w.drawn (.appendCap (n+k) C e)))) ((w.drew).alloc (.cells (cold++a++Builtin.zeroCells z.cells (((Question.appendCap (n+k) C e).cut (w.tape w.drawn (.appendCap (n+k) C e)))-(n+k))) e)):=by
 have⟨N,Q⟩:=z0c U;have⟨_,i,x,O,y,E⟩:=f.inf e _ _ _ p;have H:cP T e=some size:=by simp[cP,p]
 have g1:¬ n+k<=C:=by omega
 have g2:¬ (((n+k:Nat):Int)>i64.max/\(False\/i.bytes=0)):=by rw[max_i64];omega
 have D:¬ Builtin.nextslicecap (n+k) C*i.bytes>2^48:=by have:=growslice_fits (bytes:=i.bytes) A (by rw[y];exact N);omega
 have F:=L w.drew rfl;have G:=M w.drew rfl;have R:({ w with drawn:=w.drawn+1 }:Ep)=w.drew:=rfl;have K:(zeroValue e).run P w.drew=.ok z w.drew:=(QF f (⟨id,id,id⟩:Nm) w.drew p).1;simp[Builtin.append_,lX f w I,lX f w J,rR f w H,Builtin.lenOf,hF g1,typeInfo,x];have d:¬ (9223372036854775807<(n:Int)+(k:Int)/\i.bytes=0):=by omega
 have h:¬ 281474976710656<Builtin.nextslicecap (n+k) C*i.bytes:=D;have j:(Question.appendCap (n+k) C e).forced=false:=rfl;simp[hF d,hF h,j,gj,MF,G,F,K,zJ];simp[Go.newRow];rfl
omit g in
def qlm{t i ty e p:TypeId}{size c:Nat}{z:Value}(r:T.I1 t=some (.slice e))(u:T.I1 i=some (.slice p))(q:T.inf e=some (size,c,z)){base d:V Addr}{n C k h:Nat}{a cold:Jg Value}
  (x:∀b,b.heap=w.heap->(Builtin.firstCells size k (.slice d k h)).run P b=.ok a b) (y:∀b,b.heap=w.heap->(Builtin.firstCells size n (.slice base n C)).run P b=.ok cold b) (j:C<n+k) (A:EA (n+k) c=true):
  ∃nc,n+k<=nc/\(Builtin.append_ #[t,i] ty #[.slice base n C,.slice d k h]).run P w=
   .ok (.slice (some ⟨w.heap.size,0,none⟩) (n+k) nc) ((w.drew).alloc (.cells (cold++a++Builtin.zeroCells z.cells (nc-(n+k))) e)):=
 ⟨_,by simp[Question.cut],jF f r u q x y j A⟩
omit f in
def qqa{b:V Addr}{n size:Nat}{e:X Value}(h:xW s b (n*size)=some e):
  ∃c,oU m s.nx e c/\e.length=n*size/\∀d,d.heap=w.heap->∀len cap,(Builtin.firstCells size n (.slice (b.map fun a=>⟨m.I5 a.block,m.sh a.block+a.off,none⟩) len cap)).run P d=.ok ⟨c⟩ d:=by
 have⟨i,c,p,q⟩:=z1n g h;refine⟨c,p,i,fun d y len cap=>?_⟩;have r:c.length=n*size:=by rw[<-p.at];simp[i]
 cases b with
 |none=>
  have:n*size=0:=by cases z:n*size with|zero=>rfl|succ k=>rw[z]at h;simp[xW]at h
  have:c=[]:=length_eq_zero_iff.1 af;subst this;simp[Builtin.firstCells]
 |some a=>exact run_firstCells_some d size n _ len cap c r (fun j u x=>by have:=q a rfl j u x;rw[<-this];simp[World.cell?,y])
omit f in
def zdi{i c a:Nat}{l:X Value}{e:TypeId}(d:lk s.h i=some (.inl (l,e,a+1+2))){off n:Nat}(p:off=dA c*(a+1))(k:off+n*(a+1)<=l.length):n+dA c<=m.cp i:=by
 have⟨q,b,_,_,j⟩:=(g.fits).ok i _ d;have:(n+dA c)*(a+1)<=m.cp i*(a+1):=by rw[dX];omega
 exact WU this af
variable{i:TypeId}{ty:TypeId}{j:Value}
def qzg{e R:TypeId}{d B:Nat}{z:Value}(hd:T.I1 t=some (.slice e))(dT:T.I1 i=some (.slice R))(hi:T.inf e=some (d+1,B,z)){a:Addr}{l p new b:X Value}{c k:Nat}{M:V Addr}{xc:Nat}
  (hr:fC s a.block=some (l,e,d+1+2)) (g9:a.off=dA c*(d+1)) (hc:¬ c<dC) (c7:EA (n+(k+1)) B=true) (ON:z.cells.toList.length=d+1) (K:xM l a.off (n*(d+1))=some p) (I:oU m s.nx new b) (O:new.length=(k+1)*(d+1)) (h1:xY new=true) (lK:∀w',w'.heap=w.heap->∀len cap,(Builtin.firstCells (d+1) (k+1)<|.slice (M.map fun a=>⟨m.I5 a.block,m.sh a.block+a.off,none⟩) len cap).run P w'=.ok ⟨b⟩ w')
  {cx:Value} (Z:cx=.slice (M.map fun a=>⟨m.I5 a.block,m.sh a.block+a.off,none⟩) (k+1) (rO m M xc)) (x:j=.slice ((some a).map fun a=>⟨m.I5 a.block,m.sh a.block+a.off,none⟩) n (rO m (some a) c)):
  nn P m s w (Builtin.append_ #[t,i] ty #[j,cx]) (.slice (some ⟨s.nx,0,none⟩) (n+(k+1)) dC) ⟨(s.nx,.inl (p++new,e,d+1+2))::rm s.h a.block,s.nx+1⟩:=by
 have fN:cP T e=some (d+1):=by simp[cP,hi]
 have⟨L,qZ⟩:=Qc hr;have⟨nO,o3⟩:=tf K;have N:=qwb K;have jN:rO m (some a) c=m.cp a.block-dA c:=by simp[rO,dV,hc]
 have j7:=(g.fits).bd _ _ L;have jj:xW s (some a) (n*(d+1))=some p:=by cases hn:n*(d+1)with|zero=>rw[hn]at N;simp[xW,length_eq_zero_iff.1 N]|succ q=>rw[hn]at K;simp[xW,L,K]
 have⟨r,Q,_,SH⟩:=qqa (P:=P) g jj;have iL:b.length=(k+1)*(d+1):=by rw[<-I.at];simp[O]
 rw[jN]at x;by_cases oP:n+(k+1)<=m.cp a.block-dA c
 ·-- iA is room
  have⟨u,rest,hb,nN,Y⟩:=(g.fits).ok _ _ L;have zw:a.off+n*(d+1)+b.length<=l.length+rest.length:=by rw[Y,g9,iL,<-dX,<-dX];exact tp _ af
  have AG:∀v∈b,v.oneCell'=true:=by rw[<-I.at];exact qoy h1
  have y:(u++aL m l++rest).length=m.sh a.block+(l.length+rest.length):=by simp[nN]
  have J:=run_storeCells_at P (m.I5 a.block) (m.sh a.block+a.off+n*(d+1)) e b 0 _ w hb (by simp[HB,y];omega) AG;simp only[eT]at J;refine⟨_,_,.slice (some ⟨m.I5 a.block,m.sh a.block+a.off,none⟩) (n+(k+1))<|m.cp a.block-dA c,?_,bS.rename (w':=w.setRow (m.I5 a.block) ((u++aL m l++rest).take (m.sh a.block+a.off+n*(d+1))++b++(u++aL m l++rest).drop (m.sh a.block+a.off+n*(d+1)+b.length)).toArray) g L (TR qZ) (m.sh a.block+a.off) (m.cp a.block-dA c) (fun k hk=>setRow_other w _ k _ hk) aZ rfl rfl rfl (zF _) ?_,?_⟩;rw[Z,x];exact du (P:=P) f (w:=w) (ty:=ty) hd dT fN (lK w rfl _ _) oP (fun a' H=>by simp only[zM,zA]at H;subst H;rw[HR];exact J) (fun eW=>by simp at eW);intro G A;obtain⟨vZ,IE,SX⟩:=A s.nx<|zN _;obtain⟨e1,R,D⟩:=EE m s.nx (m.I5 a.block) (m.sh a.block+a.off)<|m.cp a.block-dA c;have H:aP s.nx m G:=(Nm.K1 m s.nx _ _ _).trans A (MD _);refine⟨(u++aL m l++rest).take (m.sh a.block+a.off),(u++aL m l++rest).drop (m.sh a.block+a.off+n*(d+1)+b.length),?_,?_,?_⟩;rw[vZ,e1,setRow_heap w _ _ _ e (0,0) hb,JS,I G H,Q G H];have E:((u++aL m l++rest).drop (m.sh a.block+a.off)).take (n*(d+1))=r:=by rw[<-Q.at,nO];rcases Hb (n*(d+1))with h0 |jK;rw[h0];simp[aL];rw[<-nN,zT,qcs,Ii af,X0,qi,xn (by simp;omega),Ar (by simp;omega)];simp[nE,As,Bd]
  have Gd:(u++aL m l++rest).take (m.sh a.block+a.off+n*(d+1))=(u++aL m l++rest).take (m.sh a.block+a.off)++r:=by rw[NB,E]
  rw[Gd];congr 2;simp[zT];rw[IE,R,Yz,y];omega;rw[SX,D,zU,N,O,yc,y];rw[Y,iL,g9,<-dX];have e4:=z96 (m.sh a.block) (m.cp a.block) (dA c) n (k+1)<|d+1;rw[e4,<-dX,z6r _ _ _ _ oP];refine Cp (zN _) fun G A=>?_;rw[Wd];obtain⟨_,_,D⟩:=EE m s.nx (m.I5 a.block) (m.sh a.block+a.off)<|m.cp a.block-dA c;exact(A s.nx<|zN _).2.2.trans D
 have aG:m.cp a.block-dA c<n+(k+1):=by omega
 have⟨nc,hnc2,dO⟩:=qlm (P:=P) f (w:=w) (ty:=ty) hd dT hi (n:=n) (k:=k+1) (C:=m.cp a.block-dA c) (base:=(some a).map fun a=>⟨m.I5 a.block,m.sh a.block+a.off,none⟩) (fun w' F=>lK w' F (k+1)<|rO m M xc) (fun w' F=>SH w' F n _) aG c7;have U:gZ m s w.drew:=qkk _ g;have aX:=WZ U (rest:=(Builtin.zeroCells z.cells<|nc-(n+(k+1))).toList) (Q.append I) e nc (d+1) (by
  have W:z.cells.size=d+1:=by simpa using ON
  rw[zU,N,O,Array.length_toList,lN,W,<-dX,<-dX];congr 1;omega)
 have c5:=((bS.draw (w.drawn+1) g).trans aX).trans (bS.forget aX.fits a.block);have J:(⟨rm (newRow s (p++new) e<|d+1+2).h a.block,(newRow s (p++new) e<|d+1+2).nx⟩:S)=⟨(s.nx,.inl (p++new,e,d+1+2))::rm s.h a.block,s.nx+1⟩:=by simp[newRow,rm,beq_eq,show s.nx≠a.block by omega]
 rw[J]at c5;refine⟨_,_,.slice (some ⟨w.heap.size,0,none⟩) (n+(k+1)) nc,?_,c5,?_⟩;rw[Z,x,dO];congr 3;simp;have F:w.drew.heap.size=w.heap.size:=rfl;rw[F];refine Cp (zN _) fun G A=>?_;rw[Wd];have⟨_,_,D⟩:=EE m s.nx w.heap.size 0 nc;exact(A s.nx<|zN _).2.2.trans D
omit f in
def TS {base : V Addr} {n c sz : Nat} {v : Value} {o : S} (h : (cond (blt c dC) (cond (ble n c) (some (Value.slice base n c, s)) none)
            (match base with
              |some a=> match fC s a.block with
                |some (l,_,u)=> cond (Nat.beq u (sz+3)) (cond (Nat.beq a.off (dA c*(sz+1))) (match xM l a.off (n*(sz+1))with
                  |some _=> some (Value.slice base n c,s)|none=> none) none) none
                |none=> none
              |none=> none))=some (v,o)):v=.slice base n c/\o=s/\n<=rO m base c:=by
  simp[beq_eq]at h;cases b:blt c dC with
  |true=>simp[b,zC]at h;have x:c<dC:=Cj b;rcases e:ble n c with _|_;simp only[e,zD]at h;cases h;simp[e,zC,zA,zB]at h;refine⟨h.1.symm,h.2.symm, ?_⟩;have:n<=c:=zY e;obtain _|a:=base;exact this;simp[rO,dV,lr x];exact this
  |false=>have x : ¬ c<dC:=ah b;simp[b,zD]at h;obtain _|a:=base;simp at h;simp only at h;rcases D:fC s a.block with _|r;simp[D]at h;have⟨l,A,u⟩:=r;simp[D]at h;by_cases d:u=sz+3;by_cases k:a.off=dA c*(sz+1);rw[Zh d,Zh k]at h;simp[zC]at h;rcases p:xM l a.off (n*(sz+1))with _|q;simp[p]at h;simp[p,zA,zB]at h;refine⟨h.1.symm,h.2.symm, ?_⟩;have⟨_,B⟩:=tf p;have z:=(Qc D).1;subst d;simp[rO,dV,hF x];obtain y |jK:=Hb n;rw[y];exact qq _;have C:0<n*(sz+1):=Hx jK af;have:=zdi g (c:=c) (n:=n) (off:=a.off) z k af;omega;rw[Zh d,Zb k]at h;simp at h;rw[Zb d]at h;simp at h
omit f g in
def Wc(size len cap:Nat)(b:V Addr)(a:Ep):(Builtin.firstCells size 0 (.slice b len cap)).run P a=.ok #[] a:=by cases b<;>simp[Builtin.firstCells,loadCells,loadCellsFrom]
def qoz{sv x cx:Value}(hs:jU m s.nx sv j)(hx:jU m s.nx x cx)(h:BY T s t i sv x=some (v,o)):nn P m s w (Builtin.append_ #[t,i] ty #[j,cx]) v o:=by
 unfold BY at h;rcases q:T.I1 t with _|d;simp[q]at h;cases d with
 |slice e=>
  rcases B:T.I1 i with _|d2;simp[q,B]at h;cases d2 with
  |slice e2=>
   cases sv with
   |slice base n c=>
    cases x with
    |slice I k xc=>
     simp only[q,B]at h;rcases H:T.inf e with _|y;simp[H]at h;obtain⟨b,J,z⟩:=y;cases b with
     |zero=>simp[H]at h|succ b=>
      have fN:cP T e=some (b+1):=by simp[cP,H]
      simp only[H]at h;rcases O:xW s I (k*(b+1))with _|new;simp[O]at h;simp only[O]at h;rcases V:xY new with _|_;simp[V]at h;simp only[V,zC]at h;obtain⟨K,Q,N,lK⟩:=qqa (P:=P) g O;have R:cx=.slice (I.map fun a=>⟨m.I5 a.block,m.sh a.block+a.off,none⟩) k (rO m I xc):=by rw[<-hx.at];cases I<;>simp[H3,rO]
      have G:j=.slice (base.map fun a=>⟨m.I5 a.block,m.sh a.block+a.off,none⟩) n (rO m base c):=by rw[<-hs.at];cases base<;>simp[H3,rO]
      cases k with
      |zero=>
       have Z:K=[]:=length_eq_zero_iff.1 (by rw[<-Q.at];simp[N]);subst Z;have U:v=.slice base n c->o=s->n<=(rO m base c)->nn P m s w (Builtin.append_ #[t,i] ty #[j,cx]) v o:=by rintro rfl rfl oP;refine⟨m,w,j,?_,bS.refl g,hs⟩;rw[R,G];have:=du (P:=P) f (w:=w) (ty:=ty) (w₁:=w) q B fN (base:=base.map fun a=>⟨m.I5 a.block,m.sh a.block+a.off,none⟩) (n:=n) (lK w rfl 0 (rO m I xc)) (C:=(rO m base c)) (by simpa using oP) (fun a _=>by simp[storeCells]) (fun _=>rfl);simpa using this
       obtain⟨e1,e2,oP⟩:=TS g h;exact U e1 e2 oP
      |succ k=>
       simp only[Lp,beq_eq]at h;cases M:blt c dC with
       |true=>
        simp only[M,zC]at h;have qN:c<dC:=Cj M;cases n with
        |succ n=>simp at h|zero=>
        cases c with|succ c=>simp at h|zero=>
        simp only at h;have jN:rO m base 0=0:=by cases base<;>simp[rO,dV,qN]
        rcases u:EA (0+(k+1)) J with _|_;simp only[u,zD]at h;cases h;simp only[u,zC]at h;by_cases A:z.cells.toList.length=b+1;simp only[A,yC,zC,zA,zB]at h;obtain⟨rfl,rfl⟩:=h;obtain⟨nc,hnc2,dO⟩:=qlm (P:=P) f (w:=w) (ty:=ty) q B H (n:=0) (k:=k+1) (C:=0) (base:=base.map fun a=>⟨m.I5 a.block,m.sh a.block+a.off,none⟩) (cold:=#[]) (fun w' hw=>lK w' hw (k+1)<|rO m I xc) (fun w' _=>Wc _ _ _ _ _) af u;have W:gZ m s w.drew:=qkk _ g;have aX:=WZ W (rest:=(Builtin.zeroCells z.cells<|nc-(0+(k+1))).toList) Q e nc (b+1) (by
         have hzs:z.cells.size=b+1:=by simpa using A
         rw[N,Array.length_toList,lN,hzs,<-dX];congr 1;omega)
        refine⟨_,_,.slice (some ⟨w.heap.size,0,none⟩) (0+(k+1)) nc,?_,(bS.draw (w.drawn+1) g).trans aX,?_⟩;rw[R,G,jN,dO];congr 3;simp;have hw:w.drew.heap.size=w.heap.size:=rfl;rw[hw];refine Cp (zN _) fun m' ha=>?_;rw[Wd];obtain⟨_,_,e3⟩:=EE m s.nx w.heap.size 0 nc;exact(ha s.nx<|zN _).2.2.trans e3;simp only[A,yB,zD]at h;cases h
       |false=>
        simp only[M,zD]at h;generalize hD:dA c=D at h;have qN:¬ c<dC:=ah M;obtain _|a:=base;simp at h;simp only at h;rcases hr:fC s a.block with _|r;simp[hr]at h;obtain⟨l,e',md⟩:=r;simp only[hr]at h;by_cases E:md=b+1+2;by_cases F:e'=e;by_cases L:a.off=D*(b+1);rcases u:EA (n+(k+1)) J with _|_;simp[E,F,u]at h;by_cases A:z.cells.toList.length=b+1;rcases Y:xM l a.off (n*(b+1))with _|p;simp only[E,F,yC,zC,u,A,Y,<-L]at h;cases h;have h':some (Value.slice (some ⟨s.nx,0,none⟩) (n+(k+1)) dC,(⟨(s.nx,.inl (p++new,e,b+1+2))::rm s.h a.block,s.nx+1⟩:S))=some (v,o):=by simpa only[E,F,yC,zC,u,A,Y,<-L]using h
        simp only[zA,zB]at h';obtain⟨rfl,rfl⟩:=h';subst E F;clear h;exact qzg f g q B H hr (by rw[hD];exact L) qN u A Y Q N V lK R G;simp only[E,F,yC,yB,zC,zD,u,A,<-L]at h;cases h;simp only[E,F,L,yC,yB,zC,zD]at h;cases h;simp only[E,F,yC,yB,zC,zD]at h;cases h;simp only[E,yB,zD]at h;cases h
    |_=>simp[q,B]at h
   |_=>simp[q,B]at h
  |_=>simp[q,B]at h
 |_=>simp[q]at h
def z0z{F x cx:Value}(J:jU m s.nx F j)(p:jU m s.nx x cx)(h:A5 T s t i F x=some (v,o)):nn P m s w (Builtin.append_ #[t,i] ty #[j,cx]) v o:=by
 have src:∀{F j:Value}{a:V Addr},jU m s.nx F j->BY T s t i F (.slice none 0 0)=some (v,o)->nn P m s w (Builtin.append_ #[t,i] ty #[j,.slice a 0 0]) v o:=by
  intro F j a J h;have h0:=h;unfold BY at h;rcases u:T.I1 t with _|d;simp[u]at h;cases d with
  |slice e=>
   rcases A:T.I1 i with _|d2;simp[u,A]at h;cases d2 with
   |slice L=>
    cases F with
    |slice base n c=>
     simp[u,A]at h;rcases D:T.inf e with _|y;simp[D]at h;have⟨sz,I,z⟩:=y;cases sz with
     |zero=>simp[D]at h|succ sz=>
      have Y:cP T e=some (sz+1):=by simp[cP,D]
      simp[D,my,xW,xY,zC]at h;have⟨E,L,oP⟩:=TS g h;subst E;subst L;have B:j=.slice (base.map fun a=>⟨m.I5 a.block,m.sh a.block+a.off,none⟩) n (rO m base c):=by rw[<-J.at];cases base<;>simp[H3,rO]
      refine⟨m,w,j,?_,bS.refl g,J⟩;rw[B];have:=du (P:=P) f (w:=w) (ty:=ty) (w₁:=w) u A Y (base:=base.map fun a=>⟨m.I5 a.block,m.sh a.block+a.off,none⟩) (n:=n) (xb:=a) (xc:=0) (k:=0) (cnew:=#[]) (Wc _ _ _ _ _) (C:=(rO m base c)) (by simpa using oP) (fun a _=>by simp[storeCells]) (fun _=>rfl);simpa using this
    |_=>simp[u,A]at h
   |_=>simp[u,A]at h
  |_=>simp[u]at h
 have tgt:∀{x cx:Value}{a:V Addr}{K:Value}{N:S},(jU m s.nx x cx\/x=.slice none 0 0/\∃b,cx=.slice b 0 0)->BY T s t i (.slice none 0 0) x=some (K,N)->(K=.slice none 0 0/\N=s/\(Builtin.append_ #[t,i] ty #[.slice a 0 0,cx]).run P w=.ok (.slice a 0 0) w)\/((∃b n c,K=.slice (some b) n c)/\nn P m s w (Builtin.append_ #[t,i] ty #[.slice a 0 0,cx]) K N):=by
  intro x cx a K N p h;have R:=fun p=>qoz (ty:=ty) f g (QR (m:=m) (n:=s.nx) (v:=.slice none 0 0) fun _=>by simp[H3]) (cx:=cx) p h;unfold BY at h;rcases u:T.I1 t with _|d
  simp[u]at h;cases d with
  |slice e=>
   rcases A:T.I1 i with _|d2;simp[u,A]at h;cases d2 with
   |slice L=>
    cases x with
    |slice xb k xc=>
     simp[u,A]at h;rcases D:T.inf e with _|y;simp[D]at h;obtain⟨sz,I,z⟩:=y;cases sz with
     |zero=>simp[D]at h|succ sz=>
      have Y:cP T e=some (sz+1):=by simp[cP,D]
      simp only[D]at h;rcases U:xW s xb (k*(sz+1))with _|new;simp[U]at h;simp only[U]at h;rcases h1:xY new with _|_;simp[h1]at h;simp only[h1,zC]at h;obtain⟨cnew,SM,AI,lK⟩:=qqa (P:=P) g U;have T9:jU m s.nx (.slice xb k xc) cx->cx=.slice (xb.map fun a=>⟨m.I5 a.block,m.sh a.block+a.off,none⟩) k (rO m xb xc):=fun p=>by rw[<-p.at];cases xb<;>simp[H3,rO]
      cases k with
      |zero=>
       obtain⟨E,L,oP⟩:=TS (sz:=sz) g h;refine .inl ⟨E,L,?_⟩;have M:∃b c,cx=.slice b 0 c:=by obtain p |⟨_,b,hb⟩:=p;exact⟨_,_,T9 p⟩;exact⟨b,0,hb⟩
       obtain⟨b,c,rfl⟩:=M;have:=du (P:=P) f (w:=w) (ty:=ty) (w₁:=w) u A Y (base:=a) (n:=0) (xb:=b) (xc:=c) (k:=0) (cnew:=#[]) (Wc _ _ _ _ _) (C:=0) (zF _) (fun a _=>by simp[storeCells]) (fun _=>rfl);simpa using this
      |succ k=>
       have W:EA (0+(k+1)) I=true/\∃b n c,K=.slice (some b) n c:=by simp only[Lp]at h;have c0:blt 0 dC=true:=ve (by simp[dC]);simp only[c0,zC]at h;rcases hr:EA (0+(k+1)) I with _|_;simp only[hr,zD]at h;cases h;simp only[hr,zC]at h;rcases hz:Nat.beq z.cells.toList.length (sz+1)with _|_;simp only[hz,zD]at h;cases h;simp only[hz,zC,zA,zB]at h;exact⟨rfl,_,_,_,h.1.symm⟩
       refine .inr ⟨W.2,?_⟩;have p:jU m s.nx (.slice xb (k+1) xc) cx:=by obtain p |⟨p,_⟩:=p;exact p;cases p
       have⟨aO,w₁,cv,g1,g2,g3⟩:=R p;refine⟨aO,w₁,cv,?_,g2,g3⟩;rw[T9 p]at g1 ⊢;have q2:=jF (P:=P) f (w:=w) (ty:=ty) u A D (base:=none) (n:=0) (C:=0) (cold:=#[]) (fun O H=>lK O H (k+1)<|rO m xb xc) (fun O _=>Wc _ _ _ _ _) af W.1;have Z:=jF (P:=P) f (w:=w) (ty:=ty) u A D (base:=a) (n:=0) (C:=0) (cold:=#[]) (fun O H=>lK O H (k+1)<|rO m xb xc) (fun O _=>Wc _ _ _ _ _) af W.1;rw[Z,<-q2];exact g1
    |_=>simp[u,A]at h
   |_=>simp[u,A]at h
  |_=>simp[u]at h
 have G:(jU m s.nx (CY x) cx\/CY x=.slice none 0 0/\∃b,cx=.slice b 0 0):=by
  cases x with
  |chan r=>obtain _|r:=r;exact .inl p;have:=p.at;simp[H3]at this;exact .inr ⟨rfl,_,this.symm⟩
  |_=>exact .inl p
 unfold A5 at h;cases H:EK F with
 |false=>simp[H,zD]at h;obtain p |⟨E,b,rfl⟩:=G;exact qoz f g J p h;rw[E]at h;exact src J h
 |true=>
  simp[H,zC]at h;obtain⟨r,rfl⟩:∃r,F=.chan (some r):=by
   cases F with
   |chan r=>cases r with
    |none=>simp[EK]at H|some r=>exact⟨r,rfl⟩
   |_=>simp[EK]at H
  have B:=J.at;simp[H3]at B;rcases Q:BY T s t i (.slice none 0 0) (CY x)with _|q;simp[Q]at h;have⟨K,N⟩:=q;rcases tgt (a:=some ⟨m.I5 r,m.sh r,some<|m.cp r⟩) G Q with⟨E,L,dO⟩|⟨⟨b,n,c,E⟩,R⟩;rw[Q,E]at h;simp[zA,zB]at h;obtain⟨rfl,rfl⟩:=h;exact⟨m,w,j,by rw[<-B];exact dO,bS.refl g,J⟩;rw[Q,E]at h;simp[zA,zB]at h;obtain⟨rfl,rfl⟩:=h;rw[<-B,<-E];exact R
end
variable{m:Nm}{s:S}{w:Ep}
def bS.ghost(h:gZ m s w)(b g e:Nat):bS m s w (m.set s.nx b g e) ⟨s.h,s.nx+1⟩ w:=by refine⟨Nm.K1 m _ _ _ _,MD _,fun r o=>?_,?_,fun _ _ _=>rfl,zF _,rfl,rfl,rfl⟩;have a:=h r<|(Nm.K1 m s.nx b g e).trans o (MD _);exact⟨a.ok,a.inj,fun i c p=>Ze<|a.bd i c p⟩;rintro k ⟨j,d,f,q,rfl⟩;have:=(h.fits).bd j d f;exact .inl ⟨j,d,f,q,by simp[Nm.set,show j≠s.nx by omega]⟩
variable{r:Nat}{es:X MapEntry}{cl:Nat}
def qno(h:Lv s r=some (es,cl)):lk s.h r=some (.inr (es,cl)):=by unfold Lv at h;rcases a:lk s.h r with _|b;simp[a]at h;obtain x |x:=b<;>simp[a]at h;rw[h]
def zdb{P:Ua}(c:gZ m s w){es':X MapEntry}{ces:X MapEntry}{cl':Nat}(o:Lv s r=some (es,cl))
  (i:∀b,aP s.nx m b->es'.map (BM b)=ces):
  ∃a,(setObj (m.I5 r)<|.map ces.toArray cl').run P w=.ok () a/\bS m s w m (z37 s r es' cl') a:=by have d:=qno o;have h:w.heap[m.I5 r]? = some (.map (es.map<|BM m).toArray cl):=(c.fits).ok r _ d;refine⟨{ w with heap:=w.heap.setIfInBounds (m.I5 r) (.map ces.toArray cl') },by simp[setObj,Sem.run,h],?_⟩;refine bS.write c d rfl (fun k j=>?_) aZ rfl rfl rfl (zF _) fun b e=>?_;exact Array.getElem?_setIfInBounds_ne<|WV j;have f:b.I5 r=m.I5 r:=(e r<|(c.fits).bd r _ d).1;have g:=(c.fits).size d;simp[xU,f,i b e];exact Array.getElem?_setIfInBounds_self_of_lt g
def qpc(c:gZ m s w)(i:Lv s r=some (es,cl)):∀a,aP s.nx m a->es.map (BM a)=es.map (BM m):=fun a f=>by
 have d:=qno i;have h:w.heap[m.I5 r]? = some (.map (es.map<|BM m).toArray cl):=(c.fits).ok r _ d;have b:w.heap[a.I5 r]? = some (.map (es.map<|BM a).toArray cl):=(c a f).ok r _ d;rw[(f r<|(c.fits).bd r _ d).1,h]at b;simp at b;exact X2 fun e g=>(b e g).symm
section
variable{P:Ua}{T:Tb}(d:jW P T){m:Nm}{s:S}{w:Ep}(e:gZ m s w)
include d e
def qze{t f ty:TypeId}{b x c cx v:Value}{a:S}(g:jU m s.nx b c)(i:jU m s.nx x cx)(h:Uv T s t f b x=some (v,a)):nn P m s w (Builtin.append_ #[t,f] ty #[c,cx]) v a:=by unfold Uv at h;split at h;rename_i r j;cases h;exact z0z d e g i j;cases h
def z5l{t:TypeId}{x cx v:Value}{lo A:V Value}{S1 f:V Value}{y:S}(G:jU m s.nx x cx)(C:∀i,aP s.nx m i->lo.map (H3 i)=S1)(D:∀i,aP s.nx m i->A.map (H3 i)=f)
  (h:Lt T s t x lo A=some (v,y)):nn P m s w (Instr.sliceAt t cx S1 f none) v y:=by
 unfold Lt at h;split at h;rename_i u z p F;have⟨a,c,K⟩:=p;have⟨g,I,q,J,_⟩:=qo6 d m w e.fits F;rw[C m<|aP.refl _ _,D m<|aP.refl _ _,G.at]at g;cases o:blt (u+1) z with
 |true=>simp[o]at h|false=>
  simp[o,zD,zA,zB]at h;obtain⟨rfl,rfl⟩:=h;have H:=ah o;have heq:z=u+1:=by omega
  subst heq;rw[mi]at g;have key:∀b k j,(Instr.sliceAt t cx S1 f none).run P w=.ok (.slice (some ⟨b,k,none⟩) 0 j) w->nn P m s w (Instr.sliceAt t cx S1 f none) (.slice (some ⟨s.nx,0,none⟩) 0 dC) ⟨s.h,s.nx+1⟩:=by intro b k j g;refine⟨_,w,_,g,bS.ghost e b k j,Cp (zN _) fun i E=>?_⟩;rw[Wd];have⟨_,_,B⟩:=EE m s.nx b k j;exact(E s.nx<|zN _).2.2.trans B
  by_cases q:m.cp a.block-dA c=u+1;rw[lr q]at g;exact key _ _ _ g;rw[hF q]at g;exact key _ _ _ g
 cases h
end
def CU(m:Nm)(n:Nat)(c:X Value)(a:Act):Prop:=∀b,aP n m b->a.tmps=⟨aL b c⟩
variable{m:Nm}{n:Nat}{tm:X Value}{a:Act}
def CU.ext{b:Nm}{c:Nat}(h:CU m n tm a)(d:aP n m b)(f:n<=c):CU b c tm a:=fun k e=>h k (d.trans e f)
variable{v:Value}
def CU.F8(h:CU m n tm a){x:He}(c:F8 tm x=some v):jU m n v (a.eval x):=fun d b=>(qJ (h d b) c).symm
def z8w(m:Nm)(tm:X Value)(d:Nat)(v:Value):aL m (tm.set d v)=(aL m tm).set d (H3 m v):=by simp[nE,S!]
def CU.put{m:Nm}{n:Nat}{tm:X Value}{a:Act}(h:CU m n tm a){v e:Value}(f:jU m n v e)(d:V Tmp):CU m n (E7 tm d v) (a.put d e):=fun c b=>by
 obtain _|d:=d;exact h c b;simp[Act.put,E7,h c b,z8w,f c b,qcE]
section
variable{P:Ua}{T:Tb}(d:jW P T){m:Nm}{s:S}{w:Ep}(f:gZ m s w)
include d f
def Jh(F:CU m s.nx tm a)(o:Oper){H:S}(h:CQ T tm s o.op=some (v,H)):
  ∃C g A k,(execOp a.eval o).run P w=.ok k g/\(k=.value A\/(k=.skip/\A=undef))/\bS m s w C H g/\jU C H.nx v A:=by
 obtain⟨U,op,type,pos,after,guard⟩:=o;simp only at h;have L:∀{x:Sem Value},nn P m s w x v H->∃C g A k,(do let y <-x;pure (Next.value y):Sem Next).run P w=.ok k g/\(k=.value A\/(k=.skip/\A=undef))/\bS m s w C H g/\jU C H.nx v A:=by rintro x ⟨C,g,A,I,K,W⟩;exact⟨C,g,A,_,by simp only[zK,I,zJ,zL],.inl rfl,K,W⟩
 have zr:∀{x:Sem Unit},um P m s w x H/\v=undef->∃C g A k,(do x;pure Next.skip:Sem Next).run P w=.ok k g/\(k=.value A\/(k=.skip/\A=undef))/\bS m s w C H g/\jU C H.nx v A:=by rintro x ⟨⟨C,g,I,K⟩,rfl⟩;exact⟨C,g,undef,_,by simp only[zK,I,zJ,zL],.inr ⟨rfl,rfl⟩,K,QR fun _=>by simp[undef,H3,aL]⟩
 unfold CQ at h;cases op with
 |alloc e=>simp only at h;rcases M:T.inf e with _|x;simp[M]at h;obtain⟨x1,x2,z⟩:=x;simp only[M,zA,zB]at h;obtain⟨rfl,rfl⟩:=h;have R:=(QF d m w M).1;have Q:=ak d M;simp only at R Q;refine L ⟨_,_,.pointer<|some ⟨w.heap.size,0,none⟩,?_,ee f (qpo Q) e 0,qys _ _ _ _<|zN _⟩;simp[Instr.alloc,R,newVar,Go.newRow]
 |box e x=>simp only at h;rcases j:F8 tm x with _|u;simp[j]at h;simp only[j,zA,zB]at h;obtain⟨rfl,rfl⟩:=h;refine L ⟨_,_,.pointer<|some ⟨w.heap.size,0,none⟩,?_,ee f (F.F8 j).cells e 0,qys _ _ _ _<|zN _⟩;simp[Instr.box,newVar,Go.newRow]
 |store t p x=>simp only at h;rcases D:F8 tm p with _|u;simp[D]at h;rcases j:F8 tm x with _|u';simp[D,j]at h;simp only[D,j]at h;exact zr (z95 d f (F.F8 D) (F.F8 j) h)
 |buildSlice t n N=>
  simp only at h;rcases D:JF tm N.toList with _|qs;simp[D]at h;simp only[D]at h;have B:(N.map fun(i,x)=>(i,a.eval x))=(N.toList.map fun p=>(p.1,a.eval p.2)).toArray:=by cases N;simp
  have:=qvd d f (cps:=N.toList.map fun p=>(p.1,a.eval p.2)) (fun G E=>(qq8 (F G E) D).symm) h;simp only[execOp];rw[B];exact L this
 |makeSlice t l c=>simp only at h;rcases D:F8 tm l with _|u;simp[D]at h;rcases j:F8 tm c with _|u';simp[D,j]at h;simp only[D,j]at h;exact L (zcd d f (F.F8 D) (F.F8 j) h)
 |makeMap t r=>cases r with|some r=>simp at h|none=>simp only[zA,zB]at h;obtain⟨rfl,rfl⟩:=h;refine L ⟨_,_,.map<|some w.heap.size,?_,bS.alloc f (.map #[] 0) (.inr ([],0)) 0 ?_,fun G E=>?_⟩;simp[Instr.makeMap];intro G E;have B:=(E s.nx<|zN _).1;simp only[xU,B,(EE m s.nx w.heap.size 0 0).1];show(w.heap.push _)[w.heap.size]? = _;simp;have B:=(E s.nx<|zN _).1;simp only[H3,B,(EE m s.nx w.heap.size 0 0).1]
 |slice t x lo M Y=>
  cases Y with|some _=>simp at h|none=>
  simp only at h;rcases j:F8 tm x with _|u;simp[j]at h;rcases I:xT tm lo with _|l;simp[j,I]at h;rcases K:xT tm M with _|hh;simp[j,I,K]at h;simp only[j,I,K]at h;exact L (z5l d f (F.F8 j) (fun G E=>(Ng (F G E) I).symm) (fun G E=>(Ng (F G E) K).symm) h)
 |call c=>
  obtain⟨callee,args,J⟩:=c;simp only at h;cases callee with
  |builtin b=>
   cases b with
   |append=>
    simp only at h;rcases j:qI tm args.toList with _|vs;simp[j]at h;obtain _ |⟨x,_ |⟨y,_ |⟨z,l⟩⟩⟩:=vs;simp[j]at h;simp[j]at h;obtain⟨J⟩:=J;obtain _ |⟨t,_ |⟨xt,_ |⟨q,r⟩⟩⟩:=J;simp[j]at h;simp[j]at h;simp only[j]at h;have O:=O4 (F m<|aP.refl _ _) j;simp only[aL]at O;have Z:jU m s.nx x (H3 m x):=fun G E=>by have B:=O4 (F G E) j;rw[O]at B;simp only[aL]at B;simp at B;exact B.1.symm
    have r2:jU m s.nx y (H3 m y):=fun G E=>by have B:=O4 (F G E) j;rw[O]at B;simp only[aL]at B;simp at B;exact B.2.symm
    obtain⟨C,g,A,g1,g2,V⟩:=qze d f (ty:=type) Z r2 h;refine⟨C,g,A,.value A,?_,.inl rfl,g2,V⟩;simp only[execOp,zK,resolve,zL,zJ,invoke,builtin,O];rw[g1];rfl;simp[j]at h;simp[j]at h
   |_=>simp at h
  |_=>simp at h
 |_=>simp at h
end
def Mh(P:Ua)(call:HN):Prop :=
 ∀f args s v d,call f args s=some (v,d)->∀m w b,gZ m s w->oU m s.nx args b->
  Calls P f b.toArray w fun e c=>∃g h,e=.returned h/\bS m s w g d c/\jU g d.nx v h
section
variable{P:Ua}{T:Tb}(i:jW P T){call:HN}(l:Mh P call)
include i
def qsj(j:CU m n tm a)(o:Oper)(w:Ep){f:FuncId}{args:X Value}(h:di T tm o.op=some (f,args)):
  ∃b,(execOp a.eval o).run P w=.ok (.enter f b.toArray) w/\oU m n args b:=by
 obtain⟨G,op,type,pos,after,guard⟩:=o;simp only at h;unfold di at h;cases op with
 |call c=>
  obtain⟨callee,E,F⟩:=c;simp only at h;cases callee with
  |value g=>
   simp only at h;rcases d:F8 tm g with _|u;simp[d]at h;cases u with
   |func fn first cap=>
    cases fn with
    |func k=>
     simp only[d]at h;rcases y:T.fn k with _|fn;simp[y]at h;simp only[y]at h;rcases x:fn.body.isSome with _|_;simp[x]at h;simp only[x,zC]at h;rcases p:qI tm E.toList with _|vs;simp[p]at h;simp only[p,zA,zB]at h;obtain⟨rfl,rfl⟩:=h;obtain⟨D,I⟩:=i.fn k fn y;obtain⟨first⟩:=first
     obtain⟨cap⟩:=cap;have t:=qJ (j m<|aP.refl _ _) d;have A:=O4 (j m<|aP.refl _ _) p;refine⟨aL m first++aL m vs++aL m cap,?_,fun C B=>?_⟩;have z:fn.body.isNone=false:=by cases H:fn.body<;>simp_all
     simp only[H3,nB]at t;simp only[execOp,zK,resolve,t,A,Deferred.ofValue,zL,zJ,invoke,callFunc,run_program,D,I x,z,gj,MF];simp;have e:=qJ (j C B) d;have q:=O4 (j C B) p;rw[t]at e;rw[A]at q;simp only[H3,nB]at e;simp at e q;rw[JS,JS,e.1,e.2,q]
    |_=>simp[d]at h
   |_=>simp[d]at h
  |_=>simp at h
 |_=>simp at h
include l
def W5{s:S}{w:Ep}(x:gZ m s w)(C:CU m s.nx tm a)(o:Oper){z:S}(h:C1 T call tm s o.op=some (v,z))
  {next:Act->Ep->Prop} {Q:Exit->Act->Ep->Prop} (y:∀g b t,bS m s w g z b->jU g z.nx v t->next (a.put o.dst t) b):o.wp P a w next Q:=by
 unfold C1 at h;unfold Oper.wp;cases D:kP T tm o.op with
 |some u=>simp[D,zA,zB]at h;obtain⟨rfl,rfl⟩:=h;have k:=fun c d=>zcv i c w (C c d) o D;rw[k m<|aP.refl _ _];refine y m w _ (bS.refl x) fun c d=>?_;have p:=k c d;rw[k m<|aP.refl _ _]at p;simp at p;exact p.symm
 |none=>
  simp only[D]at h;cases E:xS T tm s o.op with
  |some u=>simp only[E,zA,zB]at h;obtain⟨rfl,rfl⟩:=h;have k:=fun c d=>qw3 i c w (x c d) (C c d) o E;rw[k m<|aP.refl _ _];refine y m w _ (bS.refl x) fun c d=>?_;have p:=k c d;rw[k m<|aP.refl _ _]at p;simp at p;exact p.symm
  |none=>
   simp only[E]at h;cases F:CQ T tm s o.op with
   |some r=>simp only[F,zA]at h;subst h;obtain⟨g,b,t,H,g1,g2,A,B⟩:=Jh i x C o F;rw[g1];obtain rfl |⟨rfl,rfl⟩:=g2;exact y g b t A B;exact y g b undef A B
   |none=>simp only[F]at h;rcases G:di T tm o.op with _|q;simp[G]at h;obtain⟨f,args⟩:=q;simp only[G]at h;have⟨j,g1,g2⟩:=qsj i C o w G;rw[g1];show Calls P f _ w _;refine(l f args s v z h m w j x g2).mono ?_;rintro e b ⟨g,t,rfl,A,B⟩;exact y g b t A B
omit l i in
def qoe{m:Nm}{tm:X Value}{a:Act}(h:a.tmps=⟨aL m tm⟩)(e:Jg Oper)(o:Oper):Region.wanted o (yielded e a.tmps)=Un e.toList tm o:=by
 unfold Region.wanted Un;obtain _|g:=o.guard;rfl;have⟨j,f⟩:=g;simp only[yielded,CZ,lW,h];have k:e.toList[j]? = e[j]?:=by simp
 rw[k];obtain _|q:=e[j]?;simp;simp[qcp];rcases t:q.dst with _|d;simp;simp[qcp,xi,nE,me];obtain _|v:=tm[d]?;simp;simp[zM];cases v with
 |pointer p=>cases p<;>simp[H3]|slice p n c=>cases p<;>simp[H3]
 |map r=>cases r<;>simp[H3]|chan r=>cases r<;>simp[H3]
 |bool b=>simp[H3]|_=>simp[H3]
end
def O6{b c:FK}(h:cond b c false=true):b=true/\c=true:=by cases b<;>simp_all
def z01{l:X He}{t:Tmp}(h : .tmp t∈l):t∈tmpsOf l:=by induction l with|nil=>simp at h|cons x l b=>obtain rfl |h2:=zI.1 h;simp[tmpsOf];cases x<;>simp[tmpsOf,b h2]
section
variable{T:Tb}{tm tm':X Value}{op:Op}
end
variable{k:Nat}
def z3a{c:X Nat}{es:X Edge}(h:(Q0 c es).testBit k=true):∃e∈es,Region.binds .any e=true/\(k=e.on\/∃x,c[e.on]? = some x/\x.testBit k=true):=by
 induction es with
 |nil=>simp[Q0]at h|cons e es j=>
  simp[Q0,lW]at h;cases b:Region.binds .any e with
  |false=>simp[b,zD]at h;have⟨d,f,g⟩:=j h;exact⟨d,by simp[f],g⟩
  |true=>simp[b,zC,testBit_or,nH]at h;rcases h with(h |h)|h;refine⟨e,by simp,b,.inl ?_⟩;rw[testBit_two_pow]at h;simpa using(K! h).symm;refine⟨e,by simp,b,.inr ?_⟩;rcases i:c[e.on]? with _|x;simp[i]at h;simp[i]at h;exact⟨x,rfl,h⟩;have⟨d,f,g⟩:=j h;exact⟨d,by simp[f],g⟩
def qnh:∀(l:X Oper)(b:X Nat),(eH l b).length=b.length+l.length/\(eH l b).take b.length=b/\
  ∀i o,l[i]? = some o->(eH l b)[b.length+i]? = some (Q0 ((eH l b).take (b.length+i)) o.after.toList)
 |[],b=>by simp[eH]
 |o::l,b=>by
  obtain⟨f,d,g⟩:=qnh l<|b++[Q0 b o.after.toList];simp[eH];refine⟨by rw[f];simp;omega,?_,fun i q c=>?_⟩;have:=congrArg (List.take b.length) d;rw[qcD]at this;simpa using this;cases i with
  |zero=>
   simp[SC,zA]at c;subst c;have e:(eH l<|b++[Q0 b o.after.toList]).take b.length=b:=by have:=congrArg (List.take b.length) d;rw[qcD]at this;simpa using this
   rw[eT,e];have:=congrArg (fun z=>z[b.length]?) d;simp[jz]at this;simpa using this
  |succ i=>simp[zH]at c;have:=g i q c;simp[zU,zO,zS]at this;rw[show b.length+(i+1)=b.length+(0+1)+i by omega];exact this
section
variable(a:X Oper)
def fS(i k:Nat):Prop:=∃x,(eH a [])[i]? = some x/\x.testBit k=true
variable{i:Nat}
def qvu(h:fS a i k):∃o e,a[i]? = some o/\e∈o.after.toList/\Region.binds .any e=true/\(k=e.on\/fS a e.on k):=by
 have⟨x,f,g⟩:=h;have⟨g1,_,p⟩:=qnh a [];have u:i<a.length:=by have:=(zG.1 f).1;simp at g1;omega
 have j:a[i]? = some a[i]:=by simp[u]
 have:=p i _ j;simp[zS,Ty]at this;rw[f]at this;simp[zA]at this;rw[this]at g;have⟨e,t,q,c⟩:=z3a g;refine⟨_,e,j,t,q,?_⟩;obtain c |⟨y,b,d⟩:=c;exact .inl c;refine .inr ⟨y,?_,d⟩;rw[jz]at b;split at b;exact b;cases b
def z8c{es:X Edge}(h:G5 i es=true):∀e∈es,Region.binds .any e=true->e.on<i:=by
 induction es with
 |nil=>simp|cons e es g=>
  simp only[G5]at h;intro f b c;cases d:Region.binds .any e with
  |false=>simp only[d,zD]at h;obtain rfl |b:=zI.1 b;rw[d]at c;cases c;exact g h f b c
  |true=>simp only[d,zC]at h;have⟨j,o⟩:=O6 h;obtain rfl |b:=zI.1 b;exact Cj j;exact g o f b c
def qub{lk:X Tmp}{e:V Tmp}{i f:Nat}:∀(l:X Oper)(d:X Nat)(b:Nat),eQ lk e i f l d b=true->∀j o,l[j]? = some o->∃mk,d[j]? = some mk/\S? lk e i f (b+j) mk o.dst=true
 |[],_,_,_=>fun j o h=>by simp at h
 |o::l,[],b,h=>by simp[eQ]at h
 |o::l,mk::d,b,h=>fun j q c=>by
  simp only[eQ]at h;have⟨g,p⟩:=O6 h;cases j with
  |zero=>simp at c;subst c;exact⟨mk,rfl,g⟩|succ j=>simp[zH]at c;have⟨mk',g1,g2⟩:=qub l d (b+1) p j q c;exact⟨mk',by simpa using g1,by rw[show b+(j+1)=b+1+j by omega];exact g2⟩
def qmj{p:X Nat}:∀(l:X Oper)(e:X Nat)(b:Nat),Rs a p l e b=true->∀j o,l[j]? = some o->∃d,e[j]? = some d/\G5 (b+j) o.after.toList=true/\eQ (Q3 a o) o.dst (b+j) d a p 0=true
 |[],_,_,_=>fun j o h=>by simp at h
 |o::l,[],b,h=>by simp[Rs]at h
 |o::l,d::e,b,h=>fun j q c=>by
  simp only[Rs]at h;have⟨u,f⟩:=O6 h;have⟨f,x⟩:=O6 f;cases j with
  |zero=>simp at c;subst c;exact⟨d,rfl,u,f⟩|succ j=>simp[zH]at c;have⟨g,g1,g2,t⟩:=qmj l e (b+1) x j q c;refine⟨g,by simpa using g1,?_,?_⟩;rw[show b+(j+1)=b+1+j by omega];exact g2;rw[show b+(j+1)=b+1+j by omega];exact t
variable{a}(b:Co a=true)
include b
def B?{o:Oper}(d:a[i]? = some o):∀e∈o.after.toList,Region.binds .any e=true->e.on<i:=by have⟨_,_,c,_⟩:=qmj a a _ 0 b i o d;rw[Ty]at c;exact z8c c
def z5s{o q:Oper}(D:a[i]? = some o)(E:a[k]? = some q)(t:i≠k){d:Tmp}(B:q.dst=some d):o.dst≠some d/\(d∈Q3 a o->fS a i k\/fS a k i):=by
 have⟨j,y,_,z⟩:=qmj a a _ 0 b i o D;have⟨mk,A,c⟩:=qub a _ 0 z k q E;simp only[Ty,S?,B,beq_eq,t,yB,zD]at c;have tail:(cond ((Q3 a o).any (Nat.beq d)) (cond (j.testBit k) true<|mk.testBit i) true=true)->d∈Q3 a o->fS a i k\/fS a k i:=fun h C=>by have f:(Q3 a o).any (Nat.beq d)=true:=any_eq_true.2 ⟨d,C,by simp⟩;rw[f]at h;simp only[zC]at h;rcases p:j.testBit k with _|_;simp only[p,zD]at h;exact .inr ⟨mk,A,h⟩;exact .inl ⟨j,y,p⟩
 cases g:o.dst with|none=>simp only[g,zD]at c;exact⟨by simp,tail c⟩|some u=>simp only[g]at c;by_cases e:d=u;simp[e]at c;simp only[e,yB,zD]at c;exact⟨by simpa using fun x=>e x.symm,tail c⟩
def zaw:∀(i k:Nat),fS a i k->k<i:=by
 intro i;induction i using Nat.strongRecOn with
 |_ i p=>intro k h;have⟨o,e,f,g,j,d⟩:=qvu a h;have c:=B? b f e g j;obtain rfl |d:=d;exact c;exact qcV (p e.on c k d) c
def eA(a:X Oper)(L:Nat->Prop):Prop:=∀i o,L i->a[i]? = some o->∀e∈o.after.toList,Region.binds .any e=true->L e.on
def qkf{L:Nat->Prop}(q:eA a L):∀(i k:Nat),L i->fS a i k->L k:=by
 intro i;induction i using Nat.strongRecOn with
 |_ i u=>intro k t h;have⟨o,e,d,f,g,c⟩:=qvu a h;have p:=B? b d e f g;have j:=q i o t d e f g;obtain rfl |c:=c;exact j;exact u e.on p k j c
def V'{L:Nat->Prop}(p:eA a L)(q:∀o,a[i]? = some o->∀e∈o.after.toList,Region.binds .any e=true->L e.on)(h:fS a i k):L k:=by have⟨o,e,f,g,j,c⟩:=qvu a h;have d:=q o f e g j;obtain rfl |c:=c;exact d;exact qkf b p e.on k d c
end
section
variable{P:Ua}{T:Tb}(a:jW P T){call:HN}(b:Mh P call)(c:Jg Oper){tm₀:X Value}{d:S}{rs:X Rec}{tm':X Value}{s':S}
 (kA:zbd T call c.toList c.toList tm₀ d=some (rs,tm',s')) (dJ:Co c.toList=true) (hrs:zb5 T rs (eH c.toList []) rs (eH c.toList []) 0=true)
include kA dJ
include a b hrs
end
section
variable{P:Ua}{T:Tb}(a:jW P T){call:HN}(b:Mh P call)
include a b
end
def Ee(n:Nat)(l:X Value):pad n l=l++replicate (n-l.length) undef:=by induction n generalizing l with|zero=>simp[pad]|succ n b=>obtain _|⟨v,l⟩:=l;simp[pad,b,Gi];simp[pad,b]
section
variable{P:Ua}{T:Tb}(b:jW P T)
include b
def P?{m:Nm}{s:S}{w:Ep}(z:Fits m s w){tm:X Value}(F:ResultVar->Sem Value)(f:∀t,F (.tmp t)=pure ((⟨aL m tm⟩:Jg Value).getD t undef))
  (g:∀a t,F (.cell a t)=(do loadVar t (<-asAddr ((⟨aL m tm⟩:Jg Value).getD a undef)))):∀(d:X ResultVar)(j:X Value),H4 T tm s d=some j->(d.mapM F).run P w=.ok (aL m j) w
 |[],j,h=>by simp[H4]at h;subst h;simp[aL]
 |.tmp t::d,j,h=>by
  simp[H4,lW]at h;rcases c:tm[t]? with _|v;simp[c]at h;simp[c]at h;rcases E:H4 T tm s d with _|l;simp[E]at h;simp[E,zA]at h;subst h;have A:=P? z F f g d l E;have y:(⟨aL m tm⟩:Jg Value).getD t undef=H3 m v:=by simp[nE,c]
  simp[IS,zK,f,zL,zJ,A,y,aL]
 |.cell a t::d,j,h=>by
  simp[H4]at h;rcases c:xS T tm s (.load t<|.tmp a)with _|v;simp[c]at h;simp[c]at h;rcases E:H4 T tm s d with _|l;simp[E]at h;simp[E,zA]at h;subst h;have A:=P? z F f g d l E;simp[xS,F8]at c;rcases i:nth tm a with _|u;simp[i]at c;cases u with
  |pointer p=>
   obtain _|q:=p;simp[i]at c;simp[i]at c;rcases o:lk s.h q.block with _|I5;simp[o]at c;obtain⟨C,e,D⟩|x:=I5;simp[o]at c;have B:=z34 b m w z o c;rw[lW]at i;have y:(⟨aL m tm⟩:Jg Value).getD a undef=.pointer (some ⟨m.I5 q.block,m.sh q.block+q.off,none⟩):=by simp[nE,i,H3]
   simp[IS,zK,g,y,asAddr,zL,zJ,B,A,aL];simp[o]at c
  |_=>simp[i]at c
def z0b{m:Nm}{s:S}{w:Ep}(d:Fits m s w){tm:X Value}{fn:Func}{c:X Value}(h:H4 T tm s fn.results.toList=some c):
  (results fn ⟨aL m tm⟩).run P w=.ok (H3 m<|H8 c) w:=by unfold results;rw[zK,qcM,Sem.run_map,P? b d _ (fun t=>rfl) (fun a t=>rfl) fn.results.toList c h];simp[zJ,zL];congr 1;obtain _ |⟨v,_ |⟨u,l⟩⟩:=c;simp[aL,H8,H3];simp[aL,H8];simp[aL,H8,H3]
end
def qva(P:Ua)(t:TypeId):P.info? t=P.types[t]? \/P.types[t]? = none:=by by_cases h:t<P.types.size;exact .inl (by unfold Tables.info?;rw[lr h]);exact .inr (Ew<|ya h)
def zdj (P : Ua) (eqs : X TypeId) (hm : P.follows .mixedOrders = true) (hn : ∀ f ∈ P.funcs.toList, f.body.isSome = true → (f.name == "runtime.NumGoroutine") = false)
  (he:∀t∈eqs,P.stoodInHeld t=false/\P.eqGuardType P.depth t=false):jW P (FJ P eqs) where
 I1 t d h:=by
  simp only[FJ,lW]at h;rcases ht:P.types.toList[t]? with _|i;simp[ht]at h;have hi:P.info? t=some i:=by
   have DI:P.types[t]? = some i:=by simpa using ht
   obtain h1 |h1:=qva P t;rw[h1,DI];rw[h1]at DI;cases DI
  simp only[ht]at h;unfold Program.underlying;rw[hi];obtain⟨desc,s1,s2,s3,s4,s5,s6,s7,s8,s9⟩:=i;cases desc with
  |named nm u=>
   simp only at h ⊢;rcases hu:P.types.toList[u]? with _|j;simp[hu]at h;have hj:P.info? u=some j:=by
    have I2:P.types[u]? = some j:=by simpa using hu
    obtain h1 |h1:=qva P u;rw[h1,I2];rw[h1]at I2;cases I2
   simp[hu,zA]at h;rw[hj];simp[h]
  |_=>simpa using h
 inf t a b z h:=by
  simp only[FJ,lW]at h;rcases ht:P.types.toList[t]? with _|i;simp[ht]at h;have hi:P.info? t=some i:=by
   have DI:P.types[t]? = some i:=by simpa using ht
   obtain h1 |h1:=qva P t;rw[h1,DI];rw[h1]at DI;cases DI
  simp[ht]at h;rcases hz:i.zero with _|z';simp[hz]at h;simp[hz]at h;rcases hp:plain z' with _|_;simp[hp]at h;simp[hp,zC,zA,zB]at h;obtain⟨rfl,rfl,rfl⟩:=h;exact⟨hp,i,hi,rfl,rfl,hz⟩
 fn f g h:=by
  simp only[FJ,lW]at h;have h':P.funcs[f]? = some g:=by simpa using h
  exact⟨h',hn g (zX h)⟩
 eqs t h:=by
  simp only[FJ]at h;have⟨u,hu,e⟩:=any_eq_true.1 h;have:t=u:=by simpa[beq_eq]using e
  subst this;exact he t hu
 mixed:=hm
end Go.Rx
