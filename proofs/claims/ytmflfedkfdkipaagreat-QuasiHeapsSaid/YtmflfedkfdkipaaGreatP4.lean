import Derived.Laws.Append
import Derived.Test.YtmflfedkfdkipaaGreatP3
set_option linter.all false
open List Go.IntKind
open Nat hiding beq_eq
namespace Go.Rx
open Go
def ng(P:Ib)(m:Nm)(s:S)(w:Jb)(x:Sem I)(v:I)(c:S):Prop :=
 ∃b a d,x.run P w=.ok d a/\bJ m s w b c a/\iC b c.nx v d
def Js(P:Ib)(m:Nm)(s:S)(w:Jb)(x:Sem Unit)(c:S):Prop :=
 ∃b a,x.run P w=.ok () a/\bJ m s w b c a
def iC.cells{m:Nm}{n:Nat}{v a:I}(h:iC m n v a):nB m n v.cells.toList a.cells.toList:=fun c b=>by
 rw[<-h c b,bc,mB]
variable{m:Nm}{n:Nat}{l:X I}
def qok(h:∀a,aF a l=l):nB m n l l:=fun a _=>h a
variable{v:I}
def PT(h:∀a,G0 a v=v):iC m n v v:=fun a _=>h a
def nB.append{a b c d:X I}(h:nB m n a c)(g:nB m n b d):nB m n (a++b) (c++d):=fun f e=>by
 rw[y8,h f e,g f e]
def DN(m:Nm)(i b c a:Nat):(m.set i b c a).I4 i=b/\(m.set i b c a).sh i=c/\(m.set i b c a).cp i=a:=by simp[Nm.set]
variable{s:S}
def qx1(b a c n:Nat)(i:s.nx<n):iC (m.set s.nx b a c) n (.pointer<|some ⟨s.nx,0,none⟩) (.pointer<|some ⟨b,a,none⟩):=fun j h=>by
 obtain⟨f,g,_⟩:=h s.nx i;obtain⟨d,e,_⟩:=DN m s.nx b a c;simp[G0,f,g,d,e]
variable{w:Jb}
def sn(j:fW m s w){b:X I}(k:nB m s.nx l b)(e:TypeId)(a:Nat):
  bJ m s w (m.set s.nx w.heap.size 0 a) (newRow s l e 0) (w.alloc<|.cells ⟨b⟩ e):=by refine bJ.alloc j _ _ a fun d c=>?_;have o:aJ s.nx m d:=(Nm.K2 m s.nx w.heap.size 0 a).trans c (Wt _);obtain⟨h,i,_⟩:=c s.nx<|zN _;obtain⟨f,g,_⟩:=DN m s.nx w.heap.size 0 a;refine⟨by rw[i,g],?_⟩;rw[h,f,k d o];show(w.heap.push _)[w.heap.size]? = _;simp
def Ze(q:fW m s w){b rest:X I}(r:nB m s.nx l b)(e:TypeId)(a f:Nat)(g:l.length+rest.length=a*f):
  bJ m s w (m.set s.nx w.heap.size 0 a) (newRow s l e<|f+2) (w.alloc<|.cells ⟨b++rest⟩ e):=by refine bJ.alloc q _ _ a fun d c=>?_;have t:aJ s.nx m d:=(Nm.K2 m s.nx w.heap.size 0 a).trans c (Wt _);obtain⟨k,o,p⟩:=c s.nx<|zN _;obtain⟨h,i,j⟩:=DN m s.nx w.heap.size 0 a;refine⟨[],rest,?_,by simp[o,i],by rw[p,j,g]⟩;rw[k,h,r d t];show(w.heap.push _)[w.heap.size]? = _;simp
def qmg{e:TypeId}{a:Nat}(h:a≠1):iK (.inl (l,e,a))=true:=by obtain _ |_ |n:=a<;>simp_all[iK]
def z3r{P:Ib}(o:fW m s w){i off:Nat}{U q d:X I}{e:TypeId}{J:Nat}(hr:eQ s i=some (l,e,J))(hp:AQ l off q=some U)
  (E:nB m s.nx q d) (h1:xD q=true):
  ∃g,(storeCells ⟨m.I4 i,m.sh i+off,none⟩ d 0).run P w=.ok () g/\bJ m s w m ⟨up s.h i<|.inl (U,e,J),s.nx⟩ g:=by
 obtain⟨p,K⟩:=WH hr;obtain⟨aP,L⟩:=qsg hp;have V:∀v∈d,v.oneCell'=true:=by rw[<-E.at];exact qnr h1
 have T:d.length=q.length:=by rw[<-E.at];simp
 obtain _ |_ |n:=J;have y:∀a,aJ s.nx m a->a.sh i=0/\w.heap[a.I4 i]? = some (.cells (aF a l).toArray e (0,0)):=fun a c=>(o a c).ok i _ p
 obtain⟨G,j⟩:=y m<|aJ.refl _ _;have t:=run_storeCells_at P (m.I4 i) off e d 0 _ w j (by simp;omega) V;simp only[ek]at t;rw[G,Wy];refine⟨_,t,bJ.write o p (qmg K) (fun k F=>setRow_other w _ k _ F) ca rfl rfl rfl (zF _) fun a c=>?_⟩;obtain⟨A,r⟩:=y a c;have C:a.I4 i=m.I4 i:=(c i<|(o.fits).bd i _ p).1;refine⟨A,?_⟩;rw[C,setRow_heap w _ _ _ e (0,0) j];rw[C]at r;have M:aF a l=aF m l:=by have:=j.symm.trans r;simp at this;exact this.symm
 rw[L,y8,y8,E a c];have u:aF a (l.take off)=(aF m l).take off:=by rw[<-M];simp[lM,zp]
 have x:aF a (l.drop<|off+q.length)=(aF m l).drop (off+d.length):=by rw[<-M,T];simp[lM,zy]
 rw[u,x];exact absurd rfl K;have y:∀a,aJ s.nx m a->∃f b,w.heap[a.I4 i]? = some (.cells (f++aF a l++b).toArray e (0,0))/\f.length=a.sh i/\l.length+b.length=a.cp i*n:=fun a c=>(o a c).ok i _ p;obtain⟨f,b,j,H,W⟩:=y m<|aJ.refl _ _;have t:=run_storeCells_at P (m.I4 i) (m.sh i+off) e d 0 _ w j (by simp;omega) V;simp only[ek]at t;refine⟨_,t,bJ.write o p (qmg K) (fun k F=>setRow_other w _ k _ F) ca rfl rfl rfl (zF _) fun a c=>?_⟩;obtain⟨B,N,r,z,D⟩:=y a c;obtain⟨C,O,ru⟩:=c i<|(o.fits).bd i _ p;rw[C]at r;have R:B++aF a l++N=f++aF m l++b:=by have:=j.symm.trans r;simp at this;simpa using this.symm
 have Q:B=f/\aF a l=aF m l/\N=b:=by rw[zT,zT]at R;obtain⟨u,x⟩:=append_inj R (by rw[z,H,O]);obtain⟨Y,Z⟩:=append_inj x ca;exact⟨u,Y,Z⟩
 refine⟨f,b,?_,by rw[O,H],?_⟩;rw[C,setRow_heap w _ _ _ e (0,0) j];rw[L,y8,y8,E a c];have u:aF a (l.take off)=(aF m l).take off:=by rw[<-Q.2.1];simp[lM,zp]
 have x:aF a (l.drop<|off+q.length)=(aF m l).drop (off+d.length):=by rw[<-Q.2.1,T];simp[lM,zy]
 rw[u,x];congr 2;simp only[zT];rw[<-H,take_append,zW ag,nv,ya (by simp;omega)];rw[qcy,Gt ag,eY,show f.length+off+d.length-f.length=off+d.length by omega,zi (by simp;omega)];simp;rw[ru,<-W,L];simp;omega
section
variable{P:Ib}{T:Tb}(f:j0 P T){m:Nm}{s:S}{w:Jb}(g:fW m s w)
include f g
def z7a{t:TypeId}{p d c u:I}{y:S}(E:iC m s.nx p d)(z:iC m s.nx v c)(h:Kx T s t p v=some (u,y)):
  Js P m s w (Instr.storeAt t d c) y/\u=undef:=by
 unfold Kx at h;cases p with
 |pointer q=>
  obtain _|a:=q;simp at h;simp only[beq_eq]at h;rcases x:cC T t with _|n;simp[x]at h;simp only[x]at h;by_cases j:v.cells.toList.length=n;simp only[j,yC,zC]at h;rcases i:xD v.cells.toList with _|_;simp[i]at h;simp only[i,zC]at h;rcases o:eQ s a.block with _|r;simp[o]at h;obtain⟨l,e,F⟩:=r;simp only[o]at h;rcases k:AQ l a.off v.cells.toList with _|l';simp[k]at h;simp only[k,zA,zB]at h;obtain⟨rfl,rfl⟩:=h;refine⟨?_,rfl⟩;obtain⟨b,C,B⟩:=z3r (P:=P) g o k z.cells i;refine⟨m,b,?_,B⟩;have A:d=.pointer (some ⟨m.I4 a.block,m.sh a.block+a.off,none⟩):=by rw[<-E.at];simp[G0]
  have D:c.cells.size=n:=by
   have:c.cells.toList.length=n:=by rw[<-z.cells.at];simpa using j
   simpa using this
  subst A;simp[Instr.storeAt,Instr.sureAddr,storeVar,qS f w x,D,C];simp only[j,yB,zD]at h;cases h
 |_=>simp at h
omit f g in
def qqq(z:Ie I)(n:Nat):(Array.range (n*z.size)).map (fun i=>z[i%z.size]!)=⟨cY z.toList n⟩:=by
 apply qW;simp only[Array.toList_map,Array.toList_range];obtain c |jY:=Fz z.size;have d:z= #[]:=by simpa using c
 subst d;induction n with
 |zero=>simp[cY]|succ n a=>simp[cY]at a ⊢;exact a
 induction n with
 |zero=>simp[cY]|succ n a=>
  have e:(n+1)*z.size=z.size+n*z.size:=by rw[dR];omega
  rw[e,range_add,LY,cY,<-a];congr 1;apply me;intro i;by_cases b:i<z.size;simp[b,vg b];simp[b];rw[dT];apply Wu;intro i _;simp
omit f g in
def qn4(z:X I)(n:Nat):(cY z n).length=n*z.length:=by induction n with|zero=>simp[cY]|succ n a=>simp[cY,a,dR];omega
omit f g in
def Ri{z:X I}(h:∀a,aF a z=z)(n:Nat)(a:Nm):aF a (cY z n)=cY z n:=by induction n with|zero=>simp[cY,aF]|succ n b=>simp[cY,y8,b,h]
omit g in
def bg{t:TypeId}{x:Nat×Nat×I}(h:T.inf t=some x)(a:Nm):aF a x.2.2.cells.toList=x.2.2.cells.toList:=by have:=(NE f a default h).2;rw[<-mB,<-bc,this]
omit f g in
def Br{b d e n len c h:Nat}(r:s.nx<n)(q:∀a,aJ n (m.set s.nx b d e) a->cM a s.nx c=h):
  iC (m.set s.nx b d e) n (.slice (some ⟨s.nx,0,none⟩) len c) (.slice (some ⟨b,d,none⟩) len h):=fun a i=>by
 obtain⟨o,p,_⟩:=i s.nx r;obtain⟨j,k,_⟩:=DN m s.nx b d e;simp[G0,o,p,j,k,q a i]
def qtx{t:TypeId}{A:X (Nat×I)}{H:S}{cps:X (Nat×I)}(Q:∀b,aJ s.nx m b->A.map (fun p=>(p.1,G0 b p.2))=cps)
  (h:Tt T s t n A=some (v,H)):ng P m s w (Instr.buildSlice t n cps.toArray) v H:=by
 unfold Tt at h;rcases o:T.G4 t with _|d;simp[o]at h;cases d with
 |slice e=>
  simp only[o]at h;rcases q:T.inf e with _|x;simp[q]at h;obtain⟨a,U,z⟩:=x;have K:cC T e=some a:=by simp[cC,q]
  have N:=fun b=>NE f b w q;have G:=bg f q;simp only at N G;simp only[q,beq_eq]at h;rcases B:ble (n*a) 16777216 with _|_
  simp[B]at h;simp only[B,zC]at h;have W:n*a<=16777216:=by simpa[wm]using B
  by_cases u:z.cells.toList.length=a;simp only[u,yC,zC]at h;rcases y:F1 (fun i=>some (i*a,a)) (cY z.cells.toList n) A with _|cs;simp[y]at h;rcases C:blt n cP with _|_;simp[y,C]at h;have D:n<cP:=by simpa[tp]using C
  simp only[y,C,zC,zA,zB]at h;obtain⟨rfl,rfl⟩:=h;have F:∀b,aJ s.nx m b->Instr.fill (fun i=>some (i*a,a)) ⟨cY z.cells.toList n⟩ cps=some ⟨aF b cs⟩:=fun b E=>by have:=Sx b _ A _ _ y;rw[Q b E,Ri G]at this;exact this
  obtain⟨J,M⟩:∃J,nB m s.nx cs J:=⟨aF m cs,fun b E=>by have V:=F b E;have L:=F m<|aJ.refl _ _;rw[V]at L;simpa using L⟩;have O:z.cells.size=a:=by simpa using u
  refine⟨_,_,.slice (some ⟨w.heap.size,0,none⟩) n n,?_,sn g M e 0,?_⟩;have r:(Array.range<|n*a).map (fun i=>(if n*a=0 then(#[]:Ie I)else z.cells)[i%(if n*a=0 then(#[]:Ie I)else z.cells).size]!)=⟨cY z.cells.toList n⟩:=by
   by_cases c:n*a=0;rw[c];apply qW;have:(cY z.cells.toList n).length=0:=by rw[qn4,u,c]
   simp[length_eq_zero_iff.1 this];simp only[iy c];have:=qqq z.cells n;rw[O]at this;rw[<-this];simp[O]
  have k:=F m<|aJ.refl _ _;rw[M.at]at k;have j:¬ n*a>2^24:=by omega
  have R:=(N m).1;by_cases c:n*a=0;simp only[kh c]at r;simp only[Instr.buildSlice,zK,iI f w o,zJ,qS f w K,Sem.run_ite,iy j,zL,kh c];rw[r,k];simp[Go.newRow];simp only[iy c]at r;simp only[Instr.buildSlice,zK,iI f w o,zJ,qS f w K,Sem.run_ite,iy j,zL,iy c,R];rw[r,k];simp[Go.newRow];refine Br (zN _) fun b _=>?_;simp[cM,D];simp only[u,yB,zD]at h;cases h
 |_=>simp[o]at h
end
variable{n:Nat}
def qzj{m:Nm}{s:S}{w:Jb}(t:fW m s w){b:A Addr}{f:X I}(h:xA s b n=some f):
  f.length=n/\∃r,nB m s.nx f r/\∀a,b=some a->∀j u,r[j]? = some u->w.cell? ((⟨m.I4 a.block,m.sh a.block+a.off,none⟩:Addr).add j)=some u:=by
 cases n with
 |zero=>simp[xA]at h;subst h;exact⟨rfl,[],fun _ _=>by simp[aF],fun _ _ j u g=>by simp at g⟩|succ n=>
  simp only[xA]at h;obtain _|a:=b;simp at h;simp only at h;rcases i:lk s.h a.block with _|I4;simp[i]at h;obtain⟨l,e,B⟩|x:=I4;simp only[i]at h;have q:∀d,aJ s.nx m d->∀j v,f[j]? = some v->w.cell? ⟨m.I4 a.block,m.sh a.block+(a.off+j),none⟩=some (G0 d v):=fun d o j v c=>by have y:wW d a.block l e w B:=(t d o).ok _ _ i;have:=y.cell<|z3g h c;obtain⟨p,k,_⟩:=o a.block<|(t.fits).bd _ _ i;rw[p,k]at this;exact this
  refine⟨quw h,aF m f,fun d o=>?_,?_⟩;rw[lM,lM];apply Wu;intro v z;obtain⟨j,c⟩:=mc z;have p:=q d o j v c;have k:=q m (aJ.refl _ _) j v c;rw[p]at k;simpa using k;rintro _ ⟨rfl⟩ j u g;rw[lM,vz]at g;rcases c:f[j]? with _|v;simp[c]at g;simp[c]at g;subst g;rw[H5,my];exact q m (aJ.refl _ _) j v c;simp[i]at h
def z7b(x K d n k z:Nat):x+K*z-(x+d*z+n*z+k*z)=(K-(d+n+k))*z:=by rw[Nat.sub_mul,dR,dR];omega
def z4o(n k K d:Nat)(h:n+k<=K-d):n+k+(K-(d+n+k))=K-d:=ag
def qP(m:Nm):A Addr->Nat->Nat
 |none,c=>c|some a,c=>cM m a.block c
def bJ.rename{m:Nm}{s:S}{w w':Jb}(h:fW m s w){i:Nat}{b A:m9}(q:lk s.h i=some b)(t:iK b=true)(p f:Nat)
  (H:∀k,k≠m.I4 i->w'.heap[k]? = w.heap[k]?) (R:w'.heap.size=w.heap.size) (L:w'.os=w.os) (M:w'.tape=w.tape) (N:w'.output=w.output) (_h4:w.drawn<=w'.drawn) (O:∀c,aJ (s.nx+1) (m.set s.nx (m.I4 i) p f) c->wX c s.nx w' A):
  bJ m s w (m.set s.nx (m.I4 i) p f) ⟨(s.nx,A)::rm s.h i,s.nx+1⟩ w':=by
 have Q:i<s.nx:=(h.fits).bd i b q;have key:∀j d,s.nx≠j->lk ((s.nx,A)::rm s.h i) j=some d->lk s.h j=some d/\i≠j:=fun j d g a=>by simp only[mD,g,LX,Kt]at a;by_cases e:i=j;simp[e]at a;simp only[e,LX]at a;exact⟨a,e⟩
 refine⟨Nm.K2 m _ _ _ _,Wt _,?_,?_,?_,by omega,L,M,N⟩;intro c B;have K:aJ s.nx m c:=(Nm.K2 m s.nx (m.I4 i) p f).trans B (Wt _);have r:=h c K;have J:c.I4 s.nx=m.I4 i:=by have:=(B s.nx<|zN _).1;simpa[Nm.set]using this
 have o:c.I4 i=m.I4 i:=(K i Q).1;refine⟨fun j d a=>?_,fun j k d y a u E C=>?_,fun j d a=>?_⟩;by_cases e:s.nx=j;subst e;simp only[mD,It,zA]at a;subst a;exact O c B;obtain⟨u,D⟩:=key j d e a;refine(r.ok j d u).world (H _ ?_);rw[<-o];exact fun x=>r.inj i j b d q u D t x.symm;by_cases e:s.nx=j;subst e;obtain⟨z,F⟩:=key k y E u;rw[J,<-o];exact r.inj i k b y q z F t;obtain⟨g,D⟩:=key j d e a;by_cases G:s.nx=k;subst G;rw[J,<-o];exact fun x=>r.inj i j b d q g D t x.symm;obtain⟨z,F⟩:=key k y G u;exact r.inj j k d y g z E C;by_cases e:s.nx=j;subst e;exact zN _;exact Xm<|r.bd j d (key j d e a).1;rintro k ⟨j,d,a,C,rfl⟩;left;by_cases e:s.nx=j;subst e;exact⟨i,b,q,t,by simp[Nm.set]⟩;obtain⟨g,_⟩:=key j d e a;have:=(h.fits).bd j d g;exact⟨j,d,g,C,by simp[Nm.set,show j≠s.nx by omega]⟩;intro k z P;exact H k fun e=>P ⟨i,b,q,t,e.symm⟩
def lA(z:Ie I)(n:Nat):(Builtin.zeroCells z n).size=n*z.size:=by simp[Builtin.zeroCells]
def qyj{b:Nat}(h:DI n b=true):n*b<=140737488355328/\n<=140737488355328:=by unfold DI at h;rcases a:ble (n*b) 140737488355328 with _|_;simp[a]at h;simp only[a,zC]at h;exact⟨by simpa[wm]using a,by simpa[wm]using h⟩
def Uj(m:Nm)(i:Nat):cM m i cP=m.cp i:=by simp[cM,cJ]
section
variable{P:Ib}{T:Tb}(f:j0 P T){m:Nm}{s:S}{w:Jb}(g:fW m s w)
include f g
variable{t:TypeId}{v:I}{o:S}
def zab{l c K J:I}(hl:iC m s.nx l K)(hc:iC m s.nx c J)(h:Po T s t l c=some (v,o)):ng P m s w (Instr.makeSlice t K J) v o:=by
 unfold Po at h;rcases G:T.G4 t with _|d;simp[G]at h;cases d with
 |slice e=>
  simp only[G]at h;cases l with
  |int k1 a=>
   cases c with
   |int k2 b=>
    simp only at h;have e1:K=.int k1 a:=by rw[<-hl.at];simp[G0]
    have e2:J=.int k2 b:=by rw[<-hc.at];simp[G0]
    subst e1 e2;rcases y:T.inf e with _|x;simp[y]at h;obtain⟨r,j,z⟩:=x;have dV:cC T e=some r:=by simp[cC,y]
    have Q:=fun U=>NE f U w y;have N:=bg f y;simp only at Q N;obtain⟨_,i,Y,hi2,re,hi4⟩:=f.inf e _ _ _ y;simp only[y,beq_eq]at h;cases E:i64.wrap a with
    |negSucc x=>simp[E]at h|ofNat n=>
     cases H:i64.wrap b with
     |negSucc x=>simp[E,H]at h|ofNat k=>
      simp only[E,H]at h;rcases u:ble n k with _|_;simp[u]at h;rcases A:ble (j*k) 281474976710656 with _|_;simp[u,A]at h;by_cases B:z.cells.toList.length=r;rcases L:blt k cP with _|_;simp only[u,A,B,L,zC,yC,zD]at h;cases h;simp only[u,A,B,L,zC,yC,zA,zB]at h;obtain⟨rfl,rfl⟩:=h;have vL:n<=k:=by simpa[wm]using u
      have V:j*k<=281474976710656:=zY A;have M:k<cP:=by simpa[tp]using L
      have R:z.cells.size=r:=by simpa using B
      refine⟨_,_,.slice (some ⟨w.heap.size,0,none⟩) n k,?_,sn g (qok<|Ri N k) e 0,?_⟩;have W:∀q:Nat,q<=k->(decide ((q:Int)<0)||decide ((i.bytes:Int)*(q:Int)>2^48))=false:=by intro q hq;have:j*q<=281474976710656:=eb (mul_le_mul_left _ hq) V;have O:((j*q:Nat):Int)<=((281474976710656:Nat):Int):=Int.ofNat_le.2 this;simp only[Bool.or_eq_false_iff,Bm,re];refine⟨by omega,?_⟩;rw[Int.natCast_mul]at O;simp only[gt_iff_lt,Int.not_lt];exact O
      have F:(Array.range<|k*r).map (fun i=>(if k*r=0 then(#[]:Ie I)else z.cells)[i%(if k*r=0 then(#[]:Ie I)else z.cells).size]!)=⟨cY z.cells.toList k⟩:=by
       by_cases p:k*r=0;rw[p];apply qW;have:(cY z.cells.toList k).length=0:=by rw[qn4,B,p]
       simp[length_eq_zero_iff.1 this];simp only[iy p];have:=qqq z.cells k;rw[R]at this;rw[<-this];simp[R]
      have fS:(((decide ((k:Int)<0)||decide ((i.bytes:Int)*(k:Int)>2^48))||decide ((n:Int)<0))||decide ((n:Int)>(k:Int)))=false:=by rw[W k<|zF _];simp;omega
      have C:i64.wrap a=(n:Int):=E;have D:i64.wrap b=(k:Int):=H;have Z:=(Q m).1;simp only[Instr.makeSlice,zK,iI f w G,zJ,asInt,asIntOf,zL,typeInfo,run_program,Y,C,D,Sem.run_ite,fS,XM,LX,run_askRoom,zZ,qS f w dV];by_cases p:k*r=0;simp only[kh p]at F;simp only[kh p];rw[F];simp[Go.newRow];simp only[iy p]at F;simp only[iy p,Z,zJ];rw[F];simp[Go.newRow];refine Br (zN _) fun U _=>?_;simp[cM,M];simp only[u,A,B,zC,yB,zD]at h;cases h
   |_=>simp at h
  |_=>simp at h
 |_=>simp[G]at h
omit g in
def ee{t j ty e q:TypeId}{size:Nat}(d:T.G4 t=some (.slice e))(h:T.G4 j=some (.slice q))(c:cC T e=some size){base xb:A Addr}{n C k xc:Nat}{cnew:Ie I}{w₁:Jb}
  (i:(Builtin.firstCells size k (.slice xb k xc)).run P w=.ok cnew w) (b:n+k<=C) (p:∀a,base=some a->(storeCells (a.add (n*size)) cnew.toList).run P w=.ok () w₁) (r:base=none->w₁=w):
  (Builtin.append_ #[t,j] ty #[.slice base n C,.slice xb k xc]).run P w=.ok (.slice base (n+k) C) w₁:=by cases base with|none=>rw[r rfl];simp[Builtin.append_,iI f w d,iI f w h,qS f w c,Builtin.lenOf,b,i]|some a=>simp[Builtin.append_,iI f w d,iI f w h,qS f w c,Builtin.lenOf,b,i,p a rfl]
omit g in
def j8{t u ty e B:TypeId}{size c:Nat}{z:I}(L:T.G4 t=some (.slice e))(M:T.G4 u=some (.slice B))(p:T.inf e=some (size,c,z)){base q:A Addr}{n C k r:Nat}{a cold:Ie I}
  (O:∀b,b.heap=w.heap->(Builtin.firstCells size k (.slice q k r)).run P b=.ok a b) (Q:∀b,b.heap=w.heap->(Builtin.firstCells size n (.slice base n C)).run P b=.ok cold b) (y:C<n+k) (J:DI (n+k) c=true): (Builtin.append_ #[t,u] ty #[.slice base n C,.slice q k r]).run P w=
   .ok (.slice (some ⟨w.heap.size,0,none⟩) (n+k) ((Question.appendCap (n+k) C e).cut (w.tape w.drawn (.appendCap (n+k) C e)))) ((w.drew).alloc (.cells (cold++a++Builtin.zeroCells z.cells (((Question.appendCap (n+k) C e).cut (w.tape w.drawn (.appendCap (n+k) C e)))-(n+k))) e)):=by
 obtain⟨R,V⟩:=qyj J;obtain⟨_,i,x,E,U,F⟩:=f.inf e _ _ _ p;have K:cC T e=some size:=by simp[cC,p]
 have g1:¬ n+k<=C:=by omega
 have g2:¬ (((n+k:Nat):Int)>i64.max/\(False\/i.bytes=0)):=by rw[max_i64];omega
 have D:¬ Builtin.nextslicecap (n+k) C*i.bytes>2^48:=by have:=growslice_fits (bytes:=i.bytes) y (by rw[U];exact R);omega
 have G:=O w.drew rfl;have H:=Q w.drew rfl;have W:({ w with drawn:=w.drawn+1 }:Jb)=w.drew:=rfl;have N:(zeroValue e).run P w.drew=.ok z w.drew:=(NE f (⟨id,id,id⟩:Nm) w.drew p).1;simp[Builtin.append_,iI f w L,iI f w M,qS f w K,Builtin.lenOf,iy g1,typeInfo,x];have d:¬ (9223372036854775807<(n:Int)+(k:Int)/\i.bytes=0):=by omega
 have h:¬ 281474976710656<Builtin.nextslicecap (n+k) C*i.bytes:=D;have j:(Question.appendCap (n+k) C e).forced=false:=rfl;simp only[iy d,iy h,j,XM,LX,H,G,N,zJ];simp[Go.newRow];rfl
omit g in
def qkj{t i ty e p:TypeId}{size c:Nat}{z:I}(u:T.G4 t=some (.slice e))(x:T.G4 i=some (.slice p))(q:T.inf e=some (size,c,z)){base d:A Addr}{n C k h:Nat}{a cold:Ie I}
  (y:∀b,b.heap=w.heap->(Builtin.firstCells size k (.slice d k h)).run P b=.ok a b) (B:∀b,b.heap=w.heap->(Builtin.firstCells size n (.slice base n C)).run P b=.ok cold b) (j:C<n+k) (r:DI (n+k) c=true):
  ∃nc,n+k<=nc/\(Builtin.append_ #[t,i] ty #[.slice base n C,.slice d k h]).run P w=
   .ok (.slice (some ⟨w.heap.size,0,none⟩) (n+k) nc) ((w.drew).alloc (.cells (cold++a++Builtin.zeroCells z.cells (nc-(n+k))) e)):=
 ⟨_,by simp[Question.cut],j8 f u x q y B j r⟩
omit f in
def SG{b:A Addr}{n size:Nat}{e:X I}(h:xA s b (n*size)=some e):
  ∃c,nB m s.nx e c/\e.length=n*size/\∀d,d.heap=w.heap->∀len cap,(Builtin.firstCells size n (.slice (b.map fun a=>⟨m.I4 a.block,m.sh a.block+a.off,none⟩) len cap)).run P d=.ok ⟨c⟩ d:=by
 obtain⟨i,c,p,q⟩:=qzj g h;refine⟨c,p,i,fun d y len cap=>?_⟩;have r:c.length=n*size:=by rw[<-p.at];simp[i]
 cases b with
 |none=>
  have:n*size=0:=by cases z:n*size with|zero=>rfl|succ k=>rw[z]at h;simp[xA]at h
  have:c=[]:=length_eq_zero_iff.1 ag;subst this;simp[Builtin.firstCells]
 |some a=>exact run_firstCells_some d size n _ len cap c r (fun j u x=>by have:=q a rfl j u x;rw[<-this];simp[World.cell?,y])
omit f in
def zbd{i c a:Nat}{l:X I}{e:TypeId}(d:lk s.h i=some (.inl (l,e,a+1+2))){off n:Nat}(p:off=cJ c*(a+1))(k:off+n*(a+1)<=l.length):n+cJ c<=m.cp i:=by
 obtain⟨q,b,_,_,j⟩:=(g.fits).ok i _ d;have:(n+cJ c)*(a+1)<=m.cp i*(a+1):=by rw[dR];omega
 exact TH this ag
variable{i:TypeId}{ty:TypeId}{j:I}
def qxq{e R:TypeId}{d D:Nat}{z:I}(hd:T.G4 t=some (.slice e))(dD:T.G4 i=some (.slice R))(hi:T.inf e=some (d+1,D,z)){a:Addr}{l p new b:X I}{c k:Nat}{O:A Addr}{xc:Nat}
  (hr:eQ s a.block=some (l,e,d+1+2)) (fG:a.off=cJ c*(d+1)) (hc:¬ c<cP) (bP:DI (n+(k+1)) D=true) (O0:z.cells.toList.length=d+1) (L:wK l a.off (n*(d+1))=some p) (J:nB m s.nx new b) (U:new.length=(k+1)*(d+1)) (h1:xD new=true) (kT:∀w',w'.heap=w.heap->∀len cap,(Builtin.firstCells (d+1) (k+1)<|.slice (O.map fun a=>⟨m.I4 a.block,m.sh a.block+a.off,none⟩) len cap).run P w'=.ok ⟨b⟩ w')
  {cx:I} (W:cx=.slice (O.map fun a=>⟨m.I4 a.block,m.sh a.block+a.off,none⟩) (k+1) (qP m O xc)) (x:j=.slice ((some a).map fun a=>⟨m.I4 a.block,m.sh a.block+a.off,none⟩) n (qP m (some a) c)):
  ng P m s w (Builtin.append_ #[t,i] ty #[j,cx]) (.slice (some ⟨s.nx,0,none⟩) (n+(k+1)) cP) ⟨(s.nx,.inl (p++new,e,d+1+2))::rm s.h a.block,s.nx+1⟩:=by
 have dV:cC T e=some (d+1):=by simp[cC,hi]
 obtain⟨M,qC⟩:=WH hr;obtain⟨jN,oJ⟩:=sx L;have N:=quw L;have gD:qP m (some a) c=m.cp a.block-cJ c:=by simp[qP,cM,hc]
 have iW:=(g.fits).bd _ _ M;have zw:xA s (some a) (n*(d+1))=some p:=by cases hn:n*(d+1)with|zero=>rw[hn]at N;simp[xA,length_eq_zero_iff.1 N]|succ q=>rw[hn]at L;simp[xA,M,L]
 obtain⟨r,Q,_,RC⟩:=SG (P:=P) g zw;have fB:b.length=(k+1)*(d+1):=by rw[<-J.at];simp[U]
 rw[gD]at x;by_cases sO:n+(k+1)<=m.cp a.block-cJ c
 ·-- gS is room
  obtain⟨u,rest,hb,m4,V⟩:=(g.fits).ok _ _ M;have htot:a.off+n*(d+1)+b.length<=l.length+rest.length:=by rw[V,fG,fB,<-dR,<-dR];exact ri _ ag
  have yO:∀v∈b,v.oneCell'=true:=by rw[<-J.at];exact qnr h1
  have y:(u++aF m l++rest).length=m.sh a.block+(l.length+rest.length):=by simp[m4]
  have K:=run_storeCells_at P (m.I4 a.block) (m.sh a.block+a.off+n*(d+1)) e b 0 _ w hb (by simp only[mm,y];omega) yO;simp only[ek]at K;refine⟨_,_,.slice (some ⟨m.I4 a.block,m.sh a.block+a.off,none⟩) (n+(k+1))<|m.cp a.block-cJ c,?_,bJ.rename (w':=w.setRow (m.I4 a.block) ((u++aF m l++rest).take (m.sh a.block+a.off+n*(d+1))++b++(u++aF m l++rest).drop (m.sh a.block+a.off+n*(d+1)+b.length)).toArray) g M (qmg qC) (m.sh a.block+a.off) (m.cp a.block-cJ c) (fun k hk=>setRow_other w _ k _ hk) ca rfl rfl rfl (zF _) ?_,?_⟩;rw[W,x];exact ee (P:=P) f (w:=w) (ty:=ty) hd dD dV (kT w rfl _ _) sO (fun a' H=>by simp only[zM,zA]at H;subst H;rw[H5];exact K) (fun fS=>by simp at fS);intro G B;obtain⟨vL,BQ,S0⟩:=B s.nx<|zN _;obtain⟨e1,R,E⟩:=DN m s.nx (m.I4 a.block) (m.sh a.block+a.off)<|m.cp a.block-cJ c;have H:aJ s.nx m G:=(Nm.K2 m s.nx _ _ _).trans B (Wt _);refine⟨(u++aF m l++rest).take (m.sh a.block+a.off),(u++aF m l++rest).drop (m.sh a.block+a.off+n*(d+1)+b.length),?_,?_,?_⟩;rw[vL,e1,setRow_heap w _ _ _ e (0,0) hb,y8,J G H,Q G H];have Fs:((u++aF m l++rest).drop (m.sh a.block+a.off)).take (n*(d+1))=r:=by rw[<-Q.at,jN];rcases Fz (n*(d+1))with h0 |jY;rw[h0];simp[aF];rw[<-m4,zT,qcy,Gt ag,eY,nv,zi (by simp;omega),ya (by simp;omega)];simp[lM,zy,zp]
  have Oy:(u++aF m l++rest).take (m.sh a.block+a.off+n*(d+1))=(u++aF m l++rest).take (m.sh a.block+a.off)++r:=by rw[Ha,Fs]
  rw[Oy];congr 2;simp only[zT];rw[BQ,R,Wz,y];omega;rw[S0,E,zU,N,U,oy,y];rw[V,fB,fG,<-dR];have e4:=z7b (m.sh a.block) (m.cp a.block) (cJ c) n (k+1)<|d+1;rw[e4,<-dR,z4o _ _ _ _ sO];refine Br (zN _) fun G B=>?_;rw[Uj];obtain⟨_,_,E⟩:=DN m s.nx (m.I4 a.block) (m.sh a.block+a.off)<|m.cp a.block-cJ c;exact(B s.nx<|zN _).2.2.trans E
 have aH:m.cp a.block-cJ c<n+(k+1):=by omega
 obtain⟨nc,hnc2,cT⟩:=qkj (P:=P) f (w:=w) (ty:=ty) hd dD hi (n:=n) (k:=k+1) (C:=m.cp a.block-cJ c) (base:=(some a).map fun a=>⟨m.I4 a.block,m.sh a.block+a.off,none⟩) (fun w' F=>kT w' F (k+1)<|qP m O xc) (fun w' F=>RC w' F n _) aH bP;have zh:fW m s w.drew:=qjb _ g;have Y:=Ze zh (rest:=(Builtin.zeroCells z.cells<|nc-(n+(k+1))).toList) (Q.append J) e nc (d+1) (by
  have Ot:z.cells.size=d+1:=by simpa using O0
  rw[zU,N,U,Array.length_toList,lA,Ot,<-dR,<-dR];congr 1;omega)
 have Z:=((bJ.draw (w.drawn+1) g).trans Y).trans (bJ.forget Y.fits a.block);have K:(⟨rm (newRow s (p++new) e<|d+1+2).h a.block,(newRow s (p++new) e<|d+1+2).nx⟩:S)=⟨(s.nx,.inl (p++new,e,d+1+2))::rm s.h a.block,s.nx+1⟩:=by simp[newRow,rm,beq_eq,show s.nx≠a.block by omega]
 rw[K]at Z;refine⟨_,_,.slice (some ⟨w.heap.size,0,none⟩) (n+(k+1)) nc,?_,Z,?_⟩;rw[W,x,cT];congr 3;simp;have F:w.drew.heap.size=w.heap.size:=rfl;rw[F];refine Br (zN _) fun G B=>?_;rw[Uj];obtain⟨_,_,E⟩:=DN m s.nx w.heap.size 0 nc;exact(B s.nx<|zN _).2.2.trans E
omit f in
def VM {base : A Addr} {n c sz : Nat} {v : I} {o : S} (h : (cond (blt c cP) (cond (ble n c) (some (Value.slice base n c, s)) none)
            (match base with
              |some a=> match eQ s a.block with
                |some (l,_,x)=> cond (Nat.beq x (sz+3)) (cond (Nat.beq a.off (cJ c*(sz+1))) (match wK l a.off (n*(sz+1))with
                  |some _=> some (Value.slice base n c,s)|none=> none) none) none
                |none=> none
              |none=> none))=some (v,o)):v=.slice base n c/\o=s/\n<=qP m base c:=by
  simp only[beq_eq]at h;cases b:blt c cP with
  |true=>simp only[b,zC]at h;have y:c<cP:=Bk b;rcases e:ble n c with _|_;simp only[e,zD]at h;cases h;simp only[e,zC,zA,zB]at h;refine⟨h.1.symm,h.2.symm, ?_⟩;have:n<=c:=zY e;obtain _|a:=base;exact this;simp only[qP,cM,kh y];exact this
  |false=>have y : ¬ c<cP:=be b;simp only[b,zD]at h;obtain _|a:=base;simp at h;simp only at h;rcases u:eQ s a.block with _|r;simp[u]at h;obtain⟨l,D,x⟩:=r;simp only[u]at h;by_cases d:x=sz+3;by_cases k:a.off=cJ c*(sz+1);rw[jl d,jl k]at h;simp only[zC]at h;rcases p:wK l a.off (n*(sz+1))with _|q;simp[p]at h;simp only[p,zA,zB]at h;refine⟨h.1.symm,h.2.symm, ?_⟩;obtain⟨_,E⟩:=sx p;have B:=(WH u).1;subst d;simp only[qP,cM,iy y];obtain z |jY:=Fz n;rw[z];exact qq _;have C:0<n*(sz+1):=Gk jY ag;have:=zbd g (c:=c) (n:=n) (off:=a.off) B k ag;omega;rw[jl d,eJ k]at h;simp at h;rw[eJ d]at h;simp at h
omit f g in
def Ui(size len cap:Nat)(b:A Addr)(a:Jb):(Builtin.firstCells size 0 (.slice b len cap)).run P a=.ok #[] a:=by cases b<;>simp[Builtin.firstCells,loadCells,loadCellsFrom]
def qns{sv x cx:I}(hs:iC m s.nx sv j)(hx:iC m s.nx x cx)(h:B8 T s t i sv x=some (v,o)):ng P m s w (Builtin.append_ #[t,i] ty #[j,cx]) v o:=by
 unfold B8 at h;rcases q:T.G4 t with _|d;simp[q]at h;cases d with
 |slice e=>
  rcases B:T.G4 i with _|d2;simp[q,B]at h;cases d2 with
  |slice e2=>
   cases sv with
   |slice base n c=>
    cases x with
    |slice J k xc=>
     simp only[q,B]at h;rcases H:T.inf e with _|y;simp[H]at h;obtain⟨b,K,z⟩:=y;cases b with
     |zero=>simp[H]at h|succ b=>
      have dV:cC T e=some (b+1):=by simp[cC,H]
      simp only[H]at h;rcases Q:xA s J (k*(b+1))with _|new;simp[Q]at h;simp only[Q]at h;rcases U:xD new with _|_;simp[U]at h;simp only[U,zC]at h;obtain⟨L,O,xI,kT⟩:=SG (P:=P) g Q;have R:cx=.slice (J.map fun a=>⟨m.I4 a.block,m.sh a.block+a.off,none⟩) k (qP m J xc):=by rw[<-hx.at];cases J<;>simp[G0,qP]
      have G:j=.slice (base.map fun a=>⟨m.I4 a.block,m.sh a.block+a.off,none⟩) n (qP m base c):=by rw[<-hs.at];cases base<;>simp[G0,qP]
      cases k with
      |zero=>
       have W:L=[]:=length_eq_zero_iff.1 (by rw[<-O.at];simp[xI]);subst W;have fin:v=.slice base n c->o=s->n<=(qP m base c)->ng P m s w (Builtin.append_ #[t,i] ty #[j,cx]) v o:=by rintro rfl rfl sO;refine⟨m,w,j,?_,bJ.refl g,hs⟩;rw[R,G];have:=ee (P:=P) f (w:=w) (ty:=ty) (w₁:=w) q B dV (base:=base.map fun a=>⟨m.I4 a.block,m.sh a.block+a.off,none⟩) (n:=n) (kT w rfl 0 (qP m J xc)) (C:=(qP m base c)) (by simpa using sO) (fun a _=>by simp[storeCells]) (fun _=>rfl);simpa using this
       obtain⟨e1,e2,sO⟩:=VM g h;exact fin e1 e2 sO
      |succ k=>
       simp only[Ku,beq_eq]at h;cases N:blt c cP with
       |true=>
        simp only[N,zC]at h;have pP:c<cP:=Bk N;cases n with
        |succ n=>simp at h|zero=>
        cases c with|succ c=>simp at h|zero=>
        simp only at h;have gD:qP m base 0=0:=by cases base<;>simp[qP,cM,pP]
        rcases u:DI (0+(k+1)) K with _|_;simp only[u,zD]at h;cases h;simp only[u,zC]at h;by_cases A:z.cells.toList.length=b+1;simp only[A,yC,zC,zA,zB]at h;obtain⟨rfl,rfl⟩:=h;obtain⟨nc,hnc2,cT⟩:=qkj (P:=P) f (w:=w) (ty:=ty) q B H (n:=0) (k:=k+1) (C:=0) (base:=base.map fun a=>⟨m.I4 a.block,m.sh a.block+a.off,none⟩) (cold:=#[]) (fun w' Z=>kT w' Z (k+1)<|qP m J xc) (fun w' _=>Ui _ _ _ _ _) ag u;have zh:fW m s w.drew:=qjb _ g;have aO:=Ze zh (rest:=(Builtin.zeroCells z.cells<|nc-(0+(k+1))).toList) O e nc (b+1) (by
         have Ot:z.cells.size=b+1:=by simpa using A
         rw[xI,Array.length_toList,lA,Ot,<-dR];congr 1;omega)
        refine⟨_,_,.slice (some ⟨w.heap.size,0,none⟩) (0+(k+1)) nc,?_,(bJ.draw (w.drawn+1) g).trans aO,?_⟩;rw[R,G,gD,cT];congr 3;simp;have Z:w.drew.heap.size=w.heap.size:=rfl;rw[Z];refine Br (zN _) fun m' ha=>?_;rw[Uj];obtain⟨_,_,e3⟩:=DN m s.nx w.heap.size 0 nc;exact(ha s.nx<|zN _).2.2.trans e3;simp only[A,yB,zD]at h;cases h
       |false=>
        simp only[N,zD]at h;generalize hD:cJ c=D at h;have pP:¬ c<cP:=be N;obtain _|a:=base;simp at h;simp only at h;rcases Y:eQ s a.block with _|r;simp[Y]at h;obtain⟨l,e',md⟩:=r;simp only[Y]at h;by_cases E:md=b+1+2;by_cases F:e'=e;by_cases M:a.off=D*(b+1);rcases u:DI (n+(k+1)) K with _|_;simp[E,F,u]at h;by_cases A:z.cells.toList.length=b+1;rcases V:wK l a.off (n*(b+1))with _|p;simp only[E,F,yC,zC,u,A,V,<-M]at h;cases h;have h':some (Value.slice (some ⟨s.nx,0,none⟩) (n+(k+1)) cP,(⟨(s.nx,.inl (p++new,e,b+1+2))::rm s.h a.block,s.nx+1⟩:S))=some (v,o):=by simpa only[E,F,yC,zC,u,A,V,<-M]using h
        simp only[zA,zB]at h';obtain⟨rfl,rfl⟩:=h';subst E F;clear h;exact qxq f g q B H Y (by rw[hD];exact M) pP u A V O xI U kT R G;simp only[E,F,yC,yB,zC,zD,u,A,<-M]at h;cases h;simp only[E,F,M,yC,yB,zC,zD]at h;cases h;simp only[E,F,yC,yB,zC,zD]at h;cases h;simp only[E,yB,zD]at h;cases h
    |_=>simp[q,B]at h
   |_=>simp[q,B]at h
  |_=>simp[q,B]at h
 |_=>simp[q]at h
def qz4{G x cx:I}(K:iC m s.nx G j)(p:iC m s.nx x cx)(h:y6 T s t i G x=some (v,o)):ng P m s w (Builtin.append_ #[t,i] ty #[j,cx]) v o:=by
 have src:∀{G j:I}{a:A Addr},iC m s.nx G j->B8 T s t i G (.slice none 0 0)=some (v,o)->ng P m s w (Builtin.append_ #[t,i] ty #[j,.slice a 0 0]) v o:=by
  intro G j a K h;have h0:=h;unfold B8 at h;rcases u:T.G4 t with _|d;simp[u]at h;cases d with
  |slice e=>
   rcases B:T.G4 i with _|d2;simp[u,B]at h;cases d2 with
   |slice M=>
    cases G with
    |slice base n c=>
     simp only[u,B]at h;rcases E:T.inf e with _|y;simp[E]at h;obtain⟨sz,J,z⟩:=y;cases sz with
     |zero=>simp[E]at h|succ sz=>
      have Y:cC T e=some (sz+1):=by simp[cC,E]
      simp only[E,lg,xA,xD,zC]at h;obtain⟨F,M,sO⟩:=VM g h;subst F;subst M;have D:j=.slice (base.map fun a=>⟨m.I4 a.block,m.sh a.block+a.off,none⟩) n (qP m base c):=by rw[<-K.at];cases base<;>simp[G0,qP]
      refine⟨m,w,j,?_,bJ.refl g,K⟩;rw[D];have:=ee (P:=P) f (w:=w) (ty:=ty) (w₁:=w) u B Y (base:=base.map fun a=>⟨m.I4 a.block,m.sh a.block+a.off,none⟩) (n:=n) (xb:=a) (xc:=0) (k:=0) (cnew:=#[]) (Ui _ _ _ _ _) (C:=(qP m base c)) (by simpa using sO) (fun a _=>by simp[storeCells]) (fun _=>rfl);simpa using this
    |_=>simp[u,B]at h
   |_=>simp[u,B]at h
  |_=>simp[u]at h
 have tgt:∀{x cx:I}{a:A Addr}{L:I}{O:S},(iC m s.nx x cx\/x=.slice none 0 0/\∃b,cx=.slice b 0 0)->B8 T s t i (.slice none 0 0) x=some (L,O)->(L=.slice none 0 0/\O=s/\(Builtin.append_ #[t,i] ty #[.slice a 0 0,cx]).run P w=.ok (.slice a 0 0) w)\/((∃b n c,L=.slice (some b) n c)/\ng P m s w (Builtin.append_ #[t,i] ty #[.slice a 0 0,cx]) L O):=by
  intro x cx a L O p h;have U:=fun p=>qns (ty:=ty) f g (PT (m:=m) (n:=s.nx) (v:=.slice none 0 0) fun _=>by simp[G0]) (cx:=cx) p h;unfold B8 at h;rcases u:T.G4 t with _|d
  simp[u]at h;cases d with
  |slice e=>
   rcases B:T.G4 i with _|d2;simp[u,B]at h;cases d2 with
   |slice M=>
    cases x with
    |slice xb k xc=>
     simp only[u,B]at h;rcases E:T.inf e with _|y;simp[E]at h;obtain⟨sz,J,z⟩:=y;cases sz with
     |zero=>simp[E]at h|succ sz=>
      have Y:cC T e=some (sz+1):=by simp[cC,E]
      simp only[E]at h;rcases V:xA s xb (k*(sz+1))with _|new;simp[V]at h;simp only[V]at h;rcases h1:xD new with _|_;simp[h1]at h;simp only[h1,zC]at h;obtain⟨cnew,HM,xI,kT⟩:=SG (P:=P) g V;have SE:iC m s.nx (.slice xb k xc) cx->cx=.slice (xb.map fun a=>⟨m.I4 a.block,m.sh a.block+a.off,none⟩) k (qP m xb xc):=fun p=>by rw[<-p.at];cases xb<;>simp[G0,qP]
      cases k with
      |zero=>
       obtain⟨F,M,sO⟩:=VM (sz:=sz) g h;refine .inl ⟨F,M,?_⟩;have N:∃b c,cx=.slice b 0 c:=by obtain p |⟨_,b,hb⟩:=p;exact⟨_,_,SE p⟩;exact⟨b,0,hb⟩
       obtain⟨b,c,rfl⟩:=N;have:=ee (P:=P) f (w:=w) (ty:=ty) (w₁:=w) u B Y (base:=a) (n:=0) (xb:=b) (xc:=c) (k:=0) (cnew:=#[]) (Ui _ _ _ _ _) (C:=0) (zF _) (fun a _=>by simp[storeCells]) (fun _=>rfl);simpa using this
      |succ k=>
       have W:DI (0+(k+1)) J=true/\∃b n c,L=.slice (some b) n c:=by simp only[Ku]at h;have c0:blt 0 cP=true:=tA (by simp[cP]);simp only[c0,zC]at h;rcases hr:DI (0+(k+1)) J with _|_;simp only[hr,zD]at h;cases h;simp only[hr,zC]at h;rcases hz:Nat.beq z.cells.toList.length (sz+1)with _|_;simp only[hz,zD]at h;cases h;simp only[hz,zC,zA,zB]at h;exact⟨rfl,_,_,_,h.1.symm⟩
       refine .inr ⟨W.2,?_⟩;have p:iC m s.nx (.slice xb (k+1) xc) cx:=by obtain p |⟨p,_⟩:=p;exact p;cases p
       obtain⟨aI,w₁,cv,g1,g2,g3⟩:=U p;refine⟨aI,w₁,cv,?_,g2,g3⟩;rw[SE p]at g1 ⊢;have q2:=j8 (P:=P) f (w:=w) (ty:=ty) u B E (base:=none) (n:=0) (C:=0) (cold:=#[]) (fun Q H=>kT Q H (k+1)<|qP m xb xc) (fun Q _=>Ui _ _ _ _ _) ag W.1;have Z:=j8 (P:=P) f (w:=w) (ty:=ty) u B E (base:=a) (n:=0) (C:=0) (cold:=#[]) (fun Q H=>kT Q H (k+1)<|qP m xb xc) (fun Q _=>Ui _ _ _ _ _) ag W.1;rw[Z,<-q2];exact g1
    |_=>simp[u,B]at h
   |_=>simp[u,B]at h
  |_=>simp[u]at h
 have flat:(iC m s.nx (C9 x) cx\/C9 x=.slice none 0 0/\∃b,cx=.slice b 0 0):=by
  cases x with
  |chan r=>obtain _|r:=r;exact .inl p;have:=p.at;simp only[G0]at this;exact .inr ⟨rfl,_,this.symm⟩
  |_=>exact .inl p
 unfold y6 at h;cases H:DW G with
 |false=>simp only[H,zD]at h;obtain p |⟨F,b,rfl⟩:=flat;exact qns f g K p h;rw[F]at h;exact src K h
 |true=>
  simp only[H,zC]at h;obtain⟨r,rfl⟩:∃r,G=.chan (some r):=by
   cases G with
   |chan r=>cases r with
    |none=>simp[DW]at H|some r=>exact⟨r,rfl⟩
   |_=>simp[DW]at H
  have D:=K.at;simp only[G0]at D;rcases R:B8 T s t i (.slice none 0 0) (C9 x)with _|q;simp[R]at h;obtain⟨L,O⟩:=q;rcases tgt (a:=some ⟨m.I4 r,m.sh r,some<|m.cp r⟩) flat R with⟨F,M,cT⟩|⟨⟨b,n,c,F⟩,U⟩;rw[R,F]at h;simp only[zA,zB]at h;obtain⟨rfl,rfl⟩:=h;exact⟨m,w,j,by rw[<-D];exact cT,bJ.refl g,K⟩;rw[R,F]at h;simp only[zA,zB]at h;obtain⟨rfl,rfl⟩:=h;rw[<-D,<-F];exact U
end
variable{m:Nm}{s:S}{w:Jb}
def bJ.ghost(h:fW m s w)(b g e:Nat):bJ m s w (m.set s.nx b g e) ⟨s.h,s.nx+1⟩ w:=by refine⟨Nm.K2 m _ _ _ _,Wt _,fun r o=>?_,?_,fun _ _ _=>rfl,zF _,rfl,rfl,rfl⟩;have a:=h r<|(Nm.K2 m s.nx b g e).trans o (Wt _);exact⟨a.ok,a.inj,fun i c p=>Xm<|a.bd i c p⟩;rintro k ⟨j,d,f,q,rfl⟩;have:=(h.fits).bd j d f;exact .inl ⟨j,d,f,q,by simp[Nm.set,show j≠s.nx by omega]⟩
variable{r:Nat}{es:X MapEntry}{cl:Nat}
def G!(h:TW s r=some (es,cl)):lk s.h r=some (.inr (es,cl)):=by unfold TW at h;rcases a:lk s.h r with _|b;simp[a]at h;obtain x |x:=b<;>simp[a]at h;rw[h]
def Zy{P:Ib}(c:fW m s w){es':X MapEntry}{ces:X MapEntry}{cl':Nat}(j:TW s r=some (es,cl))
  (h:∀b,aJ s.nx m b->es'.map (jP b)=ces):
  ∃a,(setObj (m.I4 r)<|.map ces.toArray cl').run P w=.ok () a/\bJ m s w m (Sa s r es' cl') a:=by have d:=G! j;have g:w.heap[m.I4 r]? = some (.map (es.map<|jP m).toArray cl):=(c.fits).ok r _ d;refine⟨{ w with heap:=w.heap.setIfInBounds (m.I4 r) (.map ces.toArray cl') },by simp[setObj,Sem.run,g],?_⟩;refine bJ.write c d rfl (fun k i=>?_) ca rfl rfl rfl (zF _) fun b e=>?_;exact Array.getElem?_setIfInBounds_ne<|Wv i;have o:b.I4 r=m.I4 r:=(e r<|(c.fits).bd r _ d).1;have f:=(c.fits).size d;simp only[wX,o,h b e];exact Array.getElem?_setIfInBounds_self_of_lt f
def QW(c:fW m s w)(i:TW s r=some (es,cl)):∀a,aJ s.nx m a->es.map (jP a)=es.map (jP m):=fun a f=>by
 have d:=G! i;have h:w.heap[m.I4 r]? = some (.map (es.map<|jP m).toArray cl):=(c.fits).ok r _ d;have b:w.heap[a.I4 r]? = some (.map (es.map<|jP a).toArray cl):=(c a f).ok r _ d;rw[(f r<|(c.fits).bd r _ d).1,h]at b;simp at b;exact Wu fun e g=>(b e g).symm
def qzd{a b:ByteArray}(h:lX a.data.toList b.data.toList=true):a=b:=by
 rw[bo]at h;have:a.data.toList=b.data.toList:=by simpa using h
 exact ByteArray.ext (qW this)
def zbm{E:I->I->Rl}{n:Nat}(i:∀a b,E a b=true->a=b/\Instr.sameBits n a b=true)(x y:X I)(h:ER E x y=true):x=y/\((x.zip y).all fun p=>Instr.sameBits n p.1 p.2)=true:=by induction x generalizing y with|nil=>cases y<;>simp_all[ER]|cons a x j=>obtain _|⟨b,y⟩:=y;simp[ER]at h;simp only[ER]at h;rcases c:E a b with _|_;simp[c]at h;simp only[c,zC]at h;obtain⟨d,e⟩:=i a b c;obtain⟨f,g⟩:=j y h;subst d f;simp only[zip_cons_cons,all_cons,e,g];simp
def YG(d k:Nat):∀a b,GL d a b=true->a=b/\Instr.sameBits (d+k) a b=true:=by
 induction d with
 |zero=>intro a b h;simp[GL]at h|succ d g=>
  intro a b h;have f:d+1+k=(d+k)+1:=by omega
  rw[f];simp only[GL]at h;cases a with
  |int i x=>cases b with|int j y=>simp only at h;by_cases c:i=j;by_cases e:x=y;subst c e;exact⟨rfl,by simp[Instr.sameBits]⟩;simp[c,e]at h;simp[c]at h|_=>simp at h
  |bool x=>cases b with|bool y=>simp at h;subst h;exact⟨rfl,by simp[Instr.sameBits]⟩|_=>simp at h
  |string x=>cases b with|string y=>simp only at h;have:=qzd h;subst this;exact⟨rfl,by simp[Instr.sameBits,beq_toListBytes]⟩|_=>simp at h
  |agg x=>
   cases b with
   |agg y=>obtain⟨x⟩:=x;obtain⟨y⟩:=y;simp only at h;obtain⟨c,e⟩:=zbm g x y h;subst c;refine⟨rfl,?_⟩;simp only[Instr.sameBits,beq_self_eq_true,Bool.true_and];exact e
   |_=>simp at h
  |_=>simp at h
def qtv{P:Ib}{a b:I}(h:GL 50 a b=true)(w:Jb):(Instr.keyThatStays a b).run P w=.ok b w/\a=b:=by obtain⟨c,d⟩:=YG 50 9950 a b h;refine⟨?_,c⟩;have e:Instr.sameBits 10000 a b=true:=d;simp[Instr.keyThatStays,e]
def z1d(es:X MapEntry)(i:Nat)(f:MapEntry->MapEntry):Y3 es i f=es.modify i f:=by induction es generalizing i with|nil=>simp[Y3]|cons e es a=>cases i<;>simp[Y3,a]
section
variable{P:Ib}{T:Tb}(d:j0 P T){m:Nm}{s:S}{w:Jb}(e:fW m s w)
include d e
def qxo{t f ty:TypeId}{b x c cx v:I}{a:S}(g:iC m s.nx b c)(j:iC m s.nx x cx)(h:Sz T s t f b x=some (v,a)):ng P m s w (Builtin.append_ #[t,f] ty #[c,cx]) v a:=by unfold Sz at h;split at h;rename_i r i;cases h;exact qz4 d e g j i;cases h
def z3j{t:TypeId}{x cx v:I}{C B:A I}{W7 f:A I}{y:S}(K:iC m s.nx x cx)(F:∀i,aJ s.nx m i->C.map (G0 i)=W7)(G:∀i,aJ s.nx m i->B.map (G0 i)=f)
  (h:Ky T s t x C B=some (v,y)):ng P m s w (Instr.sliceAt t cx W7 f none) v y:=by
 unfold Ky at h;split at h;rename_i u z p J;obtain⟨a,c,O⟩:=p;obtain⟨g,N,q,M,_⟩:=Ov d m w e.fits J;rw[F m<|aJ.refl _ _,G m<|aJ.refl _ _,K.at]at g;cases o:blt (u+1) z with
 |true=>simp[o]at h|false=>
  simp only[o,zD,zA,zB]at h;obtain⟨rfl,rfl⟩:=h;have L:=be o;have D:z=u+1:=by omega
  subst D;rw[mr]at g;have key:∀b k j,(Instr.sliceAt t cx W7 f none).run P w=.ok (.slice (some ⟨b,k,none⟩) 0 j) w->ng P m s w (Instr.sliceAt t cx W7 f none) (.slice (some ⟨s.nx,0,none⟩) 0 cP) ⟨s.h,s.nx+1⟩:=by intro b k j g;refine⟨_,w,_,g,bJ.ghost e b k j,Br (zN _) fun i H=>?_⟩;rw[Uj];obtain⟨_,_,E⟩:=DN m s.nx b k j;exact(H s.nx<|zN _).2.2.trans E
  by_cases q:m.cp a.block-cJ c=u+1;rw[kh q]at g;exact key _ _ _ g;rw[iy q]at g;exact key _ _ _ g
 cases h
end
section
variable{P:Ib}{T:Tb}(a:j0 P T){m:Nm}{s:S}{w:Jb}(b:fW m s w)
include a b
def z63{t:TypeId}{mv k x K J cx u:I}{O:S}(hm:iC m s.nx mv K)(hk:iC m s.nx k J)(U:iC m s.nx x cx)(h:Ld T s t mv k x=some (u,O)):
  Js P m s w (Instr.mapUpdate t K J cx) O/\u=undef:=by
 unfold Ld at h;rcases z:T.G4 t with _|Z;simp[z]at h;cases Z with
 |map V et=>
  cases mv with
  |map r=>
   obtain _|r:=r;simp[z]at h;simp only[z]at h;rcases F:xW T 50 V k with _|_;simp[F]at h;simp only[F,zC]at h;obtain⟨ty,yK⟩:=qw1 F;rcases o:plain k with _|_;simp[o]at h;simp only[o,zC]at h;rcases A:TW s r with _|q;simp[A]at h;obtain⟨es,cl⟩:=q;simp only[A]at h;have R:w.heap[m.I4 r]? = some (.map (es.map<|jP m).toArray cl):=(b.fits).ok r _ (G! A);have C:K=.map (some<|m.I4 r):=by rw[<-hm.at];simp[G0]
   have B:J=k:=by rw[<-hk.at];exact PR m k o
   have y:=z8h a m false 50 9950 w F;rw[PR m k o]at y;have Q:=QW b A;rcases g:wU T V k es 0 with _|fr;simp[g]at h;have H:=U9 a m w yK g;rw[PR m k o]at H;cases fr with
   |none=>simp only[g,zA,zB]at h;obtain⟨rfl,rfl⟩:=h;refine⟨?_,rfl⟩;obtain⟨c,L,M⟩:=Zy (P:=P) b A (es':=es++[{ key:=k,val:=x,born:=cl }]) (cl':=cl+1) (ces:=es.map (jP m)++[{ key:=k,val:=cx,born:=cl }]) (fun d D=>by simp[jP,PR d k o,U d D];have:=Q d D;simpa[jP]using this);refine⟨m,c,?_,M⟩;rw[C,B];simp only[Instr.mapUpdate,zK,iI a w z,zJ,run_getObj_map R,y,H,uv];rw[<-L];simp
   |some p=>
    obtain⟨i,pv⟩:=p;simp only[g,jT]at h;rcases f:es[i]? with _|e;simp[f]at h;simp only[f]at h;rcases N:GL 50 e.key k with _|_;simp[N]at h;simp only[N,zC,zA,zB]at h;obtain⟨rfl,rfl⟩:=h;refine⟨?_,rfl⟩;obtain⟨Y,G⟩:=qtv (P:=P) N w;have E:∀d,aJ s.nx m d->(Y3 es i fun e=>{ e with val:=x }).map (jP d)=(es.map<|jP m).modify i fun e=>{ e with key:=k,val:=cx }:=fun d D=>by rw[z1d,<-Q d D];apply me;intro j;simp only[vz,getElem?_modify];by_cases W:i=j;subst W;simp[f,jP,U d D,G,PR d k o];cases es[j]? <;> simp[W]
    obtain⟨c,L,M⟩:=Zy (P:=P) b A (cl':=cl) E;refine⟨m,c,?_,M⟩;have wB:(es.map<|jP m).toArray[i]? = some (jP m e):=by simp[f]
    have sP:(jP m e).key=k:=by simp[jP,G,PR m k o]
    rw[G]at Y;rw[C,B];simp only[Instr.mapUpdate,zK,iI a w z,zJ,run_getObj_map R,y,H,zM,wB,gK,sP,Y];rw[<-L];simp
  |_=>simp[z]at h
 |_=>simp[z]at h
end
def wQ(m:Nm)(n:Nat)(c:X I)(a:Act):Prop:=∀b,aJ n m b->a.tmps=⟨aF b c⟩
variable{m:Nm}{n:Nat}{tm:X I}{a:Act}
def wQ.ext{b:Nm}{c:Nat}(h:wQ m n tm a)(d:aJ n m b)(f:n<=c):wQ b c tm a:=fun k e=>h k (d.trans e f)
variable{v:I}
def wQ.F8(h:wQ m n tm a){x:Qo}(c:F8 tm x=some v):iC m n v (a.eval x):=fun d b=>(lN (h d b) c).symm
def z6z(m:Nm)(tm:X I)(d:Nat)(v:I):aF m (tm.set d v)=(aF m tm).set d (G0 m v):=by simp[lM,map_set]
def wQ.put{m:Nm}{n:Nat}{tm:X I}{a:Act}(h:wQ m n tm a){v e:I}(f:iC m n v e)(d:A Tmp):wQ m n (DD tm d v) (a.put d e):=fun c b=>by
 obtain _|d:=d;exact h c b;simp only[Act.put,DD,h c b,z6z,f c b,qcF]
section
variable{P:Ib}{T:Tb}(d:j0 P T){m:Nm}{s:S}{w:Jb}(f:fW m s w)
include d f
def Ig(D:wQ m s.nx tm a)(o:Oper){L:S}(h:AS T tm s o.op=some (v,L)):
  ∃E g B A,(execOp a.eval o).run P w=.ok A g/\(A=.value B\/(A=.skip/\B=undef))/\bJ m s w E L g/\iC E L.nx v B:=by
 obtain⟨Z,op,type,pos,after,guard⟩:=o;simp only at h;have N:∀{x:Sem I},ng P m s w x v L->∃E g B A,(do let y <-x;pure (Next.value y):Sem Next).run P w=.ok A g/\(A=.value B\/(A=.skip/\B=undef))/\bJ m s w E L g/\iC E L.nx v B:=by rintro x ⟨E,g,B,F,J,Q⟩;exact⟨E,g,B,_,by simp only[zK,F,zJ,zL],.inl rfl,J,Q⟩
 have W:∀{x:Sem Unit},Js P m s w x L/\v=undef->∃E g B A,(do x;pure Next.skip:Sem Next).run P w=.ok A g/\(A=.value B\/(A=.skip/\B=undef))/\bJ m s w E L g/\iC E L.nx v B:=by rintro x ⟨⟨E,g,F,J⟩,rfl⟩;exact⟨E,g,undef,_,by simp only[zK,F,zJ,zL],.inr ⟨rfl,rfl⟩,J,PT fun _=>by simp[undef,G0,aF]⟩
 unfold AS at h;cases op with
 |alloc e=>simp only at h;rcases O:T.inf e with _|x;simp[O]at h;obtain⟨x1,x2,z⟩:=x;simp only[O,zA,zB]at h;obtain⟨rfl,rfl⟩:=h;have Y:=(NE d m w O).1;have V:=bg d O;simp only at Y V;refine N ⟨_,_,.pointer<|some ⟨w.heap.size,0,none⟩,?_,sn f (qok V) e 0,qx1 _ _ _ _<|zN _⟩;simp[Instr.alloc,Y,newVar,Go.newRow]
 |box e x=>simp only at h;rcases j:F8 tm x with _|u;simp[j]at h;simp only[j,zA,zB]at h;obtain⟨rfl,rfl⟩:=h;refine N ⟨_,_,.pointer<|some ⟨w.heap.size,0,none⟩,?_,sn f (D.F8 j).cells e 0,qx1 _ _ _ _<|zN _⟩;simp[Instr.box,newVar,Go.newRow]
 |store t p x=>simp only at h;rcases H:F8 tm p with _|u;simp[H]at h;rcases j:F8 tm x with _|u';simp[H,j]at h;simp only[H,j]at h;exact W (z7a d f (D.F8 H) (D.F8 j) h)
 |buildSlice t n R=>
  simp only at h;rcases H:J3 tm R.toList with _|qs;simp[H]at h;simp only[H]at h;have C:(R.map fun(i,x)=>(i,a.eval x))=(R.toList.map fun p=>(p.1,a.eval p.2)).toArray:=by cases R;simp
  have:=qtx d f (cps:=R.toList.map fun p=>(p.1,a.eval p.2)) (fun K G=>(WG (D K G) H).symm) h;simp only[execOp];rw[C];exact N this
 |makeSlice t l c=>simp only at h;rcases H:F8 tm l with _|u;simp[H]at h;rcases j:F8 tm c with _|u';simp[H,j]at h;simp only[H,j]at h;exact N (zab d f (D.F8 H) (D.F8 j) h)
 |makeMap t r=>cases r with|some r=>simp at h|none=>simp only[zA,zB]at h;obtain⟨rfl,rfl⟩:=h;refine N ⟨_,_,.map<|some w.heap.size,?_,bJ.alloc f (.map #[] 0) (.inr ([],0)) 0 ?_,fun K G=>?_⟩;simp[Instr.makeMap];intro K G;have C:=(G s.nx<|zN _).1;simp only[wX,C,(DN m s.nx w.heap.size 0 0).1];show(w.heap.push _)[w.heap.size]? = _;simp;have C:=(G s.nx<|zN _).1;simp only[G0,C,(DN m s.nx w.heap.size 0 0).1]
 |slice t x lo O mx=>
  cases mx with|some _=>simp at h|none=>
  simp only at h;rcases j:F8 tm x with _|u;simp[j]at h;rcases F:wV tm lo with _|l;simp[j,F]at h;rcases J:wV tm O with _|hh;simp[j,F,J]at h;simp only[j,F,J]at h;exact N (z3j d f (D.F8 j) (fun K G=>(Ml (D K G) F).symm) (fun K G=>(Ml (D K G) J).symm) h)
 |mapUpdate t q k x=>simp only at h;rcases F:F8 tm q with _|u1;simp[F]at h;rcases J:F8 tm k with _|u2;simp[F,J]at h;rcases Q:F8 tm x with _|u3;simp[F,J,Q]at h;simp only[F,J,Q]at h;exact W (z63 d f (D.F8 F) (D.F8 J) (D.F8 Q) h)
 |call c=>
  obtain⟨callee,args,M⟩:=c;simp only at h;cases callee with
  |builtin b=>
   cases b with
   |append=>
    simp only at h;rcases j:oS tm args.toList with _|vs;simp[j]at h;obtain _ |⟨x,_ |⟨y,_ |⟨z,l⟩⟩⟩:=vs;simp[j]at h;simp[j]at h;obtain⟨M⟩:=M;obtain _ |⟨t,_ |⟨xt,_ |⟨q,r⟩⟩⟩:=M;simp[j]at h;simp[j]at h;simp only[j]at h;have U:=HA (D m<|aJ.refl _ _) j;simp only[aF]at U;have r1:iC m s.nx x (G0 m x):=fun K G=>by have C:=HA (D K G) j;rw[U]at C;simp only[aF]at C;simp at C;exact C.1.symm
    have r2:iC m s.nx y (G0 m y):=fun K G=>by have C:=HA (D K G) j;rw[U]at C;simp only[aF]at C;simp at C;exact C.2.symm
    obtain⟨E,g,B,g1,g2,g3⟩:=qxo d f (ty:=type) r1 r2 h;refine⟨E,g,B,.value B,?_,.inl rfl,g2,g3⟩;simp only[execOp,zK,resolve,zL,zJ,invoke,builtin,U];rw[g1];rfl;simp[j]at h;simp[j]at h
   |_=>simp at h
  |_=>simp at h
 |_=>simp at h
end
def Lo(P:Ib)(call:GY):Prop :=
 ∀f args s v d,call f args s=some (v,d)->∀m w b,fW m s w->nB m s.nx args b->
  Calls P f b.toArray w fun e c=>∃g h,e=.returned h/\bJ m s w g d c/\iC g d.nx v h
section
variable{P:Ib}{T:Tb}(i:j0 P T){call:GY}(l:Lo P call)
include i
def qr8(j:wQ m n tm a)(o:Oper)(w:Jb){f:FuncId}{args:X I}(h:dd T tm o.op=some (f,args)):
  ∃b,(execOp a.eval o).run P w=.ok (.enter f b.toArray) w/\nB m n args b:=by
 obtain⟨H,op,type,pos,after,guard⟩:=o;simp only at h;unfold dd at h;cases op with
 |call c=>
  obtain⟨callee,F,G⟩:=c;simp only at h;cases callee with
  |value g=>
   simp only at h;rcases d:F8 tm g with _|u;simp[d]at h;cases u with
   |func fn first cap=>
    cases fn with
    |func k=>
     simp only[d]at h;rcases y:T.fn k with _|fn;simp[y]at h;simp only[y]at h;rcases x:fn.body.isSome with _|_;simp[x]at h;simp only[x,zC]at h;rcases p:oS tm F.toList with _|vs;simp[p]at h;simp only[p,zA,zB]at h;obtain⟨rfl,rfl⟩:=h;obtain⟨E,D⟩:=i.fn k fn y;obtain⟨first⟩:=first
     obtain⟨cap⟩:=cap;have t:=lN (j m<|aJ.refl _ _) d;have A:=HA (j m<|aJ.refl _ _) p;refine⟨aF m first++aF m vs++aF m cap,?_,fun C B=>?_⟩;have z:fn.body.isNone=false:=by cases J:fn.body<;>simp_all
     simp only[G0,hJ]at t;simp only[execOp,zK,resolve,t,A,Deferred.ofValue,zL,zJ,invoke,callFunc,run_program,E,D x,z,XM,LX];simp;have e:=lN (j C B) d;have q:=HA (j C B) p;rw[t]at e;rw[A]at q;simp only[G0,hJ]at e;simp at e q;rw[y8,y8,e.1,e.2,q]
    |_=>simp[d]at h
   |_=>simp[d]at h
  |_=>simp at h
 |_=>simp at h
include l
def VD{s:S}{w:Jb}(x:fW m s w)(C:wQ m s.nx tm a)(o:Oper){z:S}(h:BD T call tm s o.op=some (v,z))
  {next:Act->Jb->Prop} {Q:Exit->Act->Jb->Prop} (y:∀g b t,bJ m s w g z b->iC g z.nx v t->next (a.put o.dst t) b):o.wp P a w next Q:=by
 unfold BD at h;unfold Oper.wp;cases D:jR T tm o.op with
 |some u=>simp only[D,zA,zB]at h;obtain⟨rfl,rfl⟩:=h;have j:=fun c d=>zav i c w (C c d) o D;rw[j m<|aJ.refl _ _];refine y m w _ (bJ.refl x) fun c d=>?_;have p:=j c d;rw[j m<|aJ.refl _ _]at p;simp at p;exact p.symm
 |none=>
  simp only[D]at h;cases E:qQ T tm s o.op with
  |some u=>simp only[E,zA,zB]at h;obtain⟨rfl,rfl⟩:=h;have j:=fun c d=>quq i c w (x c d) (C c d) o E;rw[j m<|aJ.refl _ _];refine y m w _ (bJ.refl x) fun c d=>?_;have p:=j c d;rw[j m<|aJ.refl _ _]at p;simp at p;exact p.symm
  |none=>
   simp only[E]at h;cases F:AS T tm s o.op with
   |some r=>simp only[F,zA]at h;subst h;obtain⟨g,b,t,H,g1,g2,A,B⟩:=Ig i x C o F;rw[g1];obtain rfl |⟨rfl,rfl⟩:=g2;exact y g b t A B;exact y g b undef A B
   |none=>simp only[F]at h;rcases G:dd T tm o.op with _|q;simp[G]at h;obtain⟨f,args⟩:=q;simp only[G]at h;obtain⟨k,g1,g2⟩:=qr8 i C o w G;rw[g1];show Calls P f _ w _;refine(l f args s v z h m w k x g2).mono ?_;rintro e b ⟨g,t,rfl,A,B⟩;exact y g b t A B
omit l i in
def gj{m:Nm}{tm:X I}{a:Act}(h:a.tmps=⟨aF m tm⟩)(e:Ie Oper)(o:Oper):Region.wanted o (yielded e a.tmps)=So e.toList tm o:=by
 unfold Region.wanted So;obtain _|g:=o.guard;rfl;obtain⟨j,f⟩:=g;simp only[yielded,CC,jT,h];have k:e.toList[j]? = e[j]?:=by simp
 rw[k];obtain _|q:=e[j]?;simp;simp only[qct];rcases t:q.dst with _|d;simp;simp only[qct,vv,lM,vz];obtain _|v:=tm[d]?;simp;simp only[zM];cases v with
 |pointer p=>cases p<;>simp[G0]|slice p n c=>cases p<;>simp[G0]
 |map r=>cases r<;>simp[G0]|chan r=>cases r<;>simp[G0]
 |bool b=>simp[G0]|_=>simp[G0]
end
def NI{b c:Rl}(h:cond b c false=true):b=true/\c=true:=by cases b<;>simp_all
def qy9{l:X Qo}{t:Tmp}(h : .tmp t∈l):t∈tmpsOf l:=by induction l with|nil=>simp at h|cons x l b=>obtain rfl |h2:=zI.1 h;simp[tmpsOf];cases x<;>simp[tmpsOf,b h2]
section
variable{T:Tb}{tm tm':X I}{op:Op}
end
variable{k:Nat}
def z1c{c:X Nat}{es:X Edge}(h:(P5 c es).testBit k=true):∃e∈es,Region.binds .any e=true/\(k=e.on\/∃x,c[e.on]? = some x/\x.testBit k=true):=by
 induction es with
 |nil=>simp[P5]at h|cons e es j=>
  simp only[P5,jT]at h;cases b:Region.binds .any e with
  |false=>simp only[b,zD]at h;obtain⟨d,f,g⟩:=j h;exact⟨d,by simp[f],g⟩
  |true=>simp only[b,zC,testBit_or,nw]at h;rcases h with(h |h)|h;refine⟨e,by simp,b,.inl ?_⟩;rw[testBit_two_pow]at h;simpa using(of_decide_eq_true h).symm;refine⟨e,by simp,b,.inr ?_⟩;rcases i:c[e.on]? with _|x;simp[i]at h;simp only[i]at h;exact⟨x,rfl,h⟩;obtain⟨d,f,g⟩:=j h;exact⟨d,by simp[f],g⟩
def QM:∀(l:X Oper)(b:X Nat),(dU l b).length=b.length+l.length/\(dU l b).take b.length=b/\
  ∀i o,l[i]? = some o->(dU l b)[b.length+i]? = some (P5 ((dU l b).take (b.length+i)) o.after.toList)
 |[],b=>by simp[dU]
 |o::l,b=>by
  obtain⟨f,d,g⟩:=QM l<|b++[P5 b o.after.toList];simp only[dU];refine⟨by rw[f];simp;omega,?_,fun i q c=>?_⟩;have:=congrArg (List.take b.length) d;rw[qcE]at this;simpa using this;cases i with
  |zero=>
   simp only[Ih,zA]at c;subst c;have e:(dU l<|b++[P5 b o.after.toList]).take b.length=b:=by have:=congrArg (List.take b.length) d;rw[qcE]at this;simpa using this
   rw[ek,e];have:=congrArg (fun z=>z[b.length]?) d;simp only[l8]at this;simpa using this
  |succ i=>simp only[zH]at c;have:=g i q c;simp only[zU,zO,zS]at this;rw[show b.length+(i+1)=b.length+(0+1)+i by omega];exact this
section
variable(a:X Oper)
def ki(i k:Nat):Prop:=∃x,(dU a [])[i]? = some x/\x.testBit k=true
variable{i:Nat}
def Zg(h:ki a i k):∃o e,a[i]? = some o/\e∈o.after.toList/\Region.binds .any e=true/\(k=e.on\/ki a e.on k):=by
 obtain⟨x,f,g⟩:=h;obtain⟨g1,_,p⟩:=QM a [];have u:i<a.length:=by have:=(zG.1 f).1;simp at g1;omega
 have j:a[i]? = some a[i]:=by simp[u]
 have:=p i _ j;simp only[zS,Wy]at this;rw[f]at this;simp only[zA]at this;rw[this]at g;obtain⟨e,t,q,c⟩:=z1c g;refine⟨_,e,j,t,q,?_⟩;obtain c |⟨y,b,d⟩:=c;exact .inl c;refine .inr ⟨y,?_,d⟩;rw[l8]at b;split at b;exact b;cases b
def z6b{es:X Edge}(h:FJ i es=true):∀e∈es,Region.binds .any e=true->e.on<i:=by
 induction es with
 |nil=>simp|cons e es g=>
  simp only[FJ]at h;intro f b c;cases d:Region.binds .any e with
  |false=>simp only[d,zD]at h;obtain rfl |b:=zI.1 b;rw[d]at c;cases c;exact g h f b c
  |true=>simp only[d,zC]at h;obtain⟨j,o⟩:=NI h;obtain rfl |b:=zI.1 b;exact Bk j;exact g o f b c
def qsv{lk:X Tmp}{e:A Tmp}{i f:Nat}:∀(l:X Oper)(d:X Nat)(b:Nat),fo lk e i f l d b=true->∀j o,l[j]? = some o->∃mk,d[j]? = some mk/\V_ lk e i f (b+j) mk o.dst=true
 |[],_,_,_=>fun j o h=>by simp at h
 |o::l,[],b,h=>by simp[fo]at h
 |o::l,mk::d,b,h=>fun j q c=>by
  simp only[fo]at h;obtain⟨g,p⟩:=NI h;cases j with
  |zero=>simp at c;subst c;exact⟨mk,rfl,g⟩|succ j=>simp only[zH]at c;obtain⟨mk',g1,g2⟩:=qsv l d (b+1) p j q c;exact⟨mk',by simpa using g1,by rw[show b+(j+1)=b+1+j by omega];exact g2⟩
def p'{p:X Nat}:∀(l:X Oper)(e:X Nat)(b:Nat),Rt a p l e b=true->∀j o,l[j]? = some o->∃d,e[j]? = some d/\FJ (b+j) o.after.toList=true/\fo (P9 a o) o.dst (b+j) d a p 0=true
 |[],_,_,_=>fun j o h=>by simp at h
 |o::l,[],b,h=>by simp[Rt]at h
 |o::l,d::e,b,h=>fun j q c=>by
  simp only[Rt]at h;obtain⟨u,f⟩:=NI h;obtain⟨f,x⟩:=NI f;cases j with
  |zero=>simp at c;subst c;exact⟨d,rfl,u,f⟩|succ j=>simp only[zH]at c;obtain⟨g,g1,g2,t⟩:=p' l e (b+1) x j q c;refine⟨g,by simpa using g1,?_,?_⟩;rw[show b+(j+1)=b+1+j by omega];exact g2;rw[show b+(j+1)=b+1+j by omega];exact t
variable{a}(b:Bq a=true)
include b
def G_{o:Oper}(d:a[i]? = some o):∀e∈o.after.toList,Region.binds .any e=true->e.on<i:=by obtain⟨_,_,c,_⟩:=p' a a _ 0 b i o d;rw[Wy]at c;exact z6b c
def z3p{o q:Oper}(D:a[i]? = some o)(E:a[k]? = some q)(t:i≠k){d:Tmp}(B:q.dst=some d):o.dst≠some d/\(d∈P9 a o->ki a i k\/ki a k i):=by
 obtain⟨j,y,_,z⟩:=p' a a _ 0 b i o D;obtain⟨mk,A,c⟩:=qsv a _ 0 z k q E;simp only[Wy,V_,B,beq_eq,t,yB,zD]at c;have tail:(cond ((P9 a o).any (Nat.beq d)) (cond (j.testBit k) true<|mk.testBit i) true=true)->d∈P9 a o->ki a i k\/ki a k i:=fun h C=>by have f:(P9 a o).any (Nat.beq d)=true:=any_eq_true.2 ⟨d,C,by simp⟩;rw[f]at h;simp only[zC]at h;rcases p:j.testBit k with _|_;simp only[p,zD]at h;exact .inr ⟨mk,A,h⟩;exact .inl ⟨j,y,p⟩
 cases g:o.dst with|none=>simp only[g,zD]at c;exact⟨by simp,tail c⟩|some u=>simp only[g]at c;by_cases e:d=u;simp[e]at c;simp only[e,yB,zD]at c;exact⟨by simpa using fun x=>e x.symm,tail c⟩
def z8v:∀(i k:Nat),ki a i k->k<i:=by
 intro i;induction i using Nat.strongRecOn with
 |_ i p=>intro k h;obtain⟨o,e,f,g,j,d⟩:=Zg a h;have c:=G_ b f e g j;obtain rfl |d:=d;exact c;exact Nat.lt_trans (p e.on c k d) c
def ep(a:X Oper)(L:Nat->Prop):Prop:=∀i o,L i->a[i]? = some o->∀e∈o.after.toList,Region.binds .any e=true->L e.on
def qj6{L:Nat->Prop}(q:ep a L):∀(i k:Nat),L i->ki a i k->L k:=by
 intro i;induction i using Nat.strongRecOn with
 |_ i u=>intro k t h;obtain⟨o,e,d,f,g,c⟩:=Zg a h;have p:=G_ b d e f g;have j:=q i o t d e f g;obtain rfl |c:=c;exact j;exact u e.on p k j c
def gu{L:Nat->Prop}(p:ep a L)(q:∀o,a[i]? = some o->∀e∈o.after.toList,Region.binds .any e=true->L e.on)(h:ki a i k):L k:=by obtain⟨o,e,f,g,j,c⟩:=Zg a h;have d:=q o f e g j;obtain rfl |c:=c;exact d;exact qj6 b p e.on k d c
end
section
variable{P:Ib}{T:Tb}(a:j0 P T){call:GY}(b:Lo P call)(c:Ie Oper){tm₀:X I}{d:S}{rs:X Rec}{tm':X I}{s':S}
 (jM:z98 T call c.toList c.toList tm₀ d=some (rs,tm',s')) (cQ:Bq c.toList=true) (hrs:z92 T rs (dU c.toList []) rs (dU c.toList []) 0=true)
include jM cQ
include a b hrs
end
section
variable{P:Ib}{T:Tb}(a:j0 P T){call:GY}(b:Lo P call)
include a b
end
def W_(n:Nat)(l:X I):pad n l=l++replicate (n-l.length) undef:=by induction n generalizing l with|zero=>simp[pad]|succ n b=>obtain _|⟨v,l⟩:=l;simp[pad,b,Jg];simp[pad,b]
section
variable{P:Ib}{T:Tb}(b:j0 P T)
include b
def T_{m:Nm}{s:S}{w:Jb}(y:Fits m s w){tm:X I}(F:ResultVar->Sem I)(B:∀t,F (.tmp t)=pure ((⟨aF m tm⟩:Ie I).getD t undef))
  (A:∀a t,F (.cell a t)=(do loadVar t (<-asAddr ((⟨aF m tm⟩:Ie I).getD a undef)))):∀(d:X ResultVar)(i:X I),GO T tm s d=some i->(d.mapM F).run P w=.ok (aF m i) w
 |[],i,h=>by simp[GO]at h;subst h;simp[aF]
 |.tmp t::d,i,h=>by
  simp only[GO,jT]at h;rcases c:tm[t]? with _|v;simp[c]at h;simp only[c]at h;rcases f:GO T tm s d with _|l;simp[f]at h;simp only[f,zA]at h;subst h;have z:=T_ y F B A d l f;have o:(⟨aF m tm⟩:Ie I).getD t undef=G0 m v:=by simp[lM,c]
  simp only[Kc,zK,B,zL,zJ,z,o,aF]
 |.cell a t::d,i,h=>by
  simp only[GO]at h;rcases c:qQ T tm s (.load t<|.tmp a)with _|v;simp[c]at h;simp only[c]at h;rcases f:GO T tm s d with _|l;simp[f]at h;simp only[f,zA]at h;subst h;have z:=T_ y F B A d l f;simp only[qQ,F8]at c;rcases g:nth tm a with _|u;simp[g]at c;cases u with
  |pointer p=>
   obtain _|q:=p;simp[g]at c;simp only[g]at c;rcases j:lk s.h q.block with _|I4;simp[j]at c;obtain⟨D,e,E⟩|x:=I4;simp only[j]at c;have C:=sr b m w y j c;rw[jT]at g;have o:(⟨aF m tm⟩:Ie I).getD a undef=.pointer (some ⟨m.I4 q.block,m.sh q.block+q.off,none⟩):=by simp[lM,g,G0]
   simp only[Kc,zK,A,o,asAddr,zL,zJ,C,z,aF];simp[j]at c
  |_=>simp[g]at c
def qjq{m:Nm}{s:S}{w:Jb}(d:Fits m s w){tm:X I}{fn:Func}{c:X I}(h:GO T tm s fn.results.toList=some c):
  (results fn ⟨aF m tm⟩).run P w=.ok (G0 m<|wO c) w:=by unfold results;rw[zK,qcN,Sem.run_map,T_ b d _ (fun t=>rfl) (fun a t=>rfl) fn.results.toList c h];simp only[zJ,zL];congr 1;obtain _ |⟨v,_ |⟨u,l⟩⟩:=c;simp[aF,wO,G0];simp[aF,wO];simp[aF,wO,G0]
end
def OT(P:Ib)(t:TypeId):P.info? t=P.types[t]? \/P.types[t]? = none:=by by_cases h:t<P.types.size;exact .inl (by unfold Tables.info?;rw[kh h]);exact .inr (Ac<|qcv h)
def zbe (P : Ib) (eqs : X TypeId) (hm : P.follows .mixedOrders = true) (hn : ∀ f ∈ P.funcs.toList, f.body.isSome = true → (f.name == "runtime.NumGoroutine") = false)
  (he:∀t∈eqs,P.stoodInHeld t=false/\P.eqGuardType P.depth t=false):j0 P (EU P eqs) where
 G4 t d h:=by
  simp only[EU,jT]at h;rcases ht:P.types.toList[t]? with _|i;simp[ht]at h;have hi:P.info? t=some i:=by
   have CS:P.types[t]? = some i:=by simpa using ht
   obtain h1 |h1:=OT P t;rw[h1,CS];rw[h1]at CS;cases CS
  simp only[ht]at h;unfold Program.underlying;rw[hi];obtain⟨desc,s1,s2,s3,s4,s5,s6,s7,s8,s9⟩:=i;cases desc with
  |named nm u=>
   simp only at h ⊢;rcases hu:P.types.toList[u]? with _|j;simp[hu]at h;have hj:P.info? u=some j:=by
    have HG:P.types[u]? = some j:=by simpa using hu
    obtain h1 |h1:=OT P u;rw[h1,HG];rw[h1]at HG;cases HG
   simp only[hu,zA]at h;rw[hj];simp[h]
  |_=>simpa using h
 inf t a b z h:=by
  simp only[EU,jT]at h;rcases ht:P.types.toList[t]? with _|i;simp[ht]at h;have hi:P.info? t=some i:=by
   have CS:P.types[t]? = some i:=by simpa using ht
   obtain h1 |h1:=OT P t;rw[h1,CS];rw[h1]at CS;cases CS
  simp only[ht]at h;rcases hz:i.zero with _|z';simp[hz]at h;simp only[hz]at h;rcases hp:plain z' with _|_;simp[hp]at h;simp only[hp,zC,zA,zB]at h;obtain⟨rfl,rfl,rfl⟩:=h;exact⟨hp,i,hi,rfl,rfl,hz⟩
 fn f g h:=by
  simp only[EU,jT]at h;have h':P.funcs[f]? = some g:=by simpa using h
  exact⟨h',hn g (zX h)⟩
 eqs t h:=by
  simp only[EU]at h;obtain⟨u,hu,e⟩:=any_eq_true.1 h;have:t=u:=by simpa[beq_eq]using e
  subst this;exact he t hu
 mixed:=hm
end Go.Rx
