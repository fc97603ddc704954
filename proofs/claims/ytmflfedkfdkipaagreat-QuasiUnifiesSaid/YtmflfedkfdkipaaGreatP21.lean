import Derived.Test.YtmflfedkfdkipaaGreatP20
set_option linter.all false
set_option maxRecDepth 20000
set_option maxHeartbeats 4000000
set_option synthInstance.maxSize 4000
set_option synthInstance.maxHeartbeats 200000
open List Go.IntKind
open Nat hiding beq_eq
namespace Go.Proofs
open Go Go.Rx Go.Vx
structure Hm(ws:X Nat)(L' L:X aK)(φ:Nat->Nat):Prop where
 lt:∀i,i<L'.length->φ i<L.length
 fw:∀(i:Nat)(c:aK)(a:aI),L'[i]? = some c->a∈c.E4->∃y b,L[φ i]? = some y/\b∈y.E4/\b.E2=a.E2/\b.To=(φ a.To.toNat:Int)
 bw:∀(i:Nat)(y:aK)(b:aI),i<L'.length->L[φ i]? = some y->b∈y.E4->∃(j:Nat)(c:aK)(a:aI),L'[j]? = some c/\φ j=φ i/\a∈c.E4/\b.E2=a.E2/\b.To=(φ a.To.toNat:Int)
 ty:∀(i:Nat)(y:aK),i<L'.length->L[φ i]? = some y->∀k:Nat,(eI ws y.R).testBit k=true↔∀(j:Nat)(c:aK),L'[j]? = some c->φ j=φ i->(eI ws c.R).testBit k=true
structure LG(ws:X Nat)(L:X aK):Prop where
 ds:∀c∈L,kC c.E4
 to:∀c∈L,∀a∈c.E4,0<=a.To/\a.To<(L.length:Int)
 ty:∀c∈L,0<=c.R/\c.R<(ws.length:Int)
def F7(q:Nat->Nat)(W:X (Nat×Nat)):Prop:=∀p∈W,q p.1=q p.2
structure UY(ws:X Nat)(L:X aK)(W:X (Nat×Nat))(I:Nat->Nat)(Q:az):Prop where
 hm:Hm ws L Q.D9 I
 K5:jP Q
 ty:∀(i:Nat)(y:aK),i<L.length->Q.D9[I i]? = some y->0<=y.R/\y.R<(ws.length:Int)
 eq:F7 I W
 low:∀q,oV L q->F7 q W->∀i j,i<L.length->j<L.length->I i=I j->q i=q j
structure UA(ws:X Nat)(L:X aK)(W:X (Nat×Nat))(r:Nat)(res:V az):Prop where
 no:res=none->∀q,oV L q->F7 q W->TH ws L q
 yes:∀f,res=some f->∃I Q,UY ws L W I Q/\f=cU Q ((I r:Nat):Int)
def QG.hm{f:X Nat}{L:X aK}{r:Nat->Nat}{g:az}(h:QG f L r g):Hm f L g.D9 r :=
 ⟨fun i d=>by rw[h.len];exact(h.rt i d).1,fun i c a d j=>h.gE i c a d j,fun i y b d e k=>by have:=h.snd (r i) y b e (h.rt i d).2 k;simpa[(h.rt i d).2]using this,fun i y d e=>(h.kd (r i) y e (h.rt i d).2).2⟩
section
variable{ws:X Nat}{L:X aK}{W:X (Nat×Nat)}
def UY.S1{I:Nat->Nat}{Q:az}(h:UY ws L W I Q):oV L I:=fun i j c e a b n o m k l t=>by
 have⟨y,x,d,g,r,s⟩:=h.hm.fw i c a n k;have⟨w,q,f,p,u,v⟩:=h.hm.fw j e b o l;rw[m,f]at d;cases d;have:=(h.K5 _<|zX f).X3.eq x g q p af;subst this;omega
def UY.mL{I:Nat->Nat}{Q:az}(e:∀w∈ws,w≠0)(h:UY ws L W I Q):¬ TH ws L I:=fun⟨i,a,c⟩=>by
 obtain⟨y,b⟩:=eU<|h.hm.lt i a;have d:=h.ty i y a b;obtain⟨k,f⟩:=Ht<|e _<|zX<|HQ d;have⟨j,x,q1,q2,q3⟩:=c k;have:=(h.hm.ty i y a b k).1 f j x q1 q2;rw[q3]at this;cases this
def UA.uniq(hn:ws.Nodup)(hw:∀w∈ws,w≠0)(hg:LG ws L){r:Nat}(hr:r<L.length){A l:V az}(h:UA ws L W r A)(P:UA ws L W r l):A=l:=by
 classical
 cases A with
 |none=>obtain _|f:=l;rfl;have⟨I,Q,u,_⟩:=P.yes f rfl;exact absurd (h.no rfl I u.S1 u.eq) (u.mL hw)
 |some f=>
  obtain⟨I,Q,u,rfl⟩:=h.yes f rfl;obtain _|f':=l;exact absurd (P.no rfl I u.S1 u.eq)<|u.mL hw;obtain⟨m,H,o,rfl⟩:=P.yes f' rfl;have J:∀i j,i<L.length->j<L.length->I i=I j->m i=m j:=u.low m o.S1 o.eq;have K:∀i j,i<L.length->j<L.length->m i=m j->I i=I j:=o.low I u.S1 u.eq
  let Z:Int->Int:=fun v=>if h:∃i,i<L.length/\v=(I i:Int)then(m h.choose:Int)else 0
  have t:∀i,i<L.length->Z (I i:Int)=(m i:Int):=fun i d=>by have tU:∃j,j<L.length/\(I i:Int)=(I j:Int):=⟨i,d,rfl⟩;show(if h:∃j,j<L.length/\(I i:Int)=(I j:Int)then(m h.choose:Int)else 0)=_;rw[dif_pos tU];have hc:=tU.choose_spec;rw[J i _ d hc.1 af]
  have R:∀i,i<L.length->∃y,Q.D9[I i]? = some y/\nd Q (I i:Int)=y:=fun i d=>by obtain⟨y,g⟩:=eU<|u.hm.lt i d;exact⟨y,g,by simp[nd,g]⟩
  have G:∀i,i<L.length->∃y,H.D9[m i]? = some y/\nd H (m i:Int)=y:=fun i d=>by obtain⟨y,g⟩:=eU<|o.hm.lt i d;exact⟨y,g,by simp[nd,g]⟩
  have iff_:∀i j,i<L.length->j<L.length->(I i=I j↔m i=m j):=fun i j d n=>⟨J i j d n,K i j d n⟩;have s:∀{j:Nat}{c:aK},L[j]? = some c->j<L.length:=fun h=>(zG.1 h).1;have B:∀{j:Nat}{c:aK}{a:aI},L[j]? = some c->a∈c.E4->a.To.toNat<L.length:=fun h ha=>by have:=hg.to _ (zX h) _ ha;omega
  have hS:tZ Q H Z (fun v=>∃i,i<L.length/\v=(I i:Int)):=by
   refine⟨?_,?_,?_,?_⟩;rintro v ⟨i,d,rfl⟩ b C;have⟨y,g,x⟩:=R i d;have C:=uZ.1 C;rw[x]at C;have⟨j,c,a,q1,q2,q3,q4,q5⟩:=u.hm.bw i y b d g C;exact⟨a.To.toNat,B q1 q3,q5⟩;rintro v w ⟨i,d,rfl⟩ ⟨j,n,rfl⟩ e;rw[t i d,t j n]at e;rw[K i j d n af];rintro v ⟨i,d,rfl⟩;have⟨y,g,x⟩:=R i d;have⟨O,D,p⟩:=G i d;rw[t i d,x,p];refine zbu hn (o.ty i O d D) (u.ty i y d g)<|qb7 fun k=>?_;rw[vg,o.hm.ty i O d D k,u.hm.ty i y d g k];exact⟨fun q j c n hr=>q j c n<|J j i (s n) d hr,fun q j c n hr=>q j c n<|K j i (s n) d hr⟩;rintro v ⟨i,d,rfl⟩;have⟨y,g,x⟩:=R i d;have⟨O,D,p⟩:=G i d;rw[t i d];have U:gO (P4 H (m i:Int)):=by rw[P4,p];exact QA (o.K5 _<|zX D).X3
   have Y:gO ((P4 Q (I i:Int)).map fun a=>(⟨a.E2,Z a.To⟩:aI)):=by
    have:gO (P4 Q (I i:Int)):=by rw[P4,x];exact QA (u.K5 _<|zX g).X3
    unfold gO at*;rw[fo];exact this
   refine qwj U Y fun b=>?_;rw[uZ,p,fA];constructor;intro C;have⟨j,c,a,q1,q2,q3,q4,q5⟩:=o.hm.bw i O b d D C;have T:=K j i (s q1) d q2;have⟨z,E,p1,S,M,N⟩:=u.hm.fw j c a q1 q3;rw[T,g]at p1;cases p1;refine⟨E,by rw[uZ,x];exact S,?_⟩;rw[N,t _<|B q1 q3,<-q5,M,<-q4];rintro⟨E,F,rfl⟩;rw[uZ,x]at F;have⟨j,c,a,q1,q2,q3,q4,q5⟩:=u.hm.bw i y E d g F;have T:=J j i (s q1) d q2;have⟨z,b3,p1,S,M,N⟩:=o.hm.fw j c a q1 q3;rw[T,D]at p1;cases p1;have:(⟨E.E2,Z E.To⟩:aI)=b3:=by rw[q5,t _<|B q1 q3];cases b3;simp[aI.mk.injEq];simp only at M N;exact⟨by rw[q4,M],N.symm⟩
   rw[this];exact S
  have i1:=u.hm.lt r hr;have i2:=o.hm.lt r hr;have:=(hS.canon u.K5 o.K5 (r:=(I r:Int)) ⟨by omega,by omega⟩ ⟨r,hr,rfl⟩ (by rw[t r hr];exact⟨by omega,by omega⟩)).2;rw[t r hr]at this;rw[this]
def UA.tr(hw:∀w∈ws,w≠0)(hg:LG ws L){g:X aK}{φ:Nat->Nat}(hm:Hm ws g L φ)(uK:LG ws g){R:X (Nat×Nat)}(O:∀q,oV g q->F7 q R->∀i j,i<g.length->j<g.length->φ i=φ j->q i=q j)
  (w1:∀I:Nat->Nat,F7 I W->∀p∈R,I (φ p.1)=I (φ p.2)) (w2:∀p∈W,∃x y,p=(φ x,φ y)/\x<g.length/\y<g.length/\∀q,oV g q->F7 q R->q x=q y) {r':Nat} (Gp:r'<g.length) {res:V az} (h:UA ws L W (φ r') res):UA ws g R r' res:=by
 classical
 have v:∀{j:Nat}{c:aK},g[j]? = some c->j<g.length:=fun h=>(zG.1 h).1;have C:∀{j:Nat}{c:aK}{a:aI},g[j]? = some c->a∈c.E4->a.To.toNat<g.length:=fun h N=>by have:=uK.to _ (zX h) _ N;omega
 let G:(Nat->Nat)->Nat->Nat:=fun q x=>if h:∃i,i<g.length/\x=φ i then 2*q h.choose else 2*x+1
 have E:∀q,oV g q->F7 q R->∀i,i<g.length->G q (φ i)=2*q i:=fun q m A i l=>by have tU:∃j,j<g.length/\φ i=φ j:=⟨i,l,rfl⟩;show(if h:∃j,j<g.length/\φ i=φ j then 2*q h.choose else 2*φ i+1)=_;rw[dif_pos tU];have Y:=tU.choose_spec;rw[O q m A _ _ l Y.1 Y.2]
 have S:∀q x,(¬ ∃i,i<g.length/\x=φ i)->G q x=2*x+1:=fun q x r=>by show(if h:∃j,j<g.length/\x=φ j then 2*q h.choose else 2*x+1)=_;rw[dif_neg r]
 have Y:∀q,oV g q->F7 q R->oV L (G q):=fun q m A x y c e a b r s t N M Z=>by
  by_cases D:∃i,i<g.length/\x=φ i;obtain⟨i,l,rfl⟩:=D;by_cases o:∃i,i<g.length/\y=φ i;obtain⟨j,n,rfl⟩:=o;rw[E q m A i l,E q m A j n]at t;have⟨i',P,a',p1,p2,T,p4,p5⟩:=hm.bw i c a l r N;have⟨J,d',b',B,F,H,k4,k5⟩:=hm.bw j e b n s M;have e1:=O q m A i' i (v p1) l p2;have e2:=O q m A J j (v B) n F;have:=m i' J P d' a' b' p1 B af T H af;rw[p5,k5,zZ,zZ,E q m A _<|C p1 T,E q m A _<|C B H,this];rw[E q m A i l,S q y o]at t;omega;by_cases o:∃i,i<g.length/\y=φ i;obtain⟨j,n,rfl⟩:=o;rw[E q m A j n,S q x D]at t;omega;rw[S q x D,S q y o]at t;have:x=y:=by omega
  subst this;rw[r]at s;cases s;rw[(hg.ds c<|zX r).eq a N b M Z]
 have A:∀q,oV g q->F7 q R->F7 (G q) W:=fun q m A p wo=>by obtain⟨x,y,rfl,r,s,nY⟩:=w2 p wo;show G q (φ x)=G q (φ y);rw[E q m A x r,E q m A y s,nY q m A]
 refine⟨fun AE q m K=>?_,fun f Z=>?_⟩;obtain⟨x,r,M⟩:=h.no AE _ (Y q m K)<|A q m K;by_cases D:∃i,i<g.length/\x=φ i;obtain⟨i,l,rfl⟩:=D;refine⟨i,l,fun k=>?_⟩;have⟨y,c,B,F,H⟩:=M k;rw[E q m K i l]at F;by_cases o:∃j,j<g.length/\y=φ j;obtain⟨j,n,rfl⟩:=o;rw[E q m K j n]at F;refine qj fun eW=>?_;have:=(hm.ty j c n B k).2 fun J P vW t=>by rcases U:(eI ws P.R).testBit k with _|_;exact absurd ⟨J,P,vW,by rw[O q m K J j (v vW) n t];omega,U⟩ eW;rfl
 rw[H]at this;cases this;rw[S q y o]at F;omega;have⟨c,I_⟩:=eU r;have hk:=hg.ty c<|zX I_;obtain⟨k,kY⟩:=Ht<|hw _<|zX<|HQ hk;have⟨y,e,B,F,H⟩:=M k;rw[S q x D]at F;by_cases o:∃j,j<g.length/\y=φ j;obtain⟨j,n,rfl⟩:=o;rw[E q m K j n]at F;omega;rw[S q y o]at F;have:y=x:=by omega
 subst this;rw[I_]at B;cases B;rw[kY]at H;cases H;obtain⟨I,Q,u,rfl⟩:=h.yes f Z;have cls:∀x y,x<L.length->y<L.length->I x=I y->(∃i,i<g.length/\x=φ i)->∃i,i<g.length/\y=φ i:=fun x y r s t hxi=>by
  have hq0:oV L (fun x=>if ∃i,i<g.length/\x=φ i then L.length else x):=fun x y c e a b r s t N M Z=>by have e0:(if ∃i,i<g.length/\x=φ i then L.length else x)=if ∃i,i<g.length/\y=φ i then L.length else y:=t;have I0:=(zG.1 r).1;have hyl:=(zG.1 s).1;show(if _ then _ else _)=if _ then _ else _;by_cases D:∃i,i<g.length/\x=φ i;by_cases o:∃i,i<g.length/\y=φ i;obtain⟨i,l,rfl⟩:=D;obtain⟨j,n,rfl⟩:=o;have⟨_,_,a',p1,_,T,_,p5⟩:=hm.bw i c a l r N;have⟨_,_,b',B,_,H,_,k5⟩:=hm.bw j e b n s M;rw[lr ⟨_,C p1 T,by rw[p5,zZ]⟩,lr ⟨_,C B H,by rw[k5,zZ]⟩];rw[lr D,hF o]at e0;omega;by_cases o:∃i,i<g.length/\y=φ i;rw[hF D,lr o]at e0;omega;rw[hF D,hF o]at e0;subst e0;rw[r]at s;cases s;rw[(hg.ds c<|zX r).eq a N b M Z]
  have:=u.low _ hq0 (fun p wo=>by obtain⟨x,y,rfl,r,s,_⟩:=w2 p wo;show(if _ then _ else _)=if _ then _ else _;rw[lr ⟨x,r,rfl⟩,lr ⟨y,s,rfl⟩]) x y r s t;have this:(if ∃i,i<g.length/\x=φ i then L.length else x)=if ∃i,i<g.length/\y=φ i then L.length else y:=this;by_cases o:∃i,i<g.length/\y=φ i;exact o;rw[lr hxi,hF o]at this;omega
 have inL:∀{j:Nat}{c:aK},L[j]? = some c->j<L.length:=fun h=>(zG.1 h).1;refine⟨fun i=>I<|φ i,Q,⟨⟨fun i l=>u.hm.lt _<|hm.lt i l,fun i c a l N=>?_,fun i y b l s M=>?_,fun i y l s k=>?_⟩,u.K5,fun i y l s=>u.ty _ y (hm.lt i l) s,fun p wo=>w1 I u.eq p wo,fun q m K i j l n t=>?_⟩,rfl⟩;have⟨y,b,D,o,h3,h4⟩:=hm.fw i c a l N;have⟨z,d,B,F,H,k4⟩:=u.hm.fw (φ i) y b D o;exact⟨z,d,B,F,by omega,by rw[k4,h4,zZ]⟩;have⟨x,c,a,p1,p2,T,p4,p5⟩:=u.hm.bw (φ i) y b (hm.lt i l) s M;obtain⟨j,n,rfl⟩:=cls _ _ (hm.lt i l) (inL p1) p2.symm ⟨i,l,rfl⟩;have⟨J,P,a',B,F,H,k4,k5⟩:=hm.bw j c a n p1 T;exact⟨J,P,a',B,by show I (φ J)=_;rw[F,p2],H,by omega,by rw[p5,k5,zZ]⟩;rw[u.hm.ty (φ i) y (hm.lt i l) s k];constructor;intro q j c n t;obtain⟨z,hz⟩:=eU<|hm.lt j<|v n;exact(hm.ty j z (v n) hz k).1 (q (φ j) z hz t) j c n rfl;intro q x c r t;obtain⟨j,n,rfl⟩:=cls _ _ (hm.lt i l) (inL r) t.symm ⟨i,l,rfl⟩;refine(hm.ty j c n r k).2 fun J P vW C9=>q J P vW ?_;show I (φ J)=_;rw[C9,t];have t:I (φ i)=I (φ j):=t;have:=u.low _ (Y q m K) (A q m K) _ _ (hm.lt i l) (hm.lt j n) t;rw[E q m K i l,E q m K j n]at this;omega
end
end Go.Proofs
namespace Go.Proofs
open Go Go.Rx Go.Vx Go.Shelf Go.Sort
inductive F6(f:az):Int->Int->Prop
 |one {u:Int} {a:aI}:a∈(nd f u).E4->F6 f u a.To
 |snoc {u v:Int} {a:aI}:F6 f u v->a∈(nd f v).E4->F6 f u a.To
def F6.trans{f:az}{u v w:Int}(h:F6 f u v)(h':F6 f v w):F6 f u w:=by induction h' with|one a=>exact .snoc h a|snoc _ a b=>exact .snoc b a
def BA(f:az)(s t:X Int):Prop:=∀t1 u t2,t=t1++u::t2->∃w∈s++t1,∃a∈(nd f w).E4,a.To=u
def BA.nil(f:az)(s:X Int):BA f s []:=fun t1 u t2 h=>by simp at h
def BA.cons{f:az}{s t:X Int}{x:Int}(c:∃w∈s,∃a∈(nd f w).E4,a.To=x)(h:BA f (s++[x]) t):BA f s (x::t):=fun t1 u t2 e=>by
 cases t1 with
 |nil=>simp[X0,List.cons.injEq]at e;obtain⟨rfl,rfl⟩:=e;simpa using c
 |cons y t1=>simp[Zg,List.cons.injEq]at e;obtain⟨rfl,rfl⟩:=e;have⟨w,b,g⟩:=h t1 u t2 rfl;exact⟨w,by simpa using b,g⟩
def BA.app{f:az}:∀{t s a:X Int},BA f s t->BA f (s++t) a->BA f s (t++a)
 |[],s,a,_,b=>by simpa using b
 |x::t,s,a,h,b=>by have c:=h [] x t rfl;rw[Px]at c;refine BA.cons c (BA.app (t:=t) (fun t1 u t2 e=>?_)<|by simpa using b);have⟨w,d,g⟩:=h (x::t1) u t2 (by rw[e];rfl);exact⟨w,by simpa using d,g⟩
def z1u{f:az}(j:jP f):∀(k:Nat)(o:X Int)(v:Int),Seen f o->gD f v->v ∉ o->f.D9.length-o.length<=k->
  ∃t,L5 f k o v=o++v::t/\BA f (o++[v]) t/\∀u∈t,F6 f v u
 |0,o,v,p,i,m,B=>by have c:=(p.snoc i m).len;simp[zU,zO,zS]at c;omega
 |k+1,o,v,p,i,m,B=>by
  have x:=p.snoc i m;have C:=x.len;simp[zU,zO,zS]at C;have key:∀(l:X aI),(∀a∈l,a∈(nd f v).E4/\gD f a.To)->∀(t0:X Int),Seen f (o++v::t0)->BA f (o++[v]) t0->(∀u∈t0,F6 f v u)->
    ∃t,l.foldl (jT<|L5 f k) (o++v::t0)=o++v::t/\BA f (o++[v]) t/\∀u∈t,F6 f v u:=by
   intro l;induction l with
   |nil=>intro _ t0 _ c h;exact⟨t0,rfl,c,h⟩|cons a l s=>
    intro r t0 n c h;have g:=r a aZ;have w:=fun b A=>r b<|lu a A;simp[py];by_cases hm:a.To∈o++v::t0;have e:jT (L5 f k) (o++v::t0) a=o++v::t0:=by simp[jT,hm,It]
    rw[e];exact s w t0 n c h;have e:jT (L5 f k) (o++v::t0) a=L5 f k (o++v::t0) a.To:=by simp[jT,hm,MF]
    have D:(o++v::t0).length=o.length+1+t0.length:=by simp;omega
    have⟨t1,d1,d2,d3⟩:=z1u j k (o++v::t0) a.To n g.2 hm af;have⟨q1,_⟩:=Mc j k (o++v::t0) a.To n g.2 hm af;rw[e,d1];rw[d1]at q1;have y:o++v::t0++a.To::t1=o++v::(t0++a.To::t1):=by simp
    rw[y]at q1 ⊢;refine s w (t0++a.To::t1) q1 (c.app<|BA.cons ⟨v,by simp,a,g.1,rfl⟩<|by simpa using d2) fun u d=>?_;obtain d |d:=yD.1 d
    exact h u d;obtain rfl |d:=zI.1 d;exact .one g.1;exact(F6.one g.1).trans (d3 u d)
  have⟨t,g1,g2,z⟩:=key (P4 f v) (fun a q=>⟨uZ.1 q,by have c:=(j _ (vN i).2).L2 a (uZ.1 q);exact⟨c.2.1,c.2.2⟩⟩) [] x (BA.nil _ _) aZ;exact⟨t,g1,g2,z⟩
def z8e{f:az}(d:jP f){r:Int}(e:gD f r):∃t,bT f r=r::t/\BA f [r] t/\∀u∈t,F6 f r u:=by have⟨t,a,b,c⟩:=z1u d f.D9.length [] r (Seen.nil f) e aZ aZ;exact⟨t,a,b,c⟩
end Go.Proofs
namespace Go.Proofs
open Go Go.Rx Go.Vx
def Lj(f g:az):X aK:=f.D9++g.D9.map (E5 f.D9.length)
def Q8(f g:az):(Lj f g).length=f.D9.length+g.D9.length:=by simp[Lj]
variable{f:az}{g:az}{i:Nat}
def TO(h:i<f.D9.length):(Lj f g)[i]? = f.D9[i]?:=by rw[Lj,mc h]
def GU:(Lj f g)[f.D9.length+i]? = (g.D9[i]?).map (E5 f.D9.length):=by rw[Lj,mu af,qi,me]
variable{v:Int}
def V0{o:X Int}(k:o.Nodup)(h:o[i]? = some v):o.idxOf v=i:=by have⟨b,c⟩:=zG.1 h;have hm:v∈o:=c ▸ jh b;have a:=idxOf_lt_length_iff.2 hm;have d:=Gb a;have j:=pairwise_iff_getElem.1 k;obtain e |e |e:=Nat.lt_trichotomy (o.idxOf v) i;exact absurd (d.trans c.symm)<|j _ _ a b e;exact e;exact absurd (c.trans d.symm) (j _ _ b a e)
def F6.rc{u:Int}(h:F6 f u v):Rc f u v:=by induction h with|one a=>exact(Rc.refl f _).snoc a|snoc _ a b=>exact b.snoc a
def gu(b:jP f){r:Int}(c:gD f r):∀v∈bT f r,Rc f r v:=fun v a=>by
 have⟨t,e,_,h⟩:=z8e b c;rw[e]at a;obtain rfl |a:=zI.1 a;exact Rc.refl f _;exact(h v a).rc
structure ut(g:az)(r:Int):Prop where
 nd:(bT g r).Nodup
 U0:∀v∈bT g r,gD g v
 hd:(bT g r)[0]? = some r
 pos:0<(bT g r).length
 at_:∀(i:Nat)(v:Int),(bT g r)[i]? = some v->(cU g r).D9[i]? = some (jX g (bT g r) v)
 S1:∀v∈bT g r,∀a∈(Go.Proofs.nd g v).E4,a.To∈bT g r
 L2:∀v∈bT g r,∀a,a∈(jX g (bT g r) v).E4↔∃b∈(Go.Proofs.nd g v).E4,a=⟨b.E2,((bT g r).idxOf b.To:Int)⟩
def sk(e:jP g){r:Int}(k:gD g r):ut g r:=by have⟨o,_⟩:=JK e k;have⟨t,d⟩:=o.head;refine⟨o.seen.nd,o.seen.U0,by rw[d];rfl,by rw[d];simp,fun i v h=>by simp[cU,h],o.S1,fun v j a=>?_⟩;simp[jX,fA];constructor;rintro⟨b,c,rfl⟩;exact⟨b,uZ.1 c,rfl⟩;rintro⟨b,c,rfl⟩;exact⟨b,uZ.2 c,rfl⟩
def za1{L:X aK}{q:Nat->Nat}(z:oV L q)(t:∀(j:Nat)(c:aK)(a:aI),L[j]? = some c->a∈c.E4->0<=a.To/\a.To<(L.length:Int)){s:Int}{p:X Int}(h:Wk ⟨L⟩ v p s):∀{w k:Int},(0<=v/\v<(L.length:Int))->(0<=w/\w<(L.length:Int))->Wk ⟨L⟩ w p k->q v.toNat=q w.toNat->q s.toNat=q k.toNat:=by
 induction h with
 |nil v=>intro w k _ _ h e;cases h;exact e| @cons v s a p m D A=>
  intro w k C E h e;have⟨b,n,y,B⟩:=h.inv rfl;have⟨c,o⟩:=eU (l:=L) (i:=v.toNat) af;have⟨d,r⟩:=eU (l:=L) (i:=w.toNat) af;have u:nd ⟨L⟩ v=c:=by simp[nd,o]
  have x:nd ⟨L⟩ w=d:=by simp[nd,r]
  rw[u]at m;rw[x]at n;exact A (t _ c a o m) (t _ d b r n) B (z _ _ c d a b o r e m n y.symm)
def KG(a:X Nat)(f:az):Prop:=∀x∈f.D9,0<=x.R/\x.R<(a.length:Int)
def UM{ws:X Nat}(n:jP f)(o:jP g)(k:KG ws f)(l:KG ws g):LG ws (Lj f g):=by
 have key:∀c∈Lj f g,kC c.E4/\(∀a∈c.E4,0<=a.To/\a.To<((Lj f g).length:Int))/\0<=c.R/\c.R<(ws.length:Int):=fun c d=>by rw[Q8];obtain d |d:=yD.1 d;have:=n c d;exact⟨this.X3,fun a e=>by have:=this.L2 a e;omega,k c d⟩;obtain⟨x,j,rfl⟩:=mem_map.1 d;have:=o x j;refine⟨?_,fun a e=>?_,l x j⟩;have h:=this.X3;unfold kC at h ⊢;simp[E5];rw[fo];exact h;obtain⟨b,m,rfl⟩:=mem_map.1 e;have:=this.L2 b m;simp[mB];omega
 exact⟨fun c d=>(key c d).1,fun c d=>(key c d).2.1,fun c d=>(key c d).2.2⟩
def MN.ua{m:X Nat}{L:X aK}{b d:Nat}{j:V az}(h:MN m L b d j):UA m L [(b,d)] b j:=by have l:∀q:Nat->Nat,F7 q [(b,d)]->q b=q d:=fun q c=>c (b,d) aZ;refine⟨fun e q c a=>h.no e q c<|l q a,fun f e=>?_⟩;obtain⟨k,Q,u,rfl⟩:=h.yes f e;exact⟨k,Q,⟨u.qg.hm,u.K5,fun i y n o=>(u.qg.kd (k i) y o (u.qg.rt i n).2).1,fun p a=>by simp at a;subst a;exact u.eq,fun q c a=>u.low q c<|l q a⟩,rfl⟩
section
variable{ws:X Nat}{N:X PN}{f g:Nat}
def D4(o1 a:X Int)(i:Nat):Nat:=if i<o1.length then((o1[i]?).getD 0).toNat else((a[i-o1.length]?).getD 0).toNat
def Le{a b:X Int}(h:a[i]? = some v):D4 a b i=v.toNat:=by rw[D4,lr (zG.1 h).1,h];rfl
def Ld{o1 a:X Int}(h:a[i]? = some v):D4 o1 a (o1.length+i)=v.toNat:=by rw[D4,hF af,qi,h];rfl
def z4h(co:CO N)(hk:∀x∈N,0<=x.kind/\x.kind<(ws.length:Int))(hw:∀w∈ws,w≠0)(I3:f<N.length)(Gn:g<N.length)(shr:∀x:Nat,Rc (core N) f x->Rc (core N) g x->∃p,Wk (core N) f p x/\Wk (core N) g p x){R:V az}(h:MN ws (core N).D9 f g R):
  UA ws (Lj (cU (core N) f)<|cU (core N) g) [(0,(cU (core N) f).D9.length)] 0 R:=by
 have G:=co.K5;have iL:=jH N;have ia:gD (core N) (f:Int):=⟨by omega,by omega⟩;have ib:gD (core N) (g:Int):=⟨by omega,by omega⟩;have A:=sk G ia;have B:=sk G ib;have CA:=Cc G ia;have CB:=Cc G ib;have la:(cU (core N) f).D9.length=(bT (core N) f).length:=CA.len;have lb:(cU (core N) g).D9.length=(bT (core N) g).length:=CB.len;have Q:∀v,gD (core N) v->0<=(nd (core N) v).R/\(nd (core N) v).R<(ws.length:Int):=fun v m=>by have⟨x,F,e⟩:=mem_map.1 (vN m).2;rw[<-e];exact hk x F
 have ka:KG ws (cU (core N) f):=fun x F=>by simp only[cU]at F;obtain⟨v,m,rfl⟩:=mem_map.1 F;exact Q v (A.U0 v m)
 have kb:KG ws (cU (core N) g):=fun x F=>by simp only[cU]at F;obtain⟨v,m,rfl⟩:=mem_map.1 F;exact Q v (B.U0 v m)
 have hlg:LG ws (core N).D9:=⟨fun c P=>(G c P).X3,fun c P a r=>((G c P).L2 a r).2,fun c P=>by obtain⟨x,F,rfl⟩:=mem_map.1 P;exact hk x F⟩;have OR:=UM (ws:=ws) CA.ok CB.ok ka kb;have j0:(Lj (cU (core N) f)<|cU (core N) g).length=(bT (core N) f).length+(bT (core N) g).length:=by rw[Q8,la,lb]
 have lJ:∀(j:Nat)(c:aK)(a:aI),(Lj (cU (core N) f)<|cU (core N) g)[j]? = some c->a∈c.E4->0<=a.To/\a.To<((Lj (cU (core N) f)<|cU (core N) g).length:Int):=fun j c a J r=>OR.to c (zX J) a r;have at_:∀i,i<(bT (core N) f).length+(bT (core N) g).length->∃(v:Int)(c:aK),gD (core N) v/\D4 (bT (core N) f) (bT (core N) g) i=v.toNat/\(Lj (cU (core N) f)<|cU (core N) g)[i]? = some c/\c.R=(nd (core N) v).R/\
   (∀a∈c.E4,∃b∈(nd (core N) v).E4,a.E2=b.E2/\b.To=(D4 (bT (core N) f) (bT (core N) g) a.To.toNat:Int))/\(∀b∈(nd (core N) v).E4,∃a∈c.E4,a.E2=b.E2/\b.To=(D4 (bT (core N) f) (bT (core N) g) a.To.toNat:Int)):=fun i C=>by
  by_cases n:i<(bT (core N) f).length;have⟨v,m⟩:=eU n;have t:=zX m;have key:∀b∈(nd (core N) v).E4,b.To=(D4 (bT (core N) f) (bT (core N) g) ((((bT (core N) f).idxOf b.To:Nat):Int)).toNat:Int):=fun b o=>by have hm:=A.S1 v t b o;have:=(A.U0 _ hm).1;rw[zZ,Le<|Cm hm];omega
  refine⟨v,jX (core N) (bT (core N) f) v,A.U0 v t,Le m,by rw[TO af];exact A.at_ i v m,rfl,fun a r=>?_,fun b o=>?_⟩;obtain⟨b,o,rfl⟩:=(A.L2 v t a).1 r;exact⟨b,o,rfl,key b o⟩;exact⟨_,(A.L2 v t _).2 ⟨b,o,rfl⟩,rfl,key b o⟩;have⟨v,m⟩:=eU (l:=bT (core N) g) (i:=i-(bT (core N) f).length) af;have t:=zX m;have K:i=(bT (core N) f).length+(i-(bT (core N) f).length):=by omega
  have key:∀b∈(nd (core N) v).E4,b.To=(D4 (bT (core N) f) (bT (core N) g) ((((bT (core N) g).idxOf b.To:Nat):Int)+((cU (core N) f).D9.length:Int)).toNat:Int):=fun b o=>by have hm:=B.S1 v t b o;have:=(B.U0 _ hm).1;rw[show((((bT (core N) g).idxOf b.To:Nat):Int)+((cU (core N) f).D9.length:Int)).toNat=(bT (core N) f).length+(bT (core N) g).idxOf b.To by omega,Ld<|Cm hm];omega
  refine⟨v,E5 (cU (core N) f).D9.length (jX (core N) (bT (core N) g) v),B.U0 v t,by rw[K];exact Ld m,by rw[K,<-la,GU,la,B.at_ _ v m];rfl,rfl,fun a r=>?_,fun b o=>?_⟩;obtain⟨a0,xN,rfl⟩:=mem_map.1 r;obtain⟨b,o,rfl⟩:=(B.L2 v t a0).1 xN;exact⟨b,o,rfl,key b o⟩;exact⟨_,X1<|(B.L2 v t _).2 ⟨b,o,rfl⟩,rfl,key b o⟩
 have inl:∀{j:Nat}{c:aK},(Lj (cU (core N) f)<|cU (core N) g)[j]? = some c->j<(bT (core N) f).length+(bT (core N) g).length:=fun h=>by have:=(zG.1 h).1;omega
 have H:∀(v:Int)(y:aK),gD (core N) v->(core N).D9[v.toNat]? = some y->y=nd (core N) v:=fun v y m E=>by simp[nd,E]
 have hm:Hm ws (Lj (cU (core N) f)<|cU (core N) g) (core N).D9 (D4 (bT (core N) f)<|bT (core N) g):=by
  refine⟨fun i C=>?_,fun i c a C r=>?_,fun i y b C E o=>?_,fun i y C E k=>?_⟩;have⟨v,c,n,s,_⟩:=at_ i af;rw[s];have:=n.1;have:=n.2;omega;obtain⟨v,c',n,s,M,h4,h5,h6⟩:=at_ i<|inl C;rw[C]at M;cases M;have⟨b,o,U,Y⟩:=h5 a r;have:=n.1;have:=n.2;have⟨y,E⟩:=eU (l:=(core N).D9) (i:=v.toNat) af;have e:=H v y n E;exact⟨y,b,by rw[s];exact E,by rw[e];exact o,U.symm,Y⟩;have⟨v,c,n,s,M,h4,h5,h6⟩:=at_ i af;rw[s]at E;rw[H v y n E]at o;have⟨a,r,U,Y⟩:=h6 b o;exact⟨i,c,a,M,rfl,r,U.symm,Y⟩;have⟨v,c,n,s,M,h4,_⟩:=at_ i af;rw[s]at E;rw[H v y n E];constructor;intro q j d J z;obtain⟨v',d',S,T,k3,k4,_⟩:=at_ j<|inl J;rw[J]at k3;cases k3;have:v'=v:=by rw[s,T]at z;have:=n.1;have:=S.1;omega
  rw[k4,this];exact q;intro q;rw[<-h4];exact q i c M rfl
 have wl:∀{v w:Int}{p:X Int},Wk (core N) v p w->v∈bT (core N) f->w∈bT (core N) f/\Wk ⟨Lj (cU (core N) f)<|cU (core N) g⟩ ((bT (core N) f).idxOf v:Int) p ((bT (core N) f).idxOf w:Int):=fun{v w p} h=>by
  induction h with
  |nil v=>intro m;exact⟨m,.nil _⟩| @cons v w a p r hw ih=>
   intro m;obtain⟨n,s⟩:=ih<|A.S1 v m a r;refine⟨n,Wk.cons (a:=⟨a.E2,((bT (core N) f).idxOf a.To:Int)⟩) ?_ s⟩;have C:=idxOf_lt_length_iff.2 m;have:(Lj (cU (core N) f)<|cU (core N) g)[(bT (core N) f).idxOf v]? = some (jX (core N) (bT (core N) f) v):=by rw[TO af];exact A.at_ _ v (Cm m)
   rw[nd,zZ];simp[this,jf];exact(A.L2 v m _).2 ⟨a,r,rfl⟩
 have wr:∀{v w:Int}{p:X Int},Wk (core N) v p w->v∈bT (core N) g->w∈bT (core N) g/\Wk ⟨Lj (cU (core N) f)<|cU (core N) g⟩ ((bT (core N) g).idxOf v+(cU (core N) f).D9.length:Int) p ((bT (core N) g).idxOf w+(cU (core N) f).D9.length:Int):=fun{v w p} h=>by
  induction h with
  |nil v=>intro m;exact⟨m,.nil _⟩| @cons v w a p r hw ih=>
   intro m;obtain⟨n,s⟩:=ih<|B.S1 v m a r;refine⟨n,Wk.cons (a:=mB (cU (core N) f).D9.length ⟨a.E2,((bT (core N) g).idxOf a.To:Int)⟩) ?_ s⟩;have:(Lj (cU (core N) f)<|cU (core N) g)[(cU (core N) f).D9.length+(bT (core N) g).idxOf v]? = some (E5 (cU (core N) f).D9.length (jX (core N) (bT (core N) g) v)):=by rw[GU,B.at_ _ v<|Cm m];rfl
   rw[nd,show((bT (core N) g).idxOf v+(cU (core N) f).D9.length:Int).toNat=(cU (core N) f).D9.length+(bT (core N) g).idxOf v by omega];simp[this,jf];exact X1 ((B.L2 v m _).2 ⟨a,r,rfl⟩)
 have za:(bT (core N) f).idxOf (f:Int)=0:=V0 A.nd A.hd;have zb:(bT (core N) g).idxOf (g:Int)=0:=V0 B.nd B.hd;have ma:(f:Int)∈bT (core N) f:=zX A.hd;have mb:(g:Int)∈bT (core N) g:=zX B.hd;have p0:D4 (bT (core N) f) (bT (core N) g) 0=f:=by rw[Le A.hd];omega
 have p1:D4 (bT (core N) f) (bT (core N) g) (cU (core N) f).D9.length=g:=by have:=Ld (o1:=bT (core N) f) B.hd;rw[eT]at this;rw[la,this];omega
 have two:∀q,oV (Lj (cU (core N) f)<|cU (core N) g) q->F7 q [(0,(cU (core N) f).D9.length)]->∀i j,i<(bT (core N) f).length->j<(bT (core N) g).length->D4 (bT (core N) f) (bT (core N) g) i=D4 (bT (core N) f) (bT (core N) g) ((bT (core N) f).length+j)->q i=q ((bT (core N) f).length+j):=fun q O D i j C J z=>by
  have⟨v,m⟩:=eU C;have⟨w,u⟩:=eU J;have t:=zX m;have C4:=zX u;rw[Le m,Ld u]at z;have v0:=(A.U0 v t).1;have w0:=(B.U0 w C4).1;have e:v=w:=by omega
  subst e;have r1:=gu G ia v t;have r2:=gu G ib v C4;have ev:((v.toNat:Nat):Int)=v:=by omega
  have⟨p,S,T⟩:=shr v.toNat (by rw[ev];exact r1) (by rw[ev];exact r2);rw[ev]at S T;have g1:=(wl S ma).2;have g2:=(wr T mb).2;have:=za1 O lJ g1 (by rw[za];have:=A.pos;omega) (by rw[zb];have:=B.pos;omega) g2 (by rw[za,zb];have:=D (0,(cU (core N) f).D9.length) aZ;simpa using this);rw[V0 A.nd m,V0 B.nd u,la]at this;rw[show((j:Int)+((bT (core N) f).length:Int)).toNat=(bT (core N) f).length+j by omega,zZ]at this;exact this
 refine UA.tr (L:=(core N).D9) (W:=[(f,g)]) (φ:=D4 (bT (core N) f)<|bT (core N) g) hw hlg hm OR (fun q O D i j C J z=>?_) (fun I kJ p D=>?_) (fun p D=>?_) (by have:=A.pos;omega) (by rw[p0];exact h.ua);by_cases n:i<(bT (core N) f).length<;>by_cases s:j<(bT (core N) f).length;have⟨v,m⟩:=eU n;have⟨w,u⟩:=eU s;rw[Le m,Le u]at z;have v0:=(A.U0 v<|zX m).1;have w0:=(A.U0 w<|zX u).1;have e:v=w:=by omega
 subst e;rw[<-V0 A.nd m,<-V0 A.nd u];have Z:j=(bT (core N) f).length+(j-(bT (core N) f).length):=by omega
 rw[Z]at z ⊢;exact two q O D i _ n af z;have K:i=(bT (core N) f).length+(i-(bT (core N) f).length):=by omega
 rw[K]at z ⊢;exact(two q O D j _ s af z.symm).symm;have K:i=(bT (core N) f).length+(i-(bT (core N) f).length):=by omega
 have Z:j=(bT (core N) f).length+(j-(bT (core N) f).length):=by omega
 have⟨v,m⟩:=eU (l:=bT (core N) g) (i:=i-(bT (core N) f).length) af;have⟨w,u⟩:=eU (l:=bT (core N) g) (i:=j-(bT (core N) f).length) af;rw[K,Z,Ld m,Ld u]at z;have v0:=(B.U0 v<|zX m).1;have w0:=(B.U0 w<|zX u).1;have e:v=w:=by omega
 subst e;have g1:=V0 B.nd m;have g2:=V0 B.nd u;rw[show i=j by omega];simp at D;subst D;rw[p0,p1];exact kJ (f,g) aZ;simp at D;subst D;exact⟨0,(cU (core N) f).D9.length,by rw[p0,p1],by have:=A.pos;omega,by have:=B.pos;omega,fun q _ O=>O (0,(cU (core N) f).D9.length) aZ⟩
end
def All(f:az):Prop:=∀i:Nat,i<f.D9.length->Rc f 0 (i:Int)
variable{f:az}
def Kl(a:jP f)(j:0<f.D9.length)(e:cU f 0=f):All f:=fun i k=>by
 have c:gD f 0:=⟨pn _,by omega⟩;have C:=Cc a c;have o:=(JK a c).1;rw[e]at C;have l:=C.len;refine gu a c _<|qj fun d=>?_;have h:((i:Int)::bT f 0).Nodup:=nodup_cons.2 ⟨d,o.seen.nd⟩;have:=Ww f.D9.length h fun v b=>by obtain rfl |b:=zI.1 b;omega;exact o.seen.U0 v b
 simp[zO]at this;omega
section
variable{ws:X Nat}
structure px(ws:X Nat)(f:az):Prop where
 K5:jP f
 kg:KG ws f
 ne:0<f.D9.length
 can:cU f 0=f
def px.to(h:px ws f):∀(i:Nat)(c:aK)(a:aI),f.D9[i]? = some c->a∈c.E4->0<=a.To/\a.To<(f.D9.length:Int):=fun i c a d b=>((h.K5 c<|zX d).L2 a b).2
def qc{g:az}(e:jP f){v w:Int}{p:X Int}(h:Wk f v p w):gD f v->Wk ⟨Lj f g⟩ v p w:=by induction h with|nil v=>intro _;exact .nil _| @cons v w a p b m j=>intro c;have d:=(e _ (vN c).2).L2 a b;have k:=c.1;have l:=c.2;refine Wk.cons (a:=a) ?_<|j ⟨d.2.1,d.2.2⟩;simp[nd]at b ⊢;rw[TO af];exact b
def qb{g:az}(k:jP g){v w:Int}{p:X Int}(h:Wk g v p w):gD g v->Wk ⟨Lj f g⟩ (v+(f.D9.length:Int)) p (w+(f.D9.length:Int)):=by
 induction h with
 |nil v=>intro _;exact .nil _| @cons v w a p b q m=>
  intro c;have d:=(k _ (vN c).2).L2 a b;have n:=c.1;have o:=c.2;refine Wk.cons (a:=mB f.D9.length a) ?_<|m ⟨d.2.1,d.2.2⟩;have⟨x,j⟩:=eU (l:=g.D9) (i:=v.toNat) af;have e:nd g v=x:=by simp[nd,j]
  rw[e]at b;rw[nd,show(v+(f.D9.length:Int)).toNat=f.D9.length+v.toNat by omega];simp[GU,j,zM,jf];exact X1 b
def zdo(m:px ws f):UA ws (Lj f f) [(0,f.D9.length)] 0 (some f):=by
 have M:=Q8 f f;have F:=m.to;have J:∀{i:Nat}{c:aK},(Lj f f)[i]? = some c->(i<f.D9.length/\f.D9[i]? = some c)\/∃t x,i=f.D9.length+t/\f.D9[t]? = some x/\c=E5 f.D9.length x:=fun{i c} d=>by have C:=(zG.1 d).1;by_cases s:i<f.D9.length;rw[TO s]at d;exact .inl ⟨s,d⟩;have⟨x,u⟩:=eU (l:=f.D9) (i:=i-f.D9.length) af;have:=GU (f:=f) (g:=f) (i:=i-f.D9.length);rw[show f.D9.length+(i-f.D9.length)=i by omega,d,u]at this;exact .inr ⟨_,x,by omega,u,Option.some.inj this⟩
 let I:Nat->Nat:=fun i=>if i<f.D9.length then i else i-f.D9.length
 have r:∀i,i<f.D9.length->I i=i:=fun i d=>lr d;have w:∀i,I (f.D9.length+i)=i:=fun i=>by show(if _ then _ else _)=_;rw[hF af];omega
 have n:∀i,i<(Lj f f).length->I i<f.D9.length:=fun i d=>by rw[M]at d;obtain h |h:=Zd i f.D9.length;rw[r i h];exact h;rw[show i=f.D9.length+(i-f.D9.length) by omega,w];omega
 refine⟨nofun,fun g e=>?_⟩;cases e;refine⟨I,f,⟨⟨n,fun i c a d z=>?_,fun i y b d o A=>?_,fun i y d o k=>⟨fun q j c B e=>?_,fun q=>q (I i) y (by rw[TO<|n i d];exact o)<|r _<|n i d⟩⟩,m.K5,fun i y d o=>m.kg y<|zX o,fun p D=>?_,fun q N D i j d B e=>?_⟩,by rw[r 0 m.ne];exact m.can.symm⟩;obtain⟨C,s⟩|⟨t,x,rfl,u,rfl⟩:=J d;have:=F i c a s z;exact⟨c,a,by rw[r i C];exact s,z,rfl,by rw[r _ af];omega⟩;obtain⟨b,A,rfl⟩:=mem_map.1 z;have:=F t x b u A;refine⟨x,b,by rw[w];exact u,A,rfl,?_⟩;simp[mB];rw[show(b.To+(f.D9.length:Int)).toNat=f.D9.length+b.To.toNat by omega,w];omega;have:=F _ y b o A;exact⟨I i,y,b,by rw[TO<|n i d];exact o,r _<|n i d,A,rfl,by rw[r _ af];omega⟩;obtain⟨C,s⟩|⟨t,x,rfl,u,rfl⟩:=J B;rw[<-e,r j C,s]at o;cases o;exact q;rw[<-e,w,u]at o;cases o;exact q;simp at D;subst D;show I 0=I f.D9.length;have:=w 0;rw[eT]at this;rw[r 0 m.ne,this];have L:q 0=q f.D9.length:=D (0,f.D9.length) aZ;have E:=UM m.K5 m.K5 m.kg m.kg;have key:∀i,i<(Lj f f).length->q i=q (I i):=fun i d=>by
  by_cases h:i<f.D9.length;rw[r i h];have K:i=f.D9.length+(i-f.D9.length):=by omega
  rw[K,w];have H:gD f 0:=⟨pn _,by have:=m.ne;omega⟩;have⟨p,G⟩:=Kl m.K5 m.ne m.can (i-f.D9.length) af;have O:=qc (g:=f) m.K5 G H;have P:=qb (f:=f) m.K5 G H;have:=za1 N (fun j c a B z=>E.to c (zX B) a z) O ⟨pn _,by omega⟩ ⟨by omega,by have:=m.ne;omega⟩ P (by simpa using L);rw[zZ,show(((i-f.D9.length:Nat):Int)+(f.D9.length:Int)).toNat=f.D9.length+(i-f.D9.length) by omega]at this;exact this.symm
 rw[key i d,key j B,e]
end
section
variable{H:cR}{ws:X Nat}{P:PP}{fs:X az}
def z9e{l:X aI}(c:kC l)(h:∀a∈l,0<=a.E2/\a.E2<1000):l.length<=1000:=by
 have:=Pw (R:=fun(i:Nat) (x:Int)=>x=(i:Int)) (fun i x y e j=>af) (List.range 1000) (l.map aI.E2) (by
  unfold Nodup;rw[fo];exact c) fun x d=>by
  obtain⟨a,b,rfl⟩:=mem_map.1 d;have:=h a b;exact⟨a.E2.toNat,mem_range.2 af,by omega⟩
 simpa using this
structure uf(ws:X Nat)(z e:Nat)(f:az):Prop where
 ok:px ws f
 nl:f.D9.length<=z
 al:∀x∈f.D9,x.E4.length<=1000
 ft:∀x∈f.D9,∀a∈x.E4,a.E2<1000
variable{f:az}
def xR.rd{v10:X (X Int)}{E:X Kq}{T:Nat}(p:xR H ws P fs v10 E T){k:Nat}(h:fs[k]? = some f):uf ws v10.length E.length f:=by
 obtain⟨r,l,s,rfl⟩:=p.has.at_ k f h;have co:=p.has.co;have D:gD (core P.N) (r:Int):=⟨by omega,by rw[jH];omega⟩;have C:=Cc co.K5 D;have A:=sk co.K5 D;have o:=zX l;have c:∀x∈(cU (core P.N) r).D9,(0<=x.R/\x.R<(ws.length:Int))/\kC x.E4/\∀a∈x.E4,0<=a.E2/\a.E2<1000:=fun x d=>by
  refine⟨?_,(C.ok x d).X3,fun a m=>?_⟩
  all_goals
   simp only[cU]at d;obtain⟨v,j,rfl⟩:=mem_map.1 d;have⟨y,u,e⟩:=mem_map.1 (vN<|A.U0 v j).2
  rw[show(jX (core P.N) (bT (core P.N) r) v).R=(nd (core P.N) v).R from rfl,<-e];exact p.kr y u;obtain⟨b,t,rfl⟩:=(A.L2 v j a).1 m;rw[<-e]at t;obtain⟨a0,n,rfl⟩:=mem_map.1 t;exact p.ft y u a0 n
 refine⟨⟨C.ok,fun x d=>(c x d).1,C.pos,(qzm co.K5 D).1⟩,?_,fun x d=>z9e (c x d).2.1 (c x d).2.2,fun x d a m=>((c x d).2.2 a m).2⟩;rw[C.len];refine Pw (R:=fun(q:X Int) (v:Int)=>Wk (core P.N) (r:Int) q v) (fun q v w l s=>Wk.C_ co.K5 s D l) v10 _ A.nd fun v j=>?_;have B:=(A.U0 v j).1;have e:((v.toNat:Nat):Int)=v:=by omega
 have:=gu co.K5 D v j;rw[<-e]at this;have⟨q,z,w⟩:=p.p7 r o v.toNat this;exact⟨q,z,by rw[e]at w;exact w⟩
structure PB(H:cR)(ws:X Nat)(P:PP)(fs:X az)(z e j:Nat):Prop where
 ex:∃v10 E T,xR H ws P fs v10 E T/\v10.length<=z/\E.length<=e/\T<=1152*j
 gen:P.gen<=(j:Int)+1
 nl:P.N.length<=96*j
 rl:fs.length<=j
def PB.new:PB H ws (wH H) [] 0 0 0:=⟨⟨[],[],0,xR.new,zF _,zF _,zF _⟩,pn _,zF _,zF _⟩
variable{z e j:Nat}
def PB.has(p:PB H ws P fs z e j):Has P fs:=by have⟨_,_,_,h,_⟩:=p.ex;exact h.has
def PB.rd(p:PB H ws P fs z e j){k:Nat}{f:az}(h:fs[k]? = some f):uf ws z e f:=by have⟨v10,E,T,q,a,b,_⟩:=p.ex;have:=q.rd h;exact⟨this.ok,Zt this.nl a,this.al,this.ft⟩
def PB.put(l:mQ H ws)(p:PB H ws P fs z e j)(y:j<=200)(b:N9 H f):∃a,BO P f=some ((fs.length:Int),a)/\PB H ws a (fs++[f]) (z+f.D9.length) (e+12*f.D9.length) (j+1)/\a.N.length=P.N.length+f.D9.length:=by have⟨v10,E,T,q,o,r,s⟩:=p.ex;have t:=p.gen;have u:=p.nl;have w:=p.rl;have x:=b.sm.nodes;have⟨a,d,c,g1,g2,m,n,h,k⟩:=zd0 l q b af (by rw[q.has.len];omega);rw[q.has.len]at g1;exact⟨a,g1,⟨⟨d,c,_,g2,by omega,by omega,by omega⟩,by rw[h];omega,by omega,by simp;omega⟩,k⟩
variable{n:Nat}
def PB.unify(r:mQ H ws)(p:PB H ws P fs z e j)(W:j<=200)(Z:z<=96)(V:e<=1152)(G:3000000<=n){a b:Nat}{h:az}(D:fs[a]? = some f)(F:fs[b]? = some h):
  ∃c d,vP n P (a:Int) (b:Int)=some ((if c.isSome then(fs.length:Int)else 0,c.isSome),d)/\UA ws (Lj f h) [(0,f.D9.length)] 0 c/\PB H ws d (fs++c.toList) z e (j+1)/\P.N.length<=d.N.length/\(c=none->d.N.length=P.N.length)/\∀f,c=some f->d.N.length<=P.N.length+f.D9.length:=by
 have⟨v10,E,T,q,A,B,O⟩:=p.ex;have Q:=p.gen;have R:=p.nl;have S:=p.rl;obtain⟨L,s,J,rfl⟩:=q.has.at_ a f D;obtain⟨M,t,K,rfl⟩:=q.has.at_ b h F;have⟨c,d,g1,g2,l,u,y,m,o⟩:=z67 r q af af af (by rw[q.has.len];omega) G s t;rw[q.has.len]at g1;have C:=z4h q.has.co q.kr (fun w I=>(r.ok w I).1) J K (fun x=>q.shr L (zX s) M (zX t) x) g2;have Y:d.N.length<=P.N.length+96:=by obtain _|f:=c;have:=m rfl;omega;have U:=o f rfl;have:=(l.rd (k:=fs.length) (f:=f) aZ).nl;omega
 exact⟨c,d,g1,C,⟨⟨v10,E,_,l,A,B,by omega⟩,by rw[u];omega,by omega,by cases c<;>simp<;>omega⟩,y,m,o⟩
def PB.test(k:mQ H ws)(p:PB H ws P fs z e j)(S:j<=200)(C:3000000<=n){a b:Nat}{h:az}(A:fs[a]? = some f)(B:fs[b]? = some h):
  ∃c d,yY n P (a:Int) (b:Int)=some (c.isSome,d)/\UA ws (Lj f h) [(0,f.D9.length)] 0 c/\PB H ws d fs z e (j+1)/\d.N.length=P.N.length:=by have⟨v10,E,T,q,t,u,M⟩:=p.ex;have O:=p.gen;have Q:=p.nl;have R:=p.rl;obtain⟨I,l,F,rfl⟩:=q.has.at_ a f A;obtain⟨J,m,G,rfl⟩:=q.has.at_ b h B;have⟨c,d,g1,g2,o,r,s,K,L⟩:=z99 k q af af C l m;have y:=z4h q.has.co q.kr (fun w D=>(k.ok w D).1) F G (fun x=>q.shr I (zX l) J (zX m) x) g2;exact⟨c,d,g1,y,⟨⟨v10,E,_,o,t,u,by omega⟩,by rw[r];omega,by omega,by omega⟩,s⟩
def PB.out(p:PB H ws P fs z e j){a b:Int}(h:¬ ((0<=a/\a<(fs.length:Int))/\0<=b/\b<(fs.length:Int))):vP n P a b=some ((0,false),P)/\yY n P a b=some (false,P):=by rw[<-p.has.len]at h;exact⟨z05 h,z4b h⟩
def PB.read(p:PB H ws P fs z e j){n:Nat}(a:j<=200)(b:3000000<=n){k:Nat}{f:az}(h:fs[k]? = some f):CW n P (k:Int)=some (f,true):=p.has.read (by have:=p.nl;omega) h
def PB.eq(p:PB H ws P fs z e j)(c:z<=1000)(b:3000000<=n){k:Nat}(h:fs[k]? = some f):O7 n f f=some true:=by have:=p.rd h;have a:cT f 1000:=⟨Zt this.nl c,this.al⟩;rw[tn a a b,G'.2 rfl];rfl
def PB.more(p:PB H ws P fs z e j){a:Nat}(h:j<=a):PB H ws P fs z e a:=by have⟨v10,E,T,q,b,c,d⟩:=p.ex;have k:=p.gen;have l:=p.nl;have m:=p.rl;exact⟨⟨v10,E,T,q,b,c,by omega⟩,by omega,by omega,by omega⟩
end
variable{N:Nat}{L:X aK}{r:Nat->Nat}
def CD.S1{W:X (Int×Int)}{c:Nat->Nat}{out:X Int}{C:X aD}(o:xI N [] L)(h:CD N L W r out C c):oV L c:=fun i j x y a b m s e p q z=>by
 have⟨k,B,A,t⟩:=h.tc.gE i x a m p;have⟨l,q1,q2,q3⟩:=h.tc.gE j y b s q;have n:=(zG.1 m).1;rw[o.len]at n;rw[<-e]at q1;have:k=l:=(h.ds _<|h.ck.lt n).eq k B l q1 af;subst this;have u:=t c (fun _ _ _ _ e=>e) (fun _ d=>by cases d);have w:=q3 c (fun _ _ _ _ e=>e) (fun _ d=>by cases d);omega
variable{i:Nat}
def z5e(h:i<N):(oK 0 N)[i]? = some (i:Int):=by simp[oK,h]
def ri(r:Nat->Nat)(i:Nat):X fB:=((List.range i).filter fun(j:Nat)=>r j != j).map fun(j:Nat)=>⟨(j:Int),(r j:Int)⟩
def eh{a:Type}{l:X a}(b:i<N){x:a}(c:l[i]? = some x):gU l 0 N (i:Int)=some x:=by have:=ef b c;rwa [zZ]at this
def z98(r:Nat->Nat)(i:Nat):ri r (i+1)=ri r i++(if r i=i then[]else[⟨(i:Int),(r i:Int)⟩]):=by simp[ri,range_succ,nw,y_];by_cases e:r i=i;rw[lr e];simp[e];rw[hF e];simp[e]
def z5y(r:Nat->Nat)(i:Nat):(ri r i).length<=i:=by have:=Hc (fun(j:Nat)=>r j != j)<|List.range i;simpa[ri]using this
def z9y{N:Nat}{L:X aK}{j r3:X Int}{r:Nat->Nat}(u:L.length=N)(p:N<=1000)(h:CK N j r){n:Nat}:∀(m i:Nat),N-i<m->i<=N->
  VK L j n r3 m (i:Int) (ri r i) ((L.take i).map aK.E4++replicate (N-i) [])=Xt L n r3 (ri r N) (L.map aK.E4)
 |0,i,hm,_=>by omega
 |m+1,i,hm,y=>by
  unfold VK;have w:=z5y r i;by_cases d:i<N;have a:i<L.length:=by omega
  have⟨x,l,_⟩:=fJ a;have t:i64.wrap ((i:Int)+1)=((i+1:Nat):Int):=kE d af;have s:gU ((L.take i).map aK.E4++replicate (N-i) ([]:X aI)) 0 L.length (i:Int)=some []:=by apply eh a;rw[mu (by simp[yA,Yz];omega)];simp only[yA,Yz,KW];rw[lr af]
  have o:((L.take i).map aK.E4++replicate (N-i) ([]:X aI)).set i x.E4=(L.take<|i+1).map aK.E4++replicate (N-(i+1)) []:=by
   obtain⟨k,q⟩:∃k,N-i=k+1:=⟨N-i-1,by omega⟩;rw[q,show N-(i+1)=k by omega,jB l,y_,Gi,Lm _ _ (by simp[yA,Yz];omega)];have:i-((L.take i).map aK.E4).length=0:=by simp[yA,Yz];omega
   rw[this];simp
  have b:=z9y (r3:=r3) u p h (n:=n) m (i+1) af af;simp only[iU a,zC,c9,l,aN,s,h.get i d,Xu,t,zZ,o];rw[z98]at b;by_cases e:r i=i;have c:((r i:Int) != (i:Int))=false:=by rw[e];simp
  rw[lr e,Px]at b;rw[c,zD,b];have c:((r i:Int) != (i:Int))=true:=by simp[JY,ea];omega
  rw[hF e]at b;rw[c,zC,gW af,b];have:i=N:=by omega
  subst this;have a:¬ i<L.length:=by omega
  simp only[j9 a,zD];rw[zW af,mi,LM,Px]
def Jz(x:aK):aD:=⟨-1,0,x.E4⟩
def eo{x:aK}(h:L[i]? = some x):F4 (L.map Jz) i=Jz x:=by simp[F4,h]
structure CR(N:Nat)(L:X aK)(r r':Nat->Nat)(out:X Int):Prop where
 ck:CK N out r'
 S1:oV L r'
 up:∀i j,i<N->j<N->r i=r j->r' i=r' j
 low:∀q,oV L q->(∀i j,i<N->j<N->r i=r j->q i=q j)->∀i j,i<N->j<N->r' i=r' j->q i=q j
def qwg{K:Nat}:∀{cells:X aD},(∀c∈cells,c.E3.length<=K)->L4 cells<=K*cells.length
 |[],_=>by simp[L4]
 |c::l,h=>by have e:=h c aZ;have a:=qwg (cells:=l) fun d b=>h d (by simp[b]);simp[L4,zQ,IC,zO,Nat.mul_add,JA]at a ⊢;omega
variable{n:Nat}
def z7f(u:xI N [] L)(R:N<=200)(C:∀x∈L,kC x.E4/\x.E4.length<=1200){B:X Int}(h:CK N B r)(J:2000000<=n):∃out t,Wj n L B=some out/\CR N L r t out:=by
 have s:=u.len;have Q:=z5y r N;have w:=qwq (N:=N) af (n:=n) af;have E:=z9y (r3:=oK 0 N) s af h (n:=n) n 0 af af;rw[show ri r 0=[]from rfl,lz,ez,X0,wm,zV]at E;have S:L4 (L.map Jz)<=1200*N:=by
  have:=qwg (K:=1200) (cells:=L.map Jz) fun c H=>by obtain⟨x,l,rfl⟩:=mem_map.1 H;exact(C x l).2
  rwa [yA,s]at this
 have mem:∀{i:Nat},i<N->∃x,L[i]? = some x:=fun{i} d=>⟨_,lq af⟩;have F:CS N L ((ri r N).map ua) (L.map aK.E4) (oK 0 N) (L.map Jz) id:=⟨⟨NV 0 N,fun i d=>z5e d,fun _ _=>zF _,fun _ _=>rfl⟩,by simp[s],by simp[s],fun i d _=>by
   have⟨x,l⟩:=mem d;rw[me,l,eo l];rfl,fun i d=>by
   have⟨x,l⟩:=mem d;rw[eo l];exact(C x<|zX l).1,fun p y=>by
   obtain⟨q,A,rfl⟩:=mem_map.1 y;obtain⟨j,m,rfl⟩:=mem_map.1 A;have:=mem_range.1 (mem_filter.1 m).1;have:=h.lt this;simp[ua];exact⟨by omega,by omega⟩,⟨fun j x a m G=>⟨a,by show a∈(F4 _ j).E3;rw[eo m];exact G,rfl,fun q _ _=>rfl⟩,fun i b d _ D=>by
   have⟨x,l⟩:=mem d;rw[eo l]at D;exact⟨i,x,l,rfl,D⟩,fun i d _ k=>by
   have⟨x,l⟩:=mem d;have:eI [] (F4 (L.map Jz) i).kind=0:=by simp[eI]
   rw[this,Ib];exact⟨fun e=>(by cases e),fun g=>(by have:=g i x l rfl;simp[eI]at this)⟩⟩⟩
 have⟨out,P,t,g1,g2⟩:=z1q u (show N<=1000 by omega) J n 0 (ri r N) (L.map aK.E4) (oK 0 N) (L.map Jz) id (by rw[Za];exact F) af af af;rw[Za]at g2;rw[zV]at g1;refine⟨out,t,?_,g2.ck,g2.S1 u,fun i j d m e=>?_,fun q A M i j d m e=>?_⟩;rw[Wj,s,w,aN,gW af,zZ,E,Xt,g1];have key:∀i,i<N->t i=t (r i):=fun i d=>by by_cases e:r i=i;rw[e];have:=g2.L9 ((i:Int),(r i:Int)) (mem_map.2 ⟨⟨(i:Int),(r i:Int)⟩,mem_map.2 ⟨i,mem_filter.2 ⟨mem_range.2 d,by simpa using e⟩,rfl⟩,rfl⟩);simpa using this
 rw[key i d,key j m,e];refine(g2.I1 q A ⟨fun i j _ _ e=>by rw[show i=j from e],fun p y=>?_⟩).r i j d m e;obtain⟨z,O,rfl⟩:=mem_map.1 y;obtain⟨k,I,rfl⟩:=mem_map.1 O;have o:=mem_range.1 (mem_filter.1 I).1;simp[ua,zZ];exact M k (r k) o (h.lt o) (h.idem k o).symm
def z4z{a b:Nat}(m:a<4611686018427387904)(o:b<4611686018427387904)(c:5<=n):JN n (bt a) (bt b)=some (bt<|a&&&b):=by obtain⟨k,rfl⟩:=ox c;by_cases h:a=0;subst h;rw[zero_and];have:=gz (n:=k+5) c;simp only[JN,TM,Oj,zS,QW,this,aN];rfl;have d:=TE (a:=a) (b:=b) af af;have j:=gw (w:=a&&&b) (n:=k+5) c;have e:JN (k+5) [(a:Int)] (bt b)=a8 (VD (k+5) (bt b) 0) fun l=>aE ((0+1)*8<=140737488355328/\0+1<=140737488355328) (QW (k+5) [N6 .u64 (a:Int) l]):=rfl;rw[sZ h,e,qwn,aN,gW af,QW,d,j];rfl
def z5c{h:cR}{a:X Nat}(d:mQ h a){c:Nat}{n:Nat}(p:5<=n):∀(m i:Nat),a.length-i<m->i<=a.length->(∀(k:Nat),k<i->a[k]? ≠some c)->
  (c∈a->∃k:Nat,Cw h (bt c) n m (i:Int)=some ((k:Int),true)/\a[k]? = some c)/\(c ∉ a->Cw h (bt c) n m (i:Int)=some (0,false))
 |0,i,hm,_,_=>by omega
 |m+1,i,hm,C,l=>by have o:=d.tl;have A:=d.len;unfold Cw;by_cases b:i<a.length;have⟨w,j,u⟩:=fJ b;have⟨t,B,z⟩:=d.at j;simp only[o,iU b,zC,c9,B,aN,z,qrr p,kE b<|show a.length<=9223372036854775807 by omega];by_cases e:w=c;simp only[e,yC,zC];exact⟨fun _=>⟨i,rfl,by rw[j,e]⟩,fun q=>absurd (e ▸ u) q⟩;simp only[e,yB,zD];exact z5c d p m (i+1) af af (fun k D=>by by_cases x:k=i;subst x;rw[j];intro q;exact e<|Option.some.inj q;exact l k af);simp only[o,j9 b,zD,fh];refine⟨fun y=>?_,fun _=>trivial⟩;have⟨q,s⟩:=mem_iff_getElem?.1 y;have:=(zG.1 s).1;exact absurd s (l q af)
def Ax{h:cR}{a:X Nat}(b:mQ h a){s t:Int}(u:0<=s/\s<(a.length:Int))(w:0<=t/\t<(a.length:Int))(E:2000<=n):
  ∃r,Vv n h s t=some r/\(r.2=false->eI a s&&&eI a t=0)/\(r.2=true->(0<=r.1/\r.1<(a.length:Int))/\eI a r.1=eI a s&&&eI a t):=by
 have d:=HQ u;have j:=HQ w;have⟨x,z,ex⟩:=b.at d;have⟨y,A,o⟩:=b.at j;have l:=zX d;have m:=zX j;have p:=b.len;have B:aB h.Types s=some x:=by rw[show s=((s.toNat:Nat):Int) by omega,c9];exact z
 have C:aB h.Types t=some y:=by rw[show t=((t.toNat:Nat):Int) by omega,c9];exact A
 have⟨f1,f2⟩:=z5c b (c:=eI a s&&&eI a t) (n:=n) af n 0 af af (fun k D=>af);rw[zV]at f1 f2;simp only[Vv,B,C,aN,ex,o,z4z (b.ok _ l).2 (b.ok _ m).2 (show 5<=n by omega),ap];by_cases e:eI a s&&&eI a t=0;rw[f2 fun q=>(b.ok _ q).1 e];exact⟨_,rfl,fun _=>e,fun q=>by cases q⟩;obtain⟨k,g1,g2⟩:=f1<|b.cls _ l _ m e;rw[g1];refine⟨_,rfl,(fun q=>by cases q),fun _=>⟨?_,?_⟩⟩;have:=(zG.1 g2).1;simp only;omega;simp[eI,zZ,g2,jf]
structure TI(ws:X Nat)(N:Nat)(L:X aK)(r:Nat->Nat)(i:Nat)(o:X Int):Prop where
 len:o.length=N
 at_:∀c,c<N->∃t,o[c]? = some t/\(0<=t/\t<(ws.length:Int))/\∀k,(eI ws t).testBit k=true↔(eI ws 0).testBit k=true/\∀(j:Nat)(x:aK),j<i->L[j]? = some x->r j=c->(eI ws x.R).testBit k=true
def KOk(a:X Nat)(L:X aK):Prop:=∀x∈L,0<=x.R/\x.R<(a.length:Int)
def qz4{h:cR}{b:X Nat}(F:mQ h b){N:Nat}{L:X aK}(R:L.length=N)(P:N<=1000)(G:KOk b L){p:X Int}{r:Nat->Nat}(A:CK N p r){n:Nat}(H:2000<=n):∀(m i:Nat)(o:X Int),N-i<m->i<=N->TI b N L r i o->
  (∃I,TI b N L r N I/\Db h L p n m (i:Int) o=Xo L p n I)\/(Db h L p n m (i:Int) o=some ([],false)/\∃c,c<N/\∀k,¬ ((eI b 0).testBit k=true/\∀(j:Nat)(x:aK),L[j]? = some x->r j=c->(eI b x.R).testBit k=true))
 |0,i,o,hm,_,_=>by omega
 |m+1,i,o,hm,W,l=>by
  unfold Db;by_cases D:i<N;have d:i<L.length:=by omega
  obtain⟨x,u,M⟩:=fJ d;have C:=A.lt D;obtain⟨t,t1,t2,t3⟩:=l.at_ (r i) C;have Q:gU o 0 L.length (r i:Int)=some t:=eh af t1;obtain⟨q,q1,q2,q3⟩:=Ax F t2 (G x M) H;simp only[iU d,zC,c9,A.get i D,aN,Q,u,q1,zZ,kE d<|show L.length<=9223372036854775807 by omega];cases E:q.2 with
  |false=>refine .inr ⟨by simp only[eG,zC],r i,C,fun k B=>?_⟩;have O:=q2 E;have:=congrArg (fun z=>z.testBit k) O;simp only[wz,Ib,Ln]at this;obtain g |g:=this;have:=(t3 k).2 ⟨B.1,fun j y s a Y=>B.2 j y a Y⟩;rw[g]at this;cases this;have:=B.2 i x u rfl;rw[g]at this;cases this
  |true=>obtain⟨q4,q5⟩:=q3 E;simp only[Zr,zD];refine qz4 F R P G A H m (i+1) (o.set (r i) q.1) af af ⟨by simp[l.len],fun c J=>?_⟩;by_cases e:r i=c;subst e;refine⟨q.1,by rw[YO (by rw[l.len];exact C)],q4,fun k=>?_⟩;rw[q5,wz,eR,t3];constructor;rintro⟨⟨g1,g2⟩,K⟩;refine⟨g1,fun j y s a Y=>?_⟩;by_cases w:j=i;subst w;rw[u]at a;cases a;exact K;exact g2 j y af a Y;rintro⟨g1,g2⟩;exact⟨⟨g1,fun j y s a Y=>g2 j y af a Y⟩,g2 i x af u rfl⟩;obtain⟨S,T,U,V⟩:=l.at_ c J;refine⟨S,by rw[mz e];exact T,U,fun k=>?_⟩;rw[V];constructor;rintro⟨g1,g2⟩;refine⟨g1,fun j y s a Y=>?_⟩;by_cases w:j=i;subst w;exact absurd Y e;exact g2 j y af a Y;rintro⟨g1,g2⟩;exact⟨g1,fun j y s a Y=>g2 j y af a Y⟩
  have:i=N:=by omega
  subst this;have d:¬ i<L.length:=by omega
  simp only[j9 d,zD];exact .inl ⟨o,l,rfl⟩
def qz5{N:Nat}{L:X aK}(x:L.length=N)(B:N<=1000){s:X Int}{r:Nat->Nat}(h:CK N s r){j:X Int}(C:j.length=N):∀(m i:Nat)(o:X Int),N-i<m->i<=N->o.length=N->(∀c,c<N->o[c]? = if c<i then j[r c]? else j[c]?)->
  ∃q,Ov L s m (i:Int) o=some (q,true)/\q.length=N/\∀c,c<N->q[c]? = j[r c]?
 |0,i,o,hm,_,_,_=>by omega
 |m+1,i,o,hm,F,l,k=>by
  unfold Ov;by_cases a:i<N;have d:i<L.length:=by omega
  have y:=h.lt a;have G:=h.le i a;have E:=h.idem i a;have u:∀c,c<N->∃v,j[c]? = some v:=fun c b=>⟨_,lq af⟩;have⟨v,p⟩:=u (r i) y;have z:o[r i]? = some v:=by rw[k _ y];split;rw[E];exact p;exact p
  have⟨w,D⟩:=u i a;have A:o[i]? = some w:=by rw[k i a,hF af];exact D
  simp only[iU d,zC,c9,h.get i a,aN,eh (show r i<L.length by omega) z,eh d A,zZ,kE d<|show L.length<=9223372036854775807 by omega];refine qz5 x B h C m (i+1) (o.set i v) af af (by simp[l]) fun c b=>?_;by_cases e:i=c;subst e;rw[YO af,lr af,p];rw[mz e,k c b];by_cases t:c<i;rw[lr t,lr af];rw[hF t,hF af];have:i=N:=by omega
  subst this;have d:¬ i<L.length:=by omega
  rw[j9 d];simp[zD,ig,x,zZ];rw[gW l.symm];exact⟨o,rfl,l,fun c b=>by rw[k c b,lr b]⟩
structure ue(ws:X Nat)(N:Nat)(L:X aK)(r:Nat->Nat)(o:X Int):Prop where
 len:o.length=N
 at_:∀i,i<N->∃t,o[i]? = some t/\(0<=t/\t<(ws.length:Int))/\∀k,(eI ws t).testBit k=true↔∀(j:Nat)(x:aK),L[j]? = some x->r j=r i->(eI ws x.R).testBit k=true
def z9c{h:cR}{ws:X Nat}(e:mQ h ws)(m:L.length=N)(C:N<=1000)(D:KOk ws L){s:X Int}(w:CK N s r)(H:2000<=n):
  (∃o,Nw n h L s=some (o,true)/\ue ws N L r o/\¬ TH ws L r)\/(Nw n h L s=some ([],false)/\TH ws L r):=by
 have O:=e.pos;have A:∀(j:Nat)(x:aK)(k:Nat),L[j]? = some x->(eI ws x.R).testBit k=true->(eI ws 0).testBit k=true:=fun j x k a d=>by have hm:=zX<|HQ<|D x<|zX a;have:=congrArg (fun z=>z.testBit k)<|e.top _ hm;simp[wz,d,TP]at this;exact this
 have G:TI ws N L r 0 (replicate N 0):=⟨by simp,fun c p=>⟨0,by rw[KW,lr p],⟨by omega,by omega⟩,fun k=>⟨fun g=>⟨g,fun j x a=>af⟩,fun g=>g.1⟩⟩⟩;have:=qz4 e m C D w H n 0 (replicate N 0) af af G;rw[zV]at this;simp[Nw,m,zZ];rw[gW af];obtain⟨J,g1,g2⟩|⟨g1,c,p,g2⟩:=this;refine .inl ?_;obtain⟨o,Q,K,M⟩:=qz5 m C w g1.len n 0 J af af g1.len (fun c p=>by rw[hF af]);rw[zV]at Q;have E:∀i,i<N->∃t,o[i]? = some t/\(0<=t/\t<(ws.length:Int))/\∀k,(eI ws t).testBit k=true↔∀(j:Nat)(x:aK),L[j]? = some x->r j=r i->(eI ws x.R).testBit k=true:=fun i b=>by obtain⟨t,t1,t2,t3⟩:=g1.at_ (r i)<|w.lt b;refine⟨t,by rw[M i b];exact t1,t2,fun k=>?_⟩;rw[t3];constructor;rintro⟨_,q2⟩ j x a P;exact q2 j x (by have:=(zG.1 a).1;omega) a P;intro q;refine⟨?_,fun j x _ a P=>q j x a P⟩;have l:L[i]? = some L[i]:=lq af;exact A i _ k l (q i _ l rfl)
 refine⟨o,by rw[g2,Xo,Q],⟨K,E⟩,fun⟨i,b,d⟩=>?_⟩;rw[m]at b;have⟨t,t1,t2,t3⟩:=E i b;have⟨k,y⟩:=Ht (e.ok _<|zX<|HQ t2).1;have⟨j,x,q1,q2,q3⟩:=d k;have:=(t3 k).1 y j x q1 q2;rw[q3]at this;cases this;refine .inr ⟨g1,?_⟩;have I:∃i,i<N/\r i=c:=by refine qj fun u=>?_;have F:=(e.ok _<|zX<|HQ (ws:=ws) (t:=0) ⟨by omega,by omega⟩).1;have⟨k,y⟩:=Ht F;exact g2 k ⟨y,fun j x a P=>absurd ⟨j,by have:=(zG.1 a).1;omega,P⟩ u⟩
 obtain⟨i,b,rfl⟩:=I;refine⟨i,by omega,fun k=>qj fun u=>?_⟩;have B:∀(j:Nat)(x:aK),L[j]? = some x->r j=r i->(eI ws x.R).testBit k=true:=fun j x a P=>by rcases d:(eI ws x.R).testBit k with _|_;exact absurd ⟨j,x,a,P,d⟩ u;rfl
 have l:L[i]? = some L[i]:=lq af;exact g2 k ⟨A i _ k l<|B i _ l rfl,B⟩
def zba{a:aK}{f:Int}(d:a.E4.length<=1000000):∀(m i:Nat),a.E4.length-i<m->i<=a.E4.length->Ol f a m (i:Int)=some (match (a.E4.drop i).find? fun x=>x.E2==f with |some x=>(x.To,true)|none=>(0,false))
 |0,i,hm,_=>by omega
 |m+1,i,hm,h=>by unfold Ol;by_cases b:i<a.E4.length;obtain⟨x,c,_⟩:=fJ b;simp only[iU b,zC,c9,c,aN,kE b (show a.E4.length<=9223372036854775807 by omega),bC c,Hn];rcases e:x.E2==f with _|_;simp only[zD];exact zba d m (i+1) af af;simp only[zC];simp only[j9 b,zD,bW b,fa,find?_nil]
def zdg{g:X aK}{c:Nat}{x:aK}{f:Int}(b:g[c]? = some x)(a:x.E4.length<=1000000){n:Nat}(d:x.E4.length<n):Vt n ⟨g⟩ (c:Int) f=some (match x.E4.find? fun x=>x.E2==f with |some x=>(x.To,true)|none=>(0,false)):=by have:=zba (f:=f) a n 0 af af;rw[zV,Za]at this;simp[Vt,c9,b,aN,this]
structure QP(N:Nat)(L:X aK)(r:Nat->Nat)(ty:X Int)(P:Nat->aI->Prop)(K:Nat)(g:X aK):Prop where
 len:g.length=N
 ty:∀(c:Nat)(x:aK),g[c]? = some x->ty[c]? = some x.R
 ds:∀(c:Nat)(x:aK),g[c]? = some x->kC x.E4/\x.E4.length<=K
 gE:∀(j:Nat)(c:aK)(a:aI),L[j]? = some c->a∈c.E4->P j a->∃x b,g[r j]? = some x/\b∈x.E4/\b.E2=a.E2/\b.To=(r a.To.toNat:Int)
 snd:∀(i:Nat)(x:aK)(b:aI),g[i]? = some x->b∈x.E4->∃(j:Nat)(c:aK)(a:aI),L[j]? = some c/\r j=i/\a∈c.E4/\b.E2=a.E2/\b.To=(r a.To.toNat:Int)
def Q?{N:Nat}{L:X aK}{T ty:X Int}{r:Nat->Nat}(J:xI N [] L)(U:N<=200)(F:CK N T r)(O:oV L r){n:Nat}(Y:1000000<=n){i:Nat}(u:i<N){y:aK}(t:L[i]? = some y)(C:y.E4.length<=1200){rc:Int->X aK->V az}{Q:V az->Prop}
  (I:∀g,QP N L r ty (fun j _=>j<i+1) (1200*(i+1)) g->Q (rc (i64.wrap<|(i:Int)+1) g)):∀(m k:Nat)(g:X aK),y.E4.length-k<m->k<=y.E4.length->QP N L r ty (fun j a=>j<i\/(j=i/\a∈y.E4.take k)) (1200*i+k) g->
  Q (VS L T n (i:Int) rc (r i:Int) m (k:Int) g)
 |0,k,g,hm,_,_=>by omega
 |m+1,k,g,hm,hk,d=>by
  unfold VS;have wV:=d.len;have y8:=F.lt u;by_cases E:k<y.E4.length;have⟨a,W,xB⟩:=fJ E;obtain⟨x,s⟩:∃x,g[r i]? = some x:=⟨_,lq af⟩;have⟨P,I0⟩:=d.ds _ x s;have B:i64.wrap ((k:Int)+1)=((k+1:Nat):Int):=kE E af;have lJ:=J.ar i y a t xB;have K:=F.at lJ;simp only[c9,t,aN,iU E,zC,W,zdg (f:=a.E2) s (show x.E4.length<=1000000 by omega) (show x.E4.length<n by omega),Yq,B];have S:∀b,b∈y.E4.take (k+1)↔b∈y.E4.take k\/b=a:=fun b=>by rw[jB W,yD,qa]
  cases M:x.E4.find? (fun w=>w.E2==a.E2)with
  |some w=>
   have R:=Fx M;have S5:w.E2=a.E2:=by have:=GY M;simpa using this
   simp only[Zr,zD];refine Q? J U F O Y u t C I m (k+1) g af af ⟨d.len,d.ty,fun c z h=>⟨(d.ds c z h).1,by have:=(d.ds c z h).2;omega⟩,fun j c b p l o=>?_,d.snd⟩;obtain o |⟨rfl,o⟩:=o;exact d.gE j c b p l<|.inl o;rcases(S b).1 o with o |rfl;exact d.gE _ c b p l<|.inr ⟨rfl,o⟩;have⟨j',c',a',p1,p2,p3,p4,p5⟩:=d.snd _ x w s R;refine⟨x,w,s,R,S5,?_⟩;rw[p5,O j' _ c' c a' b p1 p p2 p3 l af]
  |none=>
   have eW:∀w∈x.E4,w.E2≠a.E2:=fun w B e=>by have:=find?_eq_none.1 M w B;simp[e]at this
   simp only[eG,zC,s,aN,K,zZ,Ty];rw[gW af];have H:∀c z,(g.set (r i) ⟨x.R,x.E4++[⟨a.E2,(r a.To.toNat:Int)⟩]⟩)[c]? = some z->(c=r i/\z=⟨x.R,x.E4++[⟨a.E2,(r a.To.toNat:Int)⟩]⟩)\/(c≠r i/\g[c]? = some z):=fun c z h=>by by_cases e:r i=c;subst e;rw[YO af]at h;exact .inl ⟨rfl,(Option.some.inj h).symm⟩;rw[mz e]at h;exact .inr ⟨fun q=>e q.symm,h⟩
   refine Q? J U F O Y u t C I m (k+1) _ af af ⟨by rw[fG];exact d.len,fun c z h=>?_,fun c z h=>?_,fun j c b p l o=>?_,fun j z b h l=>?_⟩;obtain⟨rfl,rfl⟩|⟨_,h⟩:=H c z h;exact d.ty _ x s;exact d.ty c z h;obtain⟨rfl,rfl⟩|⟨_,h⟩:=H c z h;refine⟨?_,by simp[zU,zO,zS];omega⟩;unfold kC at*;rw[oy];exact⟨P,pairwise_singleton _ _,fun w B v Z=>by simp at Z;subst Z;exact eW w B⟩;exact⟨(d.ds c z h).1,by have:=(d.ds c z h).2;omega⟩;have D:(j<i\/(j=i/\b∈y.E4.take k))->∃G A,(g.set (r i) ⟨x.R,x.E4++[⟨a.E2,(r a.To.toNat:Int)⟩]⟩)[r j]? = some G/\A∈G.E4/\A.E2=b.E2/\A.To=(r b.To.toNat:Int):=fun hp=>by have⟨G,A,q1,q2,q3,q4⟩:=d.gE j c b p l hp;by_cases e:r i=r j;rw[<-e,s]at q1;cases q1;exact⟨_,A,by rw[<-e,YO af],mw _ q2,q3,q4⟩;exact⟨G,A,by rw[mz e];exact q1,q2,q3,q4⟩
   obtain o |⟨rfl,o⟩:=o;exact D<|.inl o;rcases(S b).1 o with o |rfl;exact D<|.inr ⟨rfl,o⟩;exact⟨_,⟨b.E2,(r b.To.toNat:Int)⟩,YO af,mr _<|mem_singleton.2 rfl,rfl,rfl⟩;obtain⟨rfl,rfl⟩|⟨_,h⟩:=H j z h;obtain l |l:=yD.1 l;exact d.snd _ x b s l;simp at l;subst l;exact⟨i,y,a,t,rfl,xB,rfl,rfl⟩;exact d.snd j z b h l
  have:k=y.E4.length:=by omega
  subst this;simp[c9,t,aN,j9 E,zD,g_];rw[js]at d;refine I g ⟨d.len,d.ty,fun c z h=>⟨(d.ds c z h).1,by have:=(d.ds c z h).2;omega⟩,fun j c b p l o=>?_,d.snd⟩;by_cases e:j=i;subst e;rw[t]at p;cases p;exact d.gE _ _ b t l<|.inr ⟨rfl,l⟩;exact d.gE j c b p l (.inl af)
def zb1{N:Nat}{L:X aK}{d ty:X Int}{r:Nat->Nat}(l:xI N [] L)(u:N<=200)(p:CK N d r)(z:oV L r)(q:∀x∈L,x.E4.length<=1200){v:Int}{n:Nat}(w:1000000<=n):∀(m i:Nat)(g:X aK),N-i<m->i<=N->QP N L r ty (fun j _=>j<i) (1200*i) g->
  ∃e,QP N L r ty (fun j _=>j<N) (1200*N) e/\OH L d v n m (i:Int) g=Pk d v n e
 |0,i,g,hm,_,_=>by omega
 |m+1,i,g,hm,F,b=>by
  unfold OH;have G:=l.len;by_cases t:i<N;have h:i<L.length:=by omega
  have⟨y,E,s⟩:=fJ h;simp only[iU h,zC,c9,p.get i t,aN];have:=Q? (ty:=ty) l u p z w t E (q y s) (rc:=OH L d v n m) (Q:=fun o=>∃e,QP N L r ty (fun j _=>j<N) (1200*N) e/\o=Pk d v n e) (fun g B=>by rw[kE h af];exact zb1 l u p z q w m (i+1) g af af B) n 0 g (by have:=q y s;omega) af ⟨b.len,b.ty,fun c x D=>by have:=b.ds c x D;exact⟨this.1,by omega⟩,fun j c a C A k=>by obtain k |⟨_,k⟩:=k;exact b.gE j c a C A k;simp at k,b.snd⟩;rw[zV]at this;exact this;have:i=N:=by omega
  subst this;have h:¬ i<L.length:=by omega
  rw[j9 h];exact⟨g,b,rfl⟩
def zb0{N:Nat}{L:X aK}{cl a:X Int}(j:L.length=N)(e:N<=200)(h:a.length=N){v:Int}{n:Nat}:∀(m i:Nat),N-i<m->i<=N->
  Pj L cl a v n m (i:Int) ((a.take i).map fun t=>aK.mk t [])=Yp L cl v n (a.map fun t=>aK.mk t [])
 |0,i,hm,_=>by omega
 |m+1,i,hm,o=>by
  unfold Pj;by_cases k:i<N;have b:i<L.length:=by omega
  have⟨t,c,_⟩:=fJ (l:=a) (show i<a.length by omega);have d:=zb0 (cl:=cl) (v:=v) (n:=n) j e h m (i+1) af af;rw[jB c,y_]at d;simp only[iU b,zC,c9,c,aN,kE b<|show L.length<=9223372036854775807 by omega];rw[gW (by simp[yA,Yz];omega)];exact d;have:i=N:=by omega
  subst this;have b:¬ i<L.length:=by omega
  rw[j9 b,zW af];rfl
def zd2{q:X Nat}{N:Nat}{L:X aK}{cl o:X Int}{r:Nat->Nat}(w:xI N [] L)(D:N<=200)(p:CK N cl r)(O:oV L r)(F:∀x∈L,x.E4.length<=1200/\∀a∈x.E4,0<=a.E2)(u:ue q N L r o){n:Nat}(M:1000000<=n){v:Int}(Q:0<=v/\v<(N:Int)):
  ∃g,QG q L r ⟨g⟩/\jP ⟨g⟩/\Xp n L cl o v=some (cU ⟨g⟩ (r v.toNat:Int)):=by
 have z:=w.len;have B:=zb0 (cl:=cl) (v:=v) (n:=n) z D u.len n 0 af af;rw[zV,lz,ez]at B;have H:QP N L r o (fun j _=>j<0) (1200*0) (o.map fun t=>aK.mk t []):=⟨by simp[u.len],fun c x d=>by
   rw[me]at d;rcases e:o[c]? with _|t;rw[e]at d;cases d;rw[e]at d;cases d;rfl,fun c x d=>by
   rw[me]at d;rcases e:o[c]? with _|t;rw[e]at d;cases d;rw[e]at d;cases d;exact⟨Pairwise.nil,zF _⟩,fun j c a _ _ h=>absurd h af,fun i x b d s=>by
   rw[me]at d;rcases e:o[i]? with _|t;rw[e]at d;cases d;rw[e]at d;cases d;cases s⟩
 have⟨g,g1,g2⟩:=zb1 w D p O (fun x d=>(F x d).1) (v:=v) M n 0 _ af af H;rw[zV]at g2;have mem:∀{i:Nat},i<N->∃x,L[i]? = some x:=fun{i} l=>⟨_,lq af⟩;have m:∀c x,g[c]? = some x->c<N/\(0<=x.R/\x.R<(q.length:Int))/\∀k,(eI q x.R).testBit k=true↔∀(j:Nat)(y:aK),L[j]? = some y->r j=r c->(eI q y.R).testBit k=true:=fun c x d=>by
  have A:c<N:=by have:=(zG.1 d).1;have:=g1.len;omega
  have⟨t,t1,t2,t3⟩:=u.at_ c A;have:=g1.ty c x d;rw[t1]at this;cases this;exact⟨A,t2,t3⟩
 have I:QG q L r ⟨g⟩:=⟨by show g.length=_;rw[g1.len,z],fun i l=>by rw[z]at l ⊢;exact⟨p.lt l,p.idem i l⟩,fun i x d U=>by have⟨_,t2,t3⟩:=m i x d;rw[U]at t3;exact⟨t2,t3⟩,fun i x d _=>(g1.ds i x d).1,fun j c a E K=>g1.gE j c a E K (by have:=(zG.1 E).1;omega),fun i x b d _ s=>g1.snd i x b d s⟩;have C:jP ⟨g⟩:=fun x d=>by have⟨i,l⟩:=Zc d;refine⟨(m i x l).2.1.1,(g1.ds i x l).1,fun b s=>?_⟩;have⟨j,c,a,q1,q2,q3,q4,q5⟩:=g1.snd i x b l s;have T:=w.ar j c a q1 q3;have:=p.lt (i:=a.To.toNat) af;have S:=(F c<|zX q1).2 a q3;have R:(az.mk g).D9.length=N:=g1.len;rw[R];exact⟨by omega,by omega,by omega⟩
 refine⟨g,I,C,?_⟩;have P:=p.lt (i:=v.toNat) af;have J:cT ⟨g⟩ 300000:=⟨by show g.length<=300000;rw[g1.len];omega,fun x d=>by have⟨i,l⟩:=Zc d;have:=(g1.ds i x l).2;omega⟩;have G:=z2l C J af (r:=(r v.toNat:Int)) ⟨by omega,by show _<((g.length:Nat):Int);rw[g1.len];omega⟩ (n:=n) af;rw[Xp,B,Yp,g2];simp[Pk,p.at Q,aN,G]
def Z3:V az->az×FK
 |some g=>(g,true)|none=>(⟨[]⟩,false)
def zd4{h:cR}{E:X Nat}(hh:mQ h E){f g:az}(S:jP f)(J:jP g)(kf:KG E f)(kg:KG E g)(lf:0<f.D9.length)(lg:0<g.D9.length)(R:f.D9.length+g.D9.length<=200)
  (U:∀x∈f.D9,x.E4.length<=1200) (M:∀x∈g.D9,x.E4.length<=1200) {n:Nat} (hn:2000000<=n):
  ∃C,Wh n h f g=some (Z3 C)/\UA E (Lj f g) [(0,f.D9.length)] 0 C:=by
 have F:=UM S J kf kg;have D:=Q8 f g;generalize hNN:f.D9.length+g.D9.length=N at*;have mem:∀c∈Lj f g,c.E4.length<=1200/\∀a∈c.E4,0<=a.E2:=fun c u=>by obtain u |u:=yD.1 u;exact⟨U c u,fun a s=>((S c u).L2 a s).1⟩;obtain⟨x,d,rfl⟩:=mem_map.1 u;refine⟨by simpa[E5]using M x d,fun a s=>?_⟩;obtain⟨b,H,rfl⟩:=mem_map.1 s;exact((J x d).L2 b H).1
 have Q:xI N [] (Lj f g):=⟨D,fun j c a w s=>by have:=F.to c (zX w) a s;rw[D]at this;exact this⟩;have W:Np n f.D9 g.D9=some (Lj f g):=zbo af af (fun x d=>⟨M x d,fun a s=>by have:=(J x d).L2 a s;omega⟩) af;have Y:Nx n ((Lj f g).length:Int)=some (oK 0 N):=by rw[D];exact qwq af af
 have O:CK N (oK 0 N) (fun i=>i):=⟨NV ..,fun i l=>z5e l,fun i _=>zF i,fun _ _=>rfl⟩;have P:=z5d O af (a:=0) (b:=(f.D9.length:Int)) af af (n:=n) af;have V:=O.U1 (a:=0) (b:=f.D9.length) af af;simp only[zZ,Int.toNat_zero]at P;obtain⟨out,t,Z,B⟩:=z7f Q R (fun x d=>⟨F.ds x d,(mem x d).1⟩) V hn;have K:min 0 f.D9.length=0:=by omega
 have z:max 0 f.D9.length=f.D9.length:=by omega
 have low:∀q,oV (Lj f g) q->F7 q [(0,f.D9.length)]->∀i j,i<N->j<N->t i=t j->q i=q j:=fun q A m i j l w I=>by
  refine B.low q A (fun i j l w e=>?_) i j l w I;have h0:q 0=q f.D9.length:=m (0,f.D9.length)<|mem_singleton.2 rfl;have key:∀i,q (fQ (fun i=>i) 0 f.D9.length i)=q i:=fun i=>by by_cases p:i=f.D9.length;rw[p];simp only[fQ,It];exact h0;simp only[fQ,hF p]
  rw[K,z]at e;rw[<-key i,<-key j,e]
 have G:t 0=t f.D9.length:=B.up 0 f.D9.length af af (by rw[K,z];simp[fQ]);have tk:=z9c hh D af F.ty B.ck (n:=n) af;simp only[Wh,W,Y,P,Z,aN];obtain⟨o,t1,t2,t3⟩|⟨t1,t2⟩:=tk;obtain⟨gr,q1,q2,q3⟩:=zd2 Q R B.ck B.S1 mem t2 (n:=n) af (v:=0) af;simp only[t1,aN,Zr,zD,q3];refine⟨some<|cU ⟨gr⟩ ((t 0:Nat):Int),rfl,⟨(fun e=>nomatch e),fun x d=>?_⟩⟩;cases d;refine⟨t,⟨gr⟩,⟨q1.hm,q2,fun i y l hy=>(q1.kd (t i) y hy (q1.rt i l).2).1,fun p m=>?_,fun q A m i j l w I=>low q A m i j af af I⟩,rfl⟩;rw[qa]at m;subst m;exact G;simp[t1,aN,eG,zC];refine⟨none,rfl,⟨fun _ q A m=>?_,fun x d=>nomatch d⟩⟩;have⟨i,l,H⟩:=t2;refine⟨i,l,fun k=>?_⟩;have⟨j,c,T,k2,k3⟩:=H k;have:=(zG.1 T).1;exact⟨j,c,T,low q A m j i af af k2,k3⟩
section
variable{H:cR}{ws:X Nat}{P:PP}{fs:X az}{z e j:Nat}
structure Rl(P P':PP)(t:X az):Prop where
 le:P.N.length<=P'.N.length
 no:t=[]->P'.N.length=P.N.length
 yes:t=[]\/∃f,t=[f]/\P'.N.length<=P.N.length+f.D9.length
def Rl.refl(P:PP):Rl P P []:=⟨zF _,fun _=>rfl,.inl rfl⟩
variable{n:Nat}
def qqz{k:Int}:JP n ⟨H,fs⟩ k=some (match fs[k.toNat]? with |some f=>if 0<=k then(f,true)else(⟨[]⟩,false)|none=>(⟨[]⟩,false)):=by
 by_cases a:k<0;simp[JP,Zh a,zC,aN];obtain _|f:=fs[k.toNat]?;rfl;simp only;rw[hF af];have b:0<=k:=by omega
 obtain⟨m,rfl⟩:=Aq b;simp[JP,Zb a,zD,aN,zZ];by_cases c:m<fs.length;have⟨f,d⟩:=eU c;rw[Zb af,zD,c9,d];simp[aN,lr b];rw[Zh af,YQ af];rfl
def tu{k:Nat}{f:az}(h:fs[k]? = some f):JP n ⟨H,fs⟩ (k:Int)=some (f,true):=by rw[qqz,zZ,h];simp
def Tz{k:Int}(h:¬ (0<=k/\k<(fs.length:Int))):JP n ⟨H,fs⟩ k=some (⟨[]⟩,false):=by
 rw[qqz];split
 ·next f a=>have:=(zG.1 a).1;rw[hF af]
 rfl
def z4t(a:fs.length<=1000)(f:az):Nk n ⟨H,fs⟩ f=some (⟨H,fs++[f]⟩,(fs.length:Int)):=by unfold Nk;dsimp only;rw[gW af,gW (by simp[qb4];omega)]
def Kk(fs:X az)(ok:FK):Int:=if ok then(fs.length:Int)else 0
def PB.mV(l:mQ H ws)(p:PB H ws P fs z e j)(E:z<=96)(D:3000000<=n){a b:Nat}{f k:az}(o:fs[a]? = some f)(q:fs[b]? = some k){h:V az}(t:UA ws (Lj f k) [(0,f.D9.length)] 0 h):QU n ⟨H,fs⟩ (a:Int) (b:Int)=some (Z3 h):=by have c:=p.rd o;have d:=p.rd q;have B:=c.nl;have C:=d.nl;have y:=c.ok.ne;have A:=d.ok.ne;have⟨s,q1,q2⟩:=zd4 l c.ok.K5 d.ok.K5 c.ok.kg d.ok.kg y A af (fun x m=>by have:=c.al x m;omega) (fun x m=>by have:=d.al x m;omega) (n:=n) af;have:=UA.uniq l.gR (fun w u=>(l.ok w u).1) (UM c.ok.K5 d.ok.K5 c.ok.kg d.ok.kg) (by rw[Q8];omega) t q2;subst this;simp[QU,tu o,tu q,aN,Zr,zD];rw[show(az.mk f.D9)=f from rfl,show(az.mk k.D9)=k from rfl,q1];simp[aN]
def qpm{a b:Int}(h:¬ ((0<=a/\a<(fs.length:Int))/\0<=b/\b<(fs.length:Int))):QU n ⟨H,fs⟩ a b=some (⟨[]⟩,false):=by
 by_cases d:0<=a/\a<(fs.length:Int);have c:¬ (0<=b/\b<(fs.length:Int)):=fun q=>h ⟨d,q⟩;obtain⟨m,rfl⟩:=Aq d.1;have⟨f,k⟩:=eU (l:=fs) (i:=m) af;simp[QU,tu k,Tz c,aN,Zr,eG,zD,zC];rcases c:JP n ⟨H,fs⟩ b with _|r
 rw[qqz]at c;cases c;simp[QU,Tz d,c,aN,eG,zC]
def at2{a b:Int}(h:(0<=a/\a<(fs.length:Int))/\0<=b/\b<(fs.length:Int)):∃(m k:Nat)(f c:az),a=m/\b=k/\fs[m]? = some f/\fs[k]? = some c:=by obtain⟨m,rfl⟩:=Aq h.1.1;obtain⟨k,rfl⟩:=Aq h.2.1;have⟨f,o⟩:=eU (l:=fs) (i:=m) af;have⟨c,d⟩:=eU (l:=fs) (i:=k) af;exact⟨m,k,f,c,rfl,rfl,o,d⟩
def PB.sA(s:mQ H ws)(p:PB H ws P fs z e j)(D:j<=200)(w:z<=96)(C:e<=1152)(u:3000000<=n)(a b:Int):
  ∃ok d t,vP n P a b=some ((Kk fs ok,ok),d)/\Nv n ⟨H,fs⟩ a b=some (⟨H,fs++t⟩,Kk fs ok,ok)/\PB H ws d (fs++t) z e (j+1)/\Rl P d t:=by by_cases h:(0<=a/\a<(fs.length:Int))/\0<=b/\b<(fs.length:Int);obtain⟨m,k,f,E,rfl,rfl,q,l⟩:=at2 h;have⟨c,d,g1,g2,x,y,A,B⟩:=p.unify s D w C u q l;have o:=p.mV s w u q l g2;refine⟨c.isSome,d,c.toList,g1,?_,x,y,fun e=>A (by cases c<;>simp_all),?_⟩;obtain _|f:=c;simp only[Nv,o,Z3,aN,eG,zC,qce,Px,Kk];rfl;simp[Nv,o,Z3,aN,Zr,zD,z4t (H:=H) (n:=n) (fs:=fs) (by have:=p.rl;omega)];rfl;obtain _|f:=c;exact .inl rfl;exact .inr ⟨f,rfl,B f rfl⟩;refine⟨false,P,[],(p.out h).1,?_,by rw[Px];exact p.more<|MD _,Rl.refl P⟩;simp[Nv,qpm h,aN,eG,zC,Px];rfl
def PB.wM(q:mQ H ws)(p:PB H ws P fs z e j)(x:j<=200)(y:z<=96)(s:3000000<=n)(a b:Int):
  ∃ok c,yY n P a b=some (ok,c)/\Vs n ⟨H,fs⟩ a b=some ok/\PB H ws c fs z e (j+1)/\c.N.length=P.N.length:=by by_cases h:(0<=a/\a<(fs.length:Int))/\0<=b/\b<(fs.length:Int);obtain⟨m,k,f,A,rfl,rfl,o,l⟩:=at2 h;have⟨d,c,g1,g2,t,u⟩:=p.test q x s o l;have w:=p.mV q y s o l g2;refine⟨d.isSome,c,g1,?_,t,u⟩;cases d<;>simp[Vs,w,Z3,aN]<;>rfl;exact⟨false,P,(p.out h).2,by simp only[Vs,qpm h,aN],p.more<|MD _,rfl⟩
def PB.wN(p:PB H ws P fs z e j)(d:j<=200)(q:z<=1000)(b:3000000<=n)(k:Int):
  ∃f ok,CW n P k=some (f,ok)/\JP n ⟨H,fs⟩ k=some (f,ok)/\(ok=true↔0<=k/\k<(fs.length:Int))/\O7 n f f=some true:=by by_cases h:0<=k/\k<(fs.length:Int);obtain⟨m,rfl⟩:=Aq h.1;have⟨f,a⟩:=eU (l:=fs) (i:=m) af;exact⟨f,true,p.read d b a,tu a,by simp only[true_iff];exact h,p.eq q b a⟩;refine⟨⟨[]⟩,false,z4a (by rw[p.has.len];exact h),Tz h,by simp only[gj,ML];exact h,?_⟩;have c:cT ⟨[]⟩ 1000:=⟨by simp,fun x o=>by cases o⟩;rw[tn c c b,G'.2 rfl];rfl
end
end Go.Proofs
namespace Go.Proofs
open Go Go.Rx Go.Vx Tryz
structure AL(n0:Nat)(h0:X (Nat×B))(kp:Nat)(P:PP)(h:X (Nat×B))(nx:Nat)(r:B)(h1:X (Nat×B))(n1:Nat):Prop where
 pl:PL n0 h0 kp P h1 n1
 at_:gt h1 nx=some r
 lo:∀k,k<nx->gt h1 k=gt h k
 le:nx<n1
section
variable{n0:Nat}{h0:X (Nat×B)}{kp:Nat}{P:PP}{h:X (Nat×B)}{nx:Nat}
def AL.more{r:B}{d:X (Nat×B)}{c:Nat}(a:AL n0 h0 kp P h nx r d c)(b:B):AL n0 h0 kp P h nx r ((c,b)::d) (c+1):=
 ⟨a.pl.more b,by rw[kF a.le];exact a.at_,fun k e=>by rw[kF<|qcV e a.le];exact a.lo k e,Ze a.le⟩
def AL.new(p:PL n0 h0 kp P h nx)(r:B):AL n0 h0 kp P h nx r ((nx,r)::h) (nx+1):=
 ⟨p.more r,by rw[aR,lr rfl],fun k a=>kF a,zN _⟩
end
section
variable{n0:Nat}{h0:X (Nat×B)}{kp:Nat}{P:PP}{h:X (Nat×B)}{nx:Nat}
def ss(a:FK):g2 (tA tb .eql 4) (.bool a) (.bool a)=some (.bool true):=by simp[g2,cf,tA,OV,kS,un4.h,qco]
def bk{g:PP}{e d:X (Nat×B)}{l j:Nat}(p:PL n0 h0 kp P h nx)(a:PS n0 h0 kp g e l d j)(o:nx+3<=l)(low:∀k,k<nx->gt e k=gt h k)(g2:gt e (nx+2)=some (.row [.J,.J,.J] 35))(b:B):PS n0 h0 kp g h nx (ug d (nx+2) b) j/\gt d (nx+2)=some (.row [.J,.J,.J] 35):=by have i:gt d (nx+2)=some (.row [.J,.J,.J] 35):=a.np _ _ af g2 ⟨nofun,nofun,nofun⟩;have:=p.le;refine⟨⟨a.pl.sE (K:=nx+2) af i ⟨nofun,nofun,nofun⟩ fun k f=>by rw[bV,hF<|WV f],Zt af a.le,fun k c f n m=>?_⟩,i⟩;rw[bV,hF af];exact a.np k c af (by rw[low k f];exact n) m
def PS.more{e:PP}{f:X (Nat×B)}{d:Nat}(a:PS n0 h0 kp e h nx f d)(b:B):PS n0 h0 kp e h nx ((d,b)::f) (d+1):=
 ⟨a.pl.more b,Zu a.le,fun k c g j i=>by rw[kF<|YR g a.le];exact a.np k c g j i⟩
variable{H:cR}{fs:X az}
def PB.wk{d:X Nat}{z e j f a c:Nat}(b:PB H d P fs z e j)(r:z<=f)(o:e<=a)(p:j<=c):PB H d P fs f a c:=by have⟨⟨v10,E,T,q,g,i,k⟩,l,m,n⟩:=b;exact⟨⟨v10,E,T,q,by omega,by omega,by omega⟩,by omega,by omega,by omega⟩
def dH(H:cR)(fs:X az)(o:rX)(nx:Nat)(h:X (Nat×B)):X (Nat×B):=(nx+2,.row [.J,.J,.J] 35)::(nx+1,.row (qH o) 41)::(nx,.row (jY ⟨H,fs⟩) 35)::h
variable{o:rX}
def bm{k:Nat}(a:k<nx):gt (dH H fs o nx h) k=gt h k:=by simp[dH];rw[aR,hF af,aR,hF af,aR,hF af]
def MH:gt (dH H fs o nx h) (nx+2)=some (.row [.J,.J,.J] 35):=by simp[dH];rw[aR,lr rfl]
def ll(p:PL n0 h0 kp P h nx):PL n0 h0 kp P (dH H fs o nx h) (nx+3):=((p.more _).more _).more _
def lj{n:Nat}(C:3000000<=n){G:X Nat}(y:mQ H G){z e j:Nat}(p:PL n0 h0 kp P h nx)(b:PB H G P fs z e j)(T:j<=200)(W:z<=90)(S:e<=1080)(o:rX)(O:o.Kind=0->o.F.D9.length<=6/\N9 H o.F):
  b7 prog 14 [.ptr kp 0 0,.agg<|jY ⟨H,fs⟩,.agg<|qH o] ⟨h,nx⟩ (fun u L=>∃d t I m,u=.a7 [.agg<|jY ⟨H,fs++t⟩,.bool true]/\L=⟨I,m⟩/\PS n0 h0 kp d h nx I m/\PB H G d (fs++t) (z+6) (e+72) (j+1)/\Rl P d t):=by
 refine b7.wf fun Y _=>?_
 haveI:ca nx (nx+1):=⟨rfl⟩
 haveI:ca (nx+1) (nx+2):=⟨rfl⟩
 haveI:ca (nx+2) (nx+3):=⟨rfl⟩
 haveI:ca (nx+3) (nx+4):=⟨rfl⟩
 haveI:Nq (nx+1) nx:=⟨by rw[beq_eq];simp⟩
 haveI:Nq (nx+2) nx:=⟨by rw[beq_eq];simp⟩
 haveI:Nq (nx+2) (nx+1):=⟨by rw[beq_eq];simp⟩
 haveI:Nq (nx+3) nx:=⟨by rw[beq_eq];simp⟩
 haveI:Nq (nx+3) (nx+1):=⟨by rw[beq_eq];simp⟩
 haveI:ca (nx+4) (nx+5):=⟨rfl⟩
 have V:=b.rl;refine w4 106 yy ?_;refine goN ?_;apply cK;refine goN ?_;have l:PL n0 h0 kp P (dH H fs o nx h) (nx+3):=ll p;by_cases D:o.Kind=0;refine eE rfl (fun _=>?_) (fun q=>by simp[D]at q);obtain⟨N,M⟩:=O D;obtain⟨d,g1,g2,R⟩:=b.put y af M;have q1:Nk n ⟨H,fs⟩ o.F=some (⟨H,fs++[o.F]⟩,(fs.length:Int)):=z4t af _;refine goN ?_;refine RS.w (u:=.agg [.iM bA o.F.D9]) rfl (kR fH.h rfl (aV fZ.h) rfl (P7 eK.h) rfl) ?_;refine goN ?_;refine aM rfl (pC (qny n ⟨H,fs⟩ o.F _ q1) _) Ja ?_;refine goN ?_;obtain⟨g,Q,x,Z⟩:=z4q (l.more<|.row (jY ⟨H,fs++[o.F]⟩) 35) g1;obtain⟨a,c⟩:=bk p Z af (fun k i=>by rw[aR,hF af];exact bm i) (by rw[aR,hF af];exact MH) (.row (jY ⟨H,fs++[o.F]⟩) 35)
 haveI:eK g (nx+3) (.row (jY ⟨H,fs++[o.F]⟩) 35):=⟨Z.np _ _ (zN _) (by rw[aR,lr rfl]) ⟨nofun,nofun,nofun⟩⟩
 haveI:eK g (nx+2) (.row [.J,.J,.J] 35):=⟨c⟩
 refine dE [(0,4),(5,4),(5,7),(6,7)] ?_;refine cC ?_;refine aQ (u:=.agg [.iM bA o.F.D9]) rfl (kR fH.h rfl (aV fZ.h) rfl (P7 eK.h) rfl) ?_;refine cC ?_;refine FD (by exact Go.Vx.wA) (hJ rfl LS rfl).2 x rfl rfl ?_;refine cC ?_;refine qB ?_;refine cC ?_;refine bB ⟨by kernel_rfl,⟨(by exact Go.Vx.iW),L6,L6,(by exact Go.Vx.iW),trivial⟩,?_⟩;refine goN ?_;refine⟨.inr rfl,_,nK (kR uU.h rfl (aV tI.h) rfl (P7 (by rw[bV,lr rfl,c];rfl)) rfl)<|dP rfl dU,_,⟨_,_⟩,a.le,Gh.refl _ _ _,d,[o.F],_,_,?_,rfl,a,g2.wk af af<|zF _,⟨by omega,nofun,.inr ⟨_,rfl,by omega⟩⟩⟩;show U.a7 [_,U.bool<|(fs.length:Int)==(fs.length:Int)]=_;rw[qco];rfl;refine eE rfl (fun q=>by simp[D]at q) (fun _=>?_);refine goN ?_;by_cases J:o.Kind=1;refine eE rfl (fun _=>?_) (fun q=>by simp[J]at q);obtain⟨ok,d,t,r,s,E,v⟩:=b.sA y af af af C o.A o.B;refine goN ?_;refine aM rfl (pC (qrm n ⟨H,fs⟩ o.A o.B _ s) _) yp ?_;refine goN ?_;refine j8 rfl (hJ rfl DX rfl).2 (WT (l.more<|.row (jY ⟨H,fs++t⟩) 35) n r) rfl rfl ?_;rintro _ _ ⟨g,Q,rfl,rfl,Z⟩;obtain⟨a,c⟩:=bk p Z af (fun k i=>by rw[aR,hF af];exact bm i) (by rw[aR,hF af];exact MH) (.row (jY ⟨H,fs++t⟩) 35)
 haveI:eK g (nx+3) (.row (jY ⟨H,fs++t⟩) 35):=⟨Z.np _ _ (zN _) (by rw[aR,lr rfl]) ⟨nofun,nofun,nofun⟩⟩
 haveI:eK g (nx+2) (.row [.J,.J,.J] 35):=⟨c⟩
 refine goN ?_;rw[qco];refine goN ?_;refine aS rfl (NQ rfl rfl (ss ok)) ?_;refine goN ?_;refine⟨.inr rfl,_,nK (kR uU.h rfl (aV tI.h) rfl (P7 (by rw[bV,lr rfl,c];rfl)) rfl)<|dP rfl dU,_,⟨_,_⟩,a.le,Gh.refl _ _ _,d,t,_,_,?_,rfl,a,E.wk af af<|zF _,v⟩;rfl;refine eE rfl (fun q=>by simp[J]at q) (fun _=>?_);refine goN ?_;by_cases K:o.Kind=2;refine eE rfl (fun _=>?_) (fun q=>by simp[K]at q);obtain⟨ok,d,r,s,E,v⟩:=b.wM y af af C o.A o.B;refine goN ?_;obtain⟨g,x,Z⟩:=td l n r;obtain⟨a,c⟩:=bk p Z af (fun k i=>bm i) MH (.row (jY ⟨H,fs⟩) 35)
 haveI:eK g nx (.row (jY ⟨H,fs⟩) 35):=⟨Z.np _ _ af (by simp only[dH];rw[aR,hF af,aR,hF af,aR,lr rfl]) ⟨nofun,nofun,nofun⟩⟩
 haveI:eK g (nx+1) (.row (qH o) 41):=⟨Z.np _ _ af (by simp only[dH];rw[aR,hF af,aR,lr rfl]) ⟨nofun,nofun,nofun⟩⟩
 haveI:eK g (nx+2) (.row [.J,.J,.J] 35):=⟨c⟩
 refine dE [(0,6),(7,6),(8,6),(9,6),(10,6),(11,6),(13,14)] ?_;refine cC ?_;refine FD (by exact Go.Vx.wA) (hJ rfl DW rfl).2 x rfl rfl ?_;refine cC ?_;refine dN rfl (pC<|qu7 n ⟨H,fs⟩ o.A o.B ok s) yn ?_;refine cC ?_;refine aQ rfl (NQ rfl rfl (ss ok)) ?_;refine cC ?_;refine qB ?_;refine cC ?_;refine bB ⟨by kernel_rfl,⟨(by exact Go.Vx.iW),(by exact Go.Vx.iW),L6,(by exact Go.Vx.iW),L6,(by exact Go.Vx.iW),(NQ rfl rfl (ss ok)),trivial⟩,?_⟩;refine goN ?_;refine⟨.inr rfl,_,nK (kR uU.h rfl (aV tI.h) rfl (P7 (by rw[bV,lr rfl,c];rfl)) rfl)<|dP rfl dU,_,⟨_,_⟩,a.le,Gh.refl _ _ _,d,[],_,_,?_,rfl,a,(by rw[Px];exact E.wk af af<|zF _),⟨by omega,fun _=>v,.inl rfl⟩⟩;rw[Px];rfl;refine eE rfl (fun q=>by simp[K]at q) (fun _=>?_);refine goN ?_;obtain⟨f,ok,r,s,_,v⟩:=b.wN af af C o.A
 haveI:eK (dH H fs o nx h) nx (.row (jY ⟨H,fs⟩) 35):=⟨by simp only[dH];rw[aR,hF af,aR,hF af,aR,lr rfl]⟩
 haveI:eK (dH H fs o nx h) (nx+1) (.row (qH o) 41):=⟨by simp only[dH];rw[aR,hF af,aR,lr rfl]⟩
 haveI:eK (dH H fs o nx h) (nx+2) (.row [.J,.J,.J] 35):=⟨MH⟩
 haveI:Nq (nx+3) (nx+2):=⟨by rw[beq_eq];simp⟩
 haveI:Nq (nx+4) nx:=⟨by rw[beq_eq];simp⟩
 haveI:Nq (nx+4) (nx+1):=⟨by rw[beq_eq];simp⟩
 haveI:Nq (nx+4) (nx+2):=⟨by rw[beq_eq];simp⟩
 haveI:Nq (nx+4) (nx+3):=⟨by rw[beq_eq];simp⟩
 refine j8 rfl (hJ rfl GP rfl).2 (Qe (h:=dH H fs o nx h) l n r) rfl rfl ?_;rintro _ _ ⟨rfl,rfl⟩;refine goN ?_;refine aM rfl (pC (qgs n ⟨H,fs⟩ o.A _ s) _) T5 ?_;refine goN ?_;refine dE [(8,9)] ?_;refine cC ?_;refine aQ rfl (NQ rfl rfl (ss ok)) ?_;refine cC ?_;refine dN rfl (pC<|Xg n f f true v) GO ?_;refine cC ?_;refine qB ?_;refine cC ?_;refine bB ⟨by kernel_rfl,⟨(by exact Go.Vx.iW),trivial⟩,?_⟩;refine goN ?_;obtain⟨a,c⟩:=bk p (⟨l,zF _,fun _ _ _ h _=>h⟩:PS n0 h0 kp P (dH H fs o nx h) (nx+3) (dH H fs o nx h) (nx+3)) (zF _) (fun k i=>bm i) MH<|.row (jY ⟨H,fs⟩) 35;refine⟨.inr rfl,_,nK (kR uU.h rfl (aV tI.h) rfl (P7 (by rw[aR,hF af,aR,hF af,bV,lr rfl,c];rfl)) rfl)<|dP rfl dU,_,⟨_,_⟩,(by show nx<=nx+5;omega),Gh.refl _ _ _,P,[],_,_,?_,rfl,(a.more _).more _,(by rw[Px];exact b.wk af af<|MD _),Rl.refl P⟩;rw[Px];rfl
end
end Go.Proofs
namespace Go.Proofs
open Go Go.Rx Go.Vx
def GV(H:cR)(o:rX):Prop:=o.Kind=0->o.F.D9.length<=6/\N9 H o.F
def qxp(H:cR){l:X rX}(s:l.length<=9223372036854775807){n:Nat}(t:3000000<=n):∀(m i:Nat),l.length-i<m->i<=l.length->(∀(k:Nat)(o:rX),k<i->l[k]? = some o->GV H o)->
  ∃b,Dm H l n m (i:Int)=some b/\(b=true->l.length<=16/\∀o∈l,GV H o)
 |0,i,hm,_,_=>by omega
 |m+1,i,hm,w,j=>by
  unfold Dm;by_cases a:i<l.length
  ·have⟨o,d⟩:=eU a;simp only[iU a,zC,c9,d,aN,kE a<|show l.length<=9223372036854775807 by omega];have next:GV H o->∃b,Dm H l n m ((i+1:Nat):Int)=some b/\(b=true->l.length<=16/\∀o∈l,GV H o):=fun c=>qxp H s t m (i+1) af af fun k u v g=>by by_cases e:k=i;subst e;rw[d]at g;cases g;exact c;exact j k u af g
   by_cases f:o.Kind=0
   ·rw[show(o.Kind==0)=true by simp[f],zC];by_cases p:(o.F.D9.length:Int)>6;rw[Zh p];exact⟨false,rfl,nofun⟩
    ·rw[Zb p,zD];obtain⟨b,r,q⟩:=zc4 H (l:=[o.F]) aZ (n:=n) af;rw[r];obtain _|_:=b;exact⟨false,rfl,nofun⟩;exact next fun _=>⟨by omega,q rfl _ aZ⟩
   ·rw[show(o.Kind==0)=false by simp[f],zD];exact next fun h=>absurd h f
  have:i=l.length:=by omega
  subst this;simp only[j9 a,zD,om];refine⟨_,rfl,fun h=>⟨by have:=K! h;omega,fun o d=>?_⟩⟩;have⟨k,c⟩:=Zc d;exact j k o (zG.1 c).1 c
def z31(H:cR){l:X rX}(a:l.length<=9223372036854775807){n:Nat}(d:3000000+l.length<=n):∃b,OK n H l=some b/\(b=true->l.length<=16/\∀o∈l,GV H o):=
 qxp H a af n 0 af (qq _) fun k o c=>af
end Go.Proofs
namespace Go.Vx
open Go Go.Rx
section
variable{C:PG}{T:Tb}(b:jW C.prog T){n0 n:Nat}{c:Jg Oper}{Q:Exit->X U->Sg->Prop}
include b
def I6.BK{id:Nat}{l:X (Nat×U)}{Y:Sg}(h:RI C T c n0 n Q c.size (replicate c.size false) l Y):I6 C n0 (.region id c true) (fr n l) Y Q:=fun t F x z m w a B g st r s ro j=>by
 apply wpIn_region_any b.mixed;rw[show(Array.replicate c.size false)=(replicate c.size false).toArray by simp];refine UB b (ro:=ro) j (n0:=n0) (F:=F) (x0:=x) (m0:=m) (w0:=w) (df:=a.defers) r st.fits (fun y d i v D A u k f o p q=>⟨y,d,i,v,u,k,f,o,p,by rw[q];exact s.kB st.fits f⟩) c.size _ a _ m l z x aZ (g ▸ h) ⟨st.h,st.fr,st.e,(bS.draw _ st.fits).fits,st.act⟩ (bS.draw _ st.fits) (Ke.refl _ _) (g ▸ t) rfl
end
end Go.Vx
namespace Go.Proofs
open Go Go.Rx Go.Vx Tryz
end Go.Proofs
namespace Go.Proofs
open Go Go.Rx Go.Vx
variable{P:X Int}{N:Nat}{u:Nat->Nat}{d:Nat->Nat}
def HM.two(h:HM P N u d){i j:Nat}{c:Int}(m:NT N u d i j)(a:P[j]? = some c):∃l:Nat,c=(l:Int)/\NT N u d i l:=by have⟨n,b,o⟩:=m;by_cases e:u j=j;exact⟨j,h.root j c a e,n,b,o⟩;have⟨l,f,g,k,p⟩:=h.fwd j c a e;exact⟨l,f,g,by rw[k,b],by omega⟩
def z1o{N:Nat}{u d:Nat->Nat}:∀(k i:Nat)(P:X Int),HM P N u d->P.length=N->d i<k->i<N->∃a,Pr k (i:Int) P=some ((u i:Int),a)/\HM a N u d/\a.length=N
 |0,i,P,_,_,t,_=>by omega
 |k+1,i,P,h,o,t,B=>by
  obtain⟨c,m,_⟩:=fJ (l:=P) (show i<P.length by omega);simp only[Pr,c9,m,aN];by_cases e:u i=i;have:=h.root i c m e;subst this;have f:((i:Int) != (i:Int))=false:=by simp
  simp only[f,zD,u_,e];exact⟨P,rfl,h,o⟩;obtain⟨j,r,g⟩:=h.fwd i c m e;have⟨y,z,A⟩:=g;subst r;have f:((j:Int) != (i:Int))=true:=by
   rw[JY];intro q;have:j=i:=by omega
   subst this;omega
  obtain⟨b,n,_⟩:=fJ (l:=P) (show j<P.length by omega);obtain⟨l,g1,g2⟩:=h.two g n;have s:=h.mK e g n;have p:(P.set (0+(i:Int).toNat) b)[i]? = some b:=by rw[Ty,zZ,YO af]
  simp only[f,zC,c9,n,aN,p];rw[Ty,zZ];have⟨a,v,w,x⟩:=z1o k l (P.set i b) s (by simp[o]) (YR g2.2.2 af) g2.1;subst g1;exact⟨a,by rw[v,g2.2.1],w,x⟩
variable{D:Nat}{C:Int}{E:Int}{cells:X aD}{T:X Int}{A:X (X aI)}{n:Nat}{v:Int}
def qq4(h:qU N D C E cells u d)(b:xJ N cells P T A u d)(o:D<n)(p:0<=v/\v<(N:Int))(f:X hX)(g:X kH)(i:X Int)(j:X (X aI)):
  ∃a,Pn n v f g P i j=some (rI u v,a)/\xJ N cells a T A u d:=by
 have c:v.toNat<N:=by omega
 have m:=h.b9.bd _ c;have⟨a,e,k,l⟩:=z1o n v.toNat P b.p9 b.lp af c;rw[show((v.toNat:Nat):Int)=v by omega]at e;exact⟨a,e,b.mK k l⟩
def Ml{p1 p2:Int}{P T:X Int}{A:X (X aI)}{r:Int×FK}:∀(m:Nat)(x y both:X aI)(W:X fB),x.length+y.length<m->gO x->gO y->both.length+x.length+y.length<=1000000->W.length+x.length<=1000000->
  G3 p1 p2 P T A r m x y both W=Yx p1 p2 P T A r (both++wJ x y) (W++(L9 x y).map pk)
 |0,x,y,both,W,hm,_,_,_,_=>by omega
 |m+1,[],[],both,W,hm,g,c,i,j=>by have e:decide ((([]:X aI).length:Int)>0)=false:=rfl;simp[G3,e,zD,aN,wJ,z4j,Px,ez]
 |m+1,x::a,[],both,W,hm,g,c,i,j=>by
  have k:decide (((x::a).length:Int)>0)=true:=by simp only[zO,zc];omega
  have p:((([]:X aI).length:Int)==0)=true:=rfl;simp[zO,zS]at hm i j;have f:=Ml (p1:=p1) (p2:=p2) (P:=P) (T:=T) (A:=A) (r:=r) m a [] (both++[x]) W (by simp[zS];omega) (pairwise_cons.1 g).2 c (by simp[zU,zO,zS];omega) af;simp only[G3,k,p,zC,aN,H?,Jl,Dt];rw[aE,lr af,f];have l:wJ (x::a) []=x::wJ a []:=by rw[wJ];cases a<;>rw[wJ];intro h;cases h;intro h;cases h
  rw[l,qtp,qtp];simp
 |m+1,[],y::b,both,W,hm,g,c,i,j=>by
  have k:decide ((([]:X aI).length:Int)>0)=false:=rfl;have p:decide (((y::b).length:Int)>0)=true:=by simp only[zO,zc];omega
  have l:(((y::b).length:Int)==0)=false:=by simp[zO,GZ];omega
  have w:((([]:X aI).length:Int)==0)=true:=rfl;simp[zO,zS]at hm i j;have f:=Ml (p1:=p1) (p2:=p2) (P:=P) (T:=T) (A:=A) (r:=r) m [] b (both++[y]) W (by simp[zS];omega) g (pairwise_cons.1 c).2 (by simp[zU,zO,zS];omega) (by simp[zS];omega);simp only[G3,k,p,l,w,zC,zD,aN,H?,Jl,Pt,Dt];rw[aE,lr af,f];simp[wJ,z4j]
 |m+1,x::a,y::b,both,W,hm,g,c,i,j=>by
  have k:decide (((x::a).length:Int)>0)=true:=by simp only[zO,zc];omega
  have l:(((y::b).length:Int)==0)=false:=by simp[zO,GZ];omega
  have z:(((x::a).length:Int)==0)=false:=by simp[zO,GZ];omega
  simp[zO]at hm i j;have t:=(pairwise_cons.1 g).2;have s:=(pairwise_cons.1 c).2;simp only[G3,k,l,z,zC,zD,aN,H?,Jl,Pt,Dt];rw[wJ];by_cases o:x.E2<y.E2;have f:=Ml (p1:=p1) (p2:=p2) (P:=P) (T:=T) (A:=A) (r:=r) m a (y::b) (both++[x]) W (by simp only[zO];omega) t c (by simp only[zU,zO,zS];omega) af;simp only[o,yC,zC,It];rw[aE,lr af,f,Dx c o];simp;by_cases q:y.E2<x.E2;have f:=Ml (p1:=p1) (p2:=p2) (P:=P) (T:=T) (A:=A) (r:=r) m (x::a) b (both++[y]) W (by simp[zO];omega) g s (by simp[zU,zO,zS];omega) (by simp[zO];omega);simp[o,q,yC,yB,zC,zD,It,MF];rw[aE,lr af,f,Dz g q];simp;have e:x.E2=y.E2:=by omega
  have f:=Ml (p1:=p1) (p2:=p2) (P:=P) (T:=T) (A:=A) (r:=r) m a b (both++[x]) (W++[⟨x.To,y.To⟩]) af t s (by simp[zU,zO,zS];omega) (by simp[zU,zO,zS];omega);simp[o,q,yB,zD,MF];rw[aE,lr af,aE,lr af,f,Ea c e];simp[pk]
def B!{h:cR}{I:X Nat}(m:mQ h I){N:Nat}{C:Int}{n:Nat}(H:2000000<=n):∀(k:Nat)(W:X (Int×Int))(c:X aD)(u d:Nat->Nat)(D:Nat)(P T:X Int)(A:X (X aI)),
  fI N D C I.length W c u d->xJ N c P T A u d->W.length+L4 c<k->D+W.length+L4 c<=500000->
  ∃B F y,RW h.Types h.E6 n k (ju W) P T A=some ((lT (wL n h) k W c u d).1,B,F,y)/\((lT (wL n h) k W c u d).1=true->xJ N (lT (wL n h) k W c u d).2.1 B F y (lT (wL n h) k W c u d).2.2.1 (lT (wL n h) k W c u d).2.2.2)
 |0,W,c,u,d,D,P,T,A,hr,f,o,_=>by omega
 |k+1,[],c,u,d,D,P,T,A,hr,f,o,G=>by have e:decide (((ju []).length:Int)>0)=false:=rfl;simp only[lT,RW,e,zD,t_];exact⟨P,T,A,rfl,fun _=>f⟩
 |k+1,p::W,c,u,d,D,P,T,A,hr,f,o,G=>by
  simp[zO]at o G;have⟨nO,o3⟩:=hr.wi p aZ;have⟨M,O,Q,R⟩:=Ed (ju W) (pk p) (by rw[z5t];omega);have⟨P1,f1,J⟩:=qq4 hr.hp f (n:=n) af nO h.Types h.E6 T A;have⟨P2,f2,b⟩:=qq4 hr.hp J (n:=n) af o3 h.Types h.E6 T A;have aT:=z5t W;rw[z94];unfold RW;simp only[M,O,Q,zC,aN,zZ,R];rw[aE,lr (by simp[zU,zO,zS];omega),aE,lr (by simp only[zU,zO,zS];omega)];simp[pk,f1,f2,aN];unfold lT;by_cases e:u p.1.toNat=u p.2.toNat;have i:(rI u p.1 != rI u p.2)=false:=by simp[rI,e]
  simp[i,zD];rw[lr e];exact B! m H k W c u d D P2 T A hr.skip b af af;have i:(rI u p.1 != rI u p.2)=true:=by simp[rI,JY];omega
  have a:=hr.two;have⟨t1,K⟩:=b.same _ _ a.cm a.em;have⟨t2,L⟩:=b.same _ _ a.cn a.en;have U:aB T (rI u p.1)=some (F4 c<|u p.1.toNat).kind:=by rw[rI,c9];exact t1
  have V:aB T (rI u p.2)=some (F4 c<|u p.2.toNat).kind:=by rw[rI,c9];exact t2
  have Y:aB A (rI u p.1)=some (F4 c<|u p.1.toNat).E3:=by rw[rI,c9];exact K
  have Z:aB A (rI u p.2)=some (F4 c<|u p.2.toNat).E3:=by rw[rI,c9];exact L
  have⟨z,S,_⟩:=fJ (l:=P2) (show u p.2.toNat<P2.length by rw[b.lp];exact a.hn);have i5:aB P2 (rI u p.2)=some z:=by rw[rI,c9];exact S
  simp[i,zC,r_,U,V,aN];rw[hF e];obtain⟨t,⟨⟨q1,q2⟩,w,g⟩,_⟩|⟨r,t,w,g,_⟩:=Uf m a.km a.kn (n:=n) af;simp only at g;subst g;have x:FY n (cR.mk h.Types h.E6) (F4 c<|u p.1.toNat).kind (F4 c<|u p.2.toNat).kind=some (q1,false):=w;simp only[t,x,aN,eG,zC];exact⟨_,_,_,rfl,fun q=>by cases q⟩;have x:FY n (cR.mk h.Types h.E6) (F4 c<|u p.1.toNat).kind (F4 c<|u p.2.toNat).kind=some (r,true):=w;have ta:=Bw a.cm;have tb:=Bw a.cn;have s:=Ml (p1:=rI u p.1) (p2:=rI u p.2) (P:=P2) (T:=T) (A:=A) (r:=(r,true)) n (F4 c<|u p.1.toNat).E3 (F4 c<|u p.2.toNat).E3 [] (ju W) af a.am.up a.an.up (by simp[zS];omega) af;simp[t,x,aN,Zr,zD,Y,Z,i5,s,Yx,X0];have hT:=a.L4 e r W;rw[zdh];have j:=xJ.U1 hr.hp b a.hm a.hn a.em a.en e r<|wJ (F4 c<|u p.1.toNat).E3 (F4 c<|u p.2.toNat).E3;have ih:=B! m H k _ _ _ _ (D+1) _ _ _ (hr.next e g) j af af;simpa only[rI,zZ,Ty]using ih
structure zm(N:Nat)(w:X Int)(o:X Int):Prop where
 len:w.length=N
 get:∀x:Int,0<=x->x<(N:Int)->w[x.toNat]? = some (if x∈o then(o.idxOf x:Int)else -1)
def zm.snoc{w o:X Int}(h:zm N w o)(i:0<=v/\v<(N:Int))(g:v ∉ o):zm N (w.set v.toNat (o.length:Int)) (o++[v]):=⟨by simp[h.len],fun x c f=>by
 rw[ja];by_cases e:v.toNat=x.toNat;have:v=x:=by omega
 subst this;rw[lr rfl,lr (by have:=h.len;omega)];simp[og,g];have b:x≠v:=fun q=>e (by rw[q]);rw[hF e,h.get x c f];by_cases a:x∈o;simp[a,og];simp[a,b]⟩
def z1t{N D B:Nat}{C E:Int}{cells:X aD}{u d:Nat->Nat}(h:qU N D C E cells u d)(Q:L4 cells<=B)(F:B<=500000)(hN:N<=1000)(hD:D<=500000){T:X Int}{A:X (X aI)}(j:X hX)(k:X kH):∀(n:Nat)(s:X Int×X aK)(v:Int)(w:X Int)(t:Nat)(P:X Int),Sn N B s->(0<=v/\v<(N:Int))->zm N w s.1->xJ N cells P T A u d->N-s.1.length+500001<n->
  ∃f y e,VV n v N j k w s.2 t P T A=some ((eg cells u n s v).1,f,(eg cells u n s v).2.2,y,e)/\zm N f (eg cells u n s v).2.1/\xJ N cells e T A u d
 |0,s,v,w,t,P,q,J,r,S,hn=>by omega
 |n+1,s,v,w,t,P,q,J,r,S,hn=>by
  have⟨P1,hf,z⟩:=qq4 h S (n:=n) af J j k T A;have hr:=h.rI J;have oP:=q.le;have hg:=r.get _ hr.1 hr.2;have qY:gU w 0 N (rI u v)=some (if rI u v∈s.1 then(s.1.idxOf (rI u v):Int)else -1):=by rw[gU,lr hr,Ty];exact hg
  show ∃f y e,v_ n (VV n) v N j k w s.2 t P T A=_/\_;simp[v_,hf,aN,qY];unfold eg;by_cases hm:rI u v∈s.1;have:decide ((s.1.idxOf (rI u v):Int)>=0)=true:=by simp
  simp only[hm,It,this,zC];exact⟨w,t,P1,rfl,r,z⟩;have Y:decide ((-1:Int)>=0)=false:=rfl;have H:=h.oB hr;have I:u (rI u v).toNat=(rI u v).toNat:=by rw[rI,zZ];exact h.b9.idem _ af
  have⟨t1,a1⟩:=z.same _ _ H I;have i1:aB T (rI u v)=some (pQ cells<|rI u v).kind:=by rw[show rI u v=(((rI u v).toNat:Nat):Int) by omega,c9];exact t1
  have i2:aB A (rI u v)=some (pQ cells<|rI u v).E3:=by rw[show rI u v=(((rI u v).toNat:Nat):Int) by omega,c9];exact a1
  have jo:=h.ar _ _ H;have Ge:=Bw H;have V:=q.snoc hr hm (pQ cells<|rI u v).kind;have yF:=V.le;simp[zU,zO,zS]at yF;have O:=q.len;simp[hm,MF,Y,zD,i1,i2,aN];rw[aE,lr af];have lJ:∀a∈(pQ cells<|rI u v).E3,0<=a.To/\a.To<(N:Int):=fun a G=>(jo.ok a G).2.2;have key:∀(m i:Nat)(c:X aI)(b:X Int×X aK)(w:X Int)(t:Nat)(P:X Int),(pQ cells<|rI u v).E3.length-i<m->i<=(pQ cells<|rI u v).E3.length->c.length=i->Sn N B b->s.1.length+1<=b.1.length->zm N w b.1->xJ N cells P T A u d->
    ∃f y e,Pu N j k s.2 T A (pQ cells<|rI u v).E3 (VV n) m (i:Int) c w b.2 t P=Yy s.2 (vK (eg cells u n) ((pQ cells<|rI u v).E3.drop i) b c).1 f (vK (eg cells u n) ((pQ cells<|rI u v).E3.drop i) b c).2.2 y e/\zm N f (vK (eg cells u n) ((pQ cells<|rI u v).E3.drop i) b c).2.1/\xJ N cells e T A u d/\Sn N B (vK (eg cells u n) ((pQ cells<|rI u v).E3.drop i) b c).2/\s.1.length+1<=(vK (eg cells u n) ((pQ cells<|rI u v).E3.drop i) b c).2.1.length:=by
   intro m;induction m with
   |zero=>intro i c b w t P hm;omega|succ m ih=>intro i c b w t P hm hi G o tR U M;unfold Pu;by_cases g:i<(pQ cells<|rI u v).E3.length;have⟨a,L,xB⟩:=fJ g;have W:=lJ a xB;have R:=o.le;have⟨K,t1,P1,g1,g2,p⟩:=z1t h Q F hN hD j k n b a.To w t P o W U M af;have⟨q1,q2,q3⟩:=N? h Q n b a.To o W af;simp only[iU g,zC,c9,L,aN,g1,kE g<|show(pQ cells<|rI u v).E3.length<=9223372036854775807 by omega];rw[aE,lr af,bC L,vK];exact ih (i+1) _ _ K t1 P1 af af (by simp[G]) q1 af g2 p;rw[bW g];simp only[j9 g,zD,vK];exact⟨w,t,P,rfl,U,M,o,tR⟩
  have⟨K,t1,Z,g1,g2,g5,p,g4⟩:=key n 0 [] (s.1++[rI u v],s.2++[⟨(pQ cells<|rI u v).kind,[]⟩]) (w.set (rI u v).toNat (s.2.length:Int)) (t+1) P1 af af rfl V aZ (by rw[O];exact r.snoc hr hm) z;rw[zV]at g1;rw[Za]at g1 g2 p g4;rw[g1];refine⟨K,t1,Z,?_,g2,g5⟩;have⟨x,hx,_⟩:=fJ (l:=(vK (eg cells u n) (pQ cells<|rI u v).E3 (s.1++[rI u v],s.2++[⟨(pQ cells<|rI u v).kind,[]⟩]) []).2.2) (show s.2.length<_ by have:=p.len;omega);simp[Yy,c9,hx,aN,Ty,zZ,La,<-O,zM,jf]
def pz(n:Nat)(cells:X aD)(u:Nat->Nat)(v:Int):az:=⟨(eg cells u n ([],[]) v).2.2⟩
def zag{p1:Int}{p2:X hX}{p3:X kH}{P T:X Int}{A:X (X aI)}{n N:Nat}(c:P.length=N)(g:N<=1000000):∀(m i:Nat),N-i<m->i<=N->Ps p1 p2 p3 P T A n m (i:Int) (replicate i (-1)++replicate (N-i) 0)=Yw p1 p2 p3 P T A n (replicate N<|-1)
 |0,i,hm,_=>by omega
 |m+1,i,hm,h=>by
  unfold Ps;rw[c,zZ];by_cases a:i<N;have b:N-i=(N-(i+1))+1:=by omega
  have e:gU (replicate i (-1:Int)++replicate (N-i) 0) 0 N (i:Int)=some 0:=by rw[gU,lr af,Ty,zZ,mu aZ,b];simp
  have f:(replicate i (-1:Int)++replicate (N-i) 0).set (i:Int).toNat (-1)=replicate (i+1) (-1)++replicate (N-(i+1)) 0:=by rw[b,Gi,zZ];have:=zb9 (replicate i (-1:Int)) (replicate (N-(i+1)) 0) 0<|-1;rw[qc2]at this;rw[this,replicate_succ',zT];rfl
  simp only[iU a,zC,e,aN,f,kE a<|show N<=9223372036854775807 by omega];exact zag c g m (i+1) af af;have:i=N:=by omega
  subst this;simp[j9 a,zD,mi,LM,Px]
def z7w(h:qU N D C E cells u d)(g:L4 cells<=500000)(j:N<=1000)(i:D<=500000)(f:xJ N cells P T A u d)(o:2000000<=n)(k:0<=v/\v<(N:Int))(p2:X hX)(p3:X kH):
  ∃c,Yu n v p2 p3 P T A=some (pz n cells u v,c):=by have b:=f.lp;have a:zm N (replicate N<|-1) []:=⟨by simp,fun x l m=>by rw[KW,lr af];simp⟩;have⟨q,p,c,g1,_⟩:=z1t h g af j i p2 p3 n ([],[]) v _ 0 P (Sn.nil N 500000) k a f (by simp;omega);have e:=zag (p1:=v) (p2:=p2) (p3:=p3) (T:=T) (A:=A) (n:=n) b af n 0 af af;rw[zV,wm,LM,X0]at e;refine⟨c,?_⟩;rw[Yu,aE,lr (by rw[b];simp;omega),b,zZ,e,Yw,b,zZ,g1];rfl
def z9n{b:X Int}{z:Int}{l23 l25:X Int}{l27:X (X aI)}{rc:Int->X Int->X Int->X (X aI)->V (X Int×X Int×X (X aI))}{x:aK}(j:x.E4.length<=1000)(g:b.length<=1000)(h:∀a∈x.E4,0<=a.To/\a.To<1000):∀(m i:Nat),x.E4.length-i<m->i<=x.E4.length->Pq b z l23 l25 l27 rc x m (i:Int) ((x.E4.take i).map (mB b.length))=HH b z l23 l25 l27 rc x (x.E4.map<|mB b.length)
 |0,i,hm,_=>by omega
 |m+1,i,hm,l=>by
  unfold Pq;by_cases c:i<x.E4.length;obtain⟨a,f,k⟩:=fJ c;have e:(x.E4.take i).map (mB b.length)++[aI.mk a.E2<|a.To+(b.length:Int)]=(x.E4.take<|i+1).map (mB b.length):=by rw[jB f,y_];rfl
  simp only[iU c,zC,c9,f,aN,Ry (h a k) g,kE c (show x.E4.length<=9223372036854775807 by omega),e];rw[aE,lr (by simp only[yA,Yz];omega)];exact z9n j g h m (i+1) af af;simp only[j9 c,zD];rw[zW af]
def z9m{l:X aK}(c:cT ⟨l⟩ 1000)(k:∀x∈l,∀a∈x.E4,0<=a.To/\a.To<1000){P T:X Int}{A:X (X aI)}(j:P.length<=1000)(t:T.length=P.length)(s:A.length=P.length){n:Nat}(w:2000<=n):∀(m i:Nat),l.length-i<m->i<=l.length->
  RV l P n m (i:Int) (P++oK P.length i) (T++(l.take i).map aK.R) (A++(l.take i).map fun x=>x.E4.map<|mB P.length)=some (P++oK P.length l.length,T++l.map aK.R,A++l.map fun x=>x.E4.map<|mB P.length)
 |0,i,hm,_=>by omega
 |m+1,i,hm,B=>by
  have y:l.length<=1000:=c.nodes;unfold RV;by_cases b:i<l.length;have⟨x,f,g⟩:=fJ b;have o:=c.E3 x g;have h:=fun l23 l25 l27=>z9n (z:=(i:Int)) (l23:=l23) (l25:=l25) (l27:=l27) (rc:=RV l P n m) o j (k x g) n 0 af af;simp[zV,lz,ez]at h;have e:A++((l.take i).map fun x=>x.E4.map<|mB P.length)++[x.E4.map<|mB P.length]=A++(l.take<|i+1).map fun x=>x.E4.map (mB P.length):=by rw[jB f,y_,zT];rfl
  have p:T++(l.take i).map aK.R++[x.R]=T++(l.take<|i+1).map aK.R:=by rw[jB f,y_,zT];rfl
  have r:i64.wrap ((P.length:Int)+(i:Int))=((P.length+i:Nat):Int):=PK af af;have q:P++oK P.length i++[((P.length+i:Nat):Int)]=P++oK P.length (i+1):=by rw[tg,zT]
  have F:=NV P.length i;simp only[iU b,zC,c9,f,aN];rw[aE,lr (by simp only[zU,F];omega),aE,lr (by simp[zU,yA,Yz];omega),h,HH,aE,lr (by simp only[zU,yA,Yz];omega),e,p,r,q,kE b<|show l.length<=9223372036854775807 by omega];exact z9m c k j t s w m (i+1) af af;have e:i=l.length:=by omega
  subst e;simp[j9 b,zD,s_,js]
def z9o{l:X aK}(b:cT ⟨l⟩ 1000)(h:∀x∈l,∀a∈x.E4,0<=a.To/\a.To<1000)(g:P.length<=1000)(e:T.length=P.length)(c:A.length=P.length)(f:2000<=n)(i:X hX)(j:X kH):
  Yt n l i j P T A=some (P++oK P.length l.length,T++l.map aK.R,A++l.map fun x=>x.E4.map<|mB P.length):=by have:=z9m b h g e c f n 0 (by have:l.length<=1000:=b.nodes;omega) af;rw[zV,lz,ez,ez,Px,Px,show oK P.length 0=[]from rfl,Px]at this;exact this
def z8s(h:qU N D C E cells u d)(e:N<n)(a:0<=v/\v<(N:Int)):pz n cells u v=cU (cG cells u) (rI u v):=by
 have b:(cG cells u).D9.length=N:=by simp[cG,h.len]
 have g:=h.rI a;have:=z6a h (zF _) n ([],[]) v (Sn.nil N _) a (by simp;omega) aZ;have⟨f,c⟩:=JK h.K5 (r:=rI u v) (by rw[gD,b];exact g);rw[pz,this];simp[zS,Za,X0,c n af,cU]
def qC(f:az)(x:X aK):X aD:=f.D9.map (Qd 0)++x.map (Qd f.D9.length)
def Zx{h:cR}{j:X Nat}(g:mQ h j)(i:2000<=n):ui j (wL n h):=⟨fun s t c f e=>by
  obtain⟨_,_,b⟩|⟨r,a,_⟩:=Uf g c f i;exact b;rw[a]at e;exact(Option.some_ne_none _ e).elim,fun s t r c f e=>by
  obtain⟨a,_⟩|⟨l,a,_,b,k⟩:=Uf g c f i;rw[a]at e;cases e;rw[a]at e;cases e;exact⟨b,k⟩⟩
def zdp{h:cR}{c:X Nat}(o:mQ h c){f x:az}(G:cT f 1000)(H:cT x 1000)(j:∀y∈f.D9,∀a∈y.E4,0<=a.To/\a.To<1000)(k:∀y∈x.D9,∀a∈y.E4,0<=a.To/\a.To<1000)(R:0<f.D9.length)(M:0<x.D9.length)
  (b:qU (f.D9.length+x.D9.length) 0 (1000:Int) (c.length:Int) (qC f x.D9) id (fun _=>0)) (V:L4 (qC f x.D9)<=400000) (S:f.D9.length+x.D9.length<=1000) (U:3000000<=n):
  ∃e,Wg n h f x=some (if(lT (wL n h) n [((0:Int),(f.D9.length:Int))] (qC f x.D9) id fun _=>0).1=true then(pz n (lT (wL n h) n [((0:Int),(f.D9.length:Int))] (qC f x.D9) id fun _=>0).2.1 (lT (wL n h) n [((0:Int),(f.D9.length:Int))] (qC f x.D9) id fun _=>0).2.2.1 0,true)else(⟨[]⟩,false))/\
   fI (f.D9.length+x.D9.length) 0 (1000:Int) (c.length:Int) [((0:Int),(f.D9.length:Int))] (qC f x.D9) id (fun _=>0)/\
   qU (f.D9.length+x.D9.length) e (1000:Int) (c.length:Int) (lT (wL n h) n [((0:Int),(f.D9.length:Int))] (qC f x.D9) id fun _=>0).2.1 (lT (wL n h) n [((0:Int),(f.D9.length:Int))] (qC f x.D9) id fun _=>0).2.2.1 (lT (wL n h) n [((0:Int),(f.D9.length:Int))] (qC f x.D9) id fun _=>0).2.2.2:=by
 have z:=b.len;have w:=xJ.init z;have m:=z9o (l:=f.D9) G j (P:=[]) (T:=[]) (A:=[]) aZ rfl rfl (n:=n) af h.Types h.E6;simp[zS,X0]at m;have i:=z9o (l:=x.D9) H k (P:=oK 0 f.D9.length) (T:=f.D9.map aK.R) (A:=f.D9.map fun x=>x.E4.map<|mB 0) (by rw[NV];omega) (by simp[NV]) (by simp[NV]) (n:=n) af h.Types h.E6;rw[NV,zd8]at i;have F:f.D9.map aK.R++x.D9.map aK.R=(qC f x.D9).map aD.kind:=by rw[qC,y_,eF,eF];rfl
 have B:(f.D9.map fun x=>x.E4.map<|mB 0)++(x.D9.map fun x=>x.E4.map<|mB f.D9.length)=(qC f x.D9).map aD.E3:=by rw[qC,y_,eF,eF];rfl
 rw[F,B]at i;have g:fI (f.D9.length+x.D9.length) 0 (1000:Int) (c.length:Int) [((0:Int),(f.D9.length:Int))] (qC f x.D9) id (fun _=>0):=⟨b,fun p b=>by simp[zI,oC,or_false]at b;subst b;exact⟨⟨by simp,by show(0:Int)<_;omega⟩,⟨by simp,by show(f.D9.length:Int)<_;omega⟩⟩⟩;have t:=z3d o (n:=n) af;have GE:[((0:Int),(f.D9.length:Int))].length+L4 (qC f x.D9)<n:=by simp[zO,zS];omega
 have⟨O,Q,L,I,J⟩:=B! o (n:=n) af n _ _ _ _ 0 _ _ _ g w GE (by simp only[zO,zS];omega);have⟨e,q,r⟩:=p' t n _ _ _ _ 0 g GE;have K:l_ n 0 (f.D9.length:Int) h.Types h.E6 (oK 0<|f.D9.length+x.D9.length) ((qC f x.D9).map aD.kind) ((qC f x.D9).map aD.E3)=RW h.Types h.E6 n n (ju [((0:Int),(f.D9.length:Int))]) (oK 0<|f.D9.length+x.D9.length) ((qC f x.D9).map aD.kind) ((qC f x.D9).map aD.E3):=rfl;refine⟨e,?_,g,r⟩;simp[Wg,m,aN,i,K,I];rcases s:(lT (wL n h) n [((0:Int),(f.D9.length:Int))] (qC f x.D9) id fun _=>0).1 with _|_;simp;have⟨P2,g1⟩:=z7w r (by simp only[zO,zS]at q;omega) af (by simp only[zO,zS]at q;omega) (J s) (n:=n) af (v:=0) ⟨by omega,by omega⟩ h.Types h.E6;simp[Zr,zD,g1,aN,It]
def Jx(y:aK):aD:=⟨-1,y.R,y.E4⟩
def Jr{L:X aK}{i:Nat}{y:aK}(h:L[i]? = some y):F4 (L.map Jx) i=Jx y:=by simp[F4,h]
def tcL{ws:X Nat}{L:X aK}{N:Nat}(o:L.length=N)(W:X (Int×Int)):TC ws N L W (L.map Jx) id:=by subst o;refine⟨fun j c a g p=>⟨a,by rw[id,Jr g];exact p,rfl,fun _ _ _=>rfl⟩,fun i b l _ m=>?_,fun i l _ k=>?_⟩;have⟨y,f⟩:=eU l;rw[Jr f]at m;exact⟨i,y,f,rfl,m⟩;have⟨y,f⟩:=eU l;rw[Jr f];refine⟨fun h j c g e=>?_,fun h=>h i y f rfl⟩;have e:j=i:=e;subst e;rw[f]at g;cases g;exact h
def O?{f g:az}:qC f g.D9=(Lj f g).map Jx:=by
 simp[qC,Lj,y_,eF];congr 1;refine X2 fun y _=>?_;have:y.E4.map (mB 0)=y.E4:=by rw[show mB 0=id from funext fun a=>by simp[mB],LB]
 simp[Qd,Jx,this]
def OX{h:cR}{ws:X Nat}(R:mQ h ws){f g:az}(O:jP f)(Q:jP g)(kf:KG ws f)(kg:KG ws g)(lf:0<f.D9.length)(lg:0<g.D9.length)(hN:f.D9.length+g.D9.length<=200)
  (I:∀x∈f.D9,x.E4.length<=1000/\gO x.E4/\∀a∈x.E4,a.E2<1000) (J:∀x∈g.D9,x.E4.length<=1000/\gO x.E4/\∀a∈x.E4,a.E2<1000) {n:Nat} (hn:3000000<=n):
  ∃G,Wg n h f g=some (Z3 G)/\UA ws (Lj f g) [(0,f.D9.length)] 0 G:=by
 have L:=UM O Q kf kg;have F:=Q8 f g;generalize M:f.D9.length+g.D9.length=N at*;have mem:∀c∈Lj f g,c.E4.length<=1000/\gO c.E4/\∀a∈c.E4,0<=a.E2/\a.E2<1000:=fun c k=>by obtain k |k:=yD.1 k;exact⟨(I c k).1,(I c k).2.1,fun a l=>⟨((O c k).L2 a l).1,(I c k).2.2 a l⟩⟩;obtain⟨x,s,rfl⟩:=mem_map.1 k;refine⟨by simpa[E5]using(J x s).1,Sb (J x s).2.1,fun a l=>?_⟩;obtain⟨b,z,rfl⟩:=mem_map.1 l;exact⟨((Q x s).L2 b z).1,(J x s).2.2 b z⟩
 have V:xI N ws (Lj f g):=⟨F,fun j c a W l=>by have:=L.to c (zX W) a l;rw[F]at this;exact this⟩;have w:qU N 0 1000 ws.length (qC f g.D9) id (fun _=>0):=by
  rw[O?];have key:∀{i:Nat}{c:aD},((Lj f g).map Jx)[i]? = some c->∃y,y∈Lj f g/\c=Jx y:=fun k=>by obtain⟨y,o,e⟩:=mem_map.1<|zX k;exact⟨y,o,e.symm⟩
  exact⟨⟨fun i B=>B,fun i B=>rfl,fun i B=>rfl,fun i B=>zF _⟩,⟨fun i c k _=>by obtain⟨y,_,rfl⟩:=key k;rfl,fun i c k cB=>absurd rfl cB⟩,by simp[F],fun i c k=>by
   obtain⟨y,o,rfl⟩:=key k;have m:=mem y o;refine⟨m.2.1,fun a l=>?_⟩;have t:=L.to y o a l;rw[F]at t;exact⟨(m.2.2 a l).1,(m.2.2 a l).2,t⟩,fun i c k=>by
   obtain⟨y,o,rfl⟩:=key k;exact L.ty y o⟩
 have ht:L4 (qC f g.D9)<=200000:=by
  have:=qwg (K:=1000) (cells:=qC f g.D9) fun c k=>by rw[O?]at k;obtain⟨y,o,rfl⟩:=mem_map.1 k;exact(mem y o).1
  have e:=w.len;rw[e]at this;omega
 subst M;have⟨D',e,hr,U⟩:=zdp R (f:=f) (x:=g) ⟨by omega,fun x s=>(I x s).1⟩ ⟨by omega,fun x s=>(J x s).1⟩ (fun y o a l=>by have:=((O y o).L2 a l);omega) (fun y o a l=>by have:=((Q y o).L2 a l);omega) lf lg w af af hn;have Z:=tcL (ws:=ws) F [((0:Int),(f.D9.length:Int))];rw[<-O?]at Z;have GE:[((0:Int),(f.D9.length:Int))].length+L4 (qC f g.D9)<n:=by simp[zO,zS];omega
 have⟨s1,Y⟩:=PR (Zx R (n:=n) af) V n _ _ _ _ 0 hr Z GE;have H:∀q,F7 q [(0,f.D9.length)]->IH (f.D9.length+g.D9.length) [((0:Int),(f.D9.length:Int))] id q:=fun q w=>⟨fun i j _ _ e=>by cases e;rfl,fun p h=>by rw[qa]at h;subst h;exact w (0,f.D9.length)<|mem_singleton.2 rfl⟩;cases z:(lT (wL n h) n [((0:Int),(f.D9.length:Int))] (qC f g.D9) id fun _=>0).1 with
 |false=>refine⟨none,by rw[e,z];rfl,⟨fun _ q S w=>(Y q S<|H q w).2 z,fun x s=>nomatch s⟩⟩|true=>have qg:=(s1 z).qg V U;have nN:=TQ (z3d R (n:=n) af) n _ _ _ _ 0 hr GE z ((0:Int),(f.D9.length:Int))<|mem_singleton.2 rfl;refine⟨some _,by rw[e,z,lr rfl,z8s U (n:=n) af (v:=0) af];rfl,⟨(fun e=>nomatch e),fun x s=>?_⟩⟩;cases s;refine⟨_,cG _ _,⟨qg.hm,U.K5,fun i y B o=>(qg.kd _ y o (qg.rt i B).2).1,fun p w=>?_,fun q S w i j B W he=>((Y q S<|H q w).1 z).r i j af af he⟩,rfl⟩;rw[qa]at w;subst w;simpa using nN
end Go.Proofs
namespace Go.Proofs
open Go Go.Rx Go.Vx Tryz
section
variable{n0:Nat}{h0:X (Nat×B)}{kp:Nat}{P:PP}{h:X (Nat×B)}{nx:Nat}
def AL.lH{r:B}{c:X (Nat×B)}{d:Nat}(a:AL n0 h0 kp P h nx r c d)(e:B)(f:n0<=nx)(g:NP r):AL n0 h0 kp P h nx e (ug c nx e) d :=
 ⟨a.pl.sE f a.at_ g (fun k b=>by rw[bV,hF<|WV b]),by rw[bV,lr rfl,a.at_];rfl,fun k b=>by rw[bV,hF af];exact a.lo k b,a.le⟩
def qyn{n:Nat}(A:3000000<=n){H:cR}{G:X Nat}{d t:X az}{z e j:Nat}(p:PL n0 h0 kp P h nx)(b:PB H G P (d++t) z e j)(x:j<=200):
  b7 prog 25 [.ptr kp 0 0,.i6 d.length] ⟨h,nx⟩ (fun u Y'=>u=.iM eY d/\Y'=⟨h,nx⟩):=by
 refine b7.wf fun F _=>?_
 haveI:ca nx (nx+1):=⟨rfl⟩
 have y:=b.rl;rw[zU]at y;have E:=p.le;apply eO 25 Jb;apply(goN);refine gV 5 39 1 (nx+1) ?_ (h0:=zF _);refine gL (fun m r Y=>∃(i:Nat)(l:X (Nat×B))(g st:Nat),m=d.length-i/\i<=d.length/\AL n0 h0 kp P h nx (.bv eY (d.take i) 39 1 st) l g/\r=fr 25 [(0,.ptr kp 0 0),(1,.i6 d.length),(5,.vl nx st 0 (d.take i).length),(6,.i6 i)]/\Y=⟨l,g⟩)
  (fun r Y=>∃(l:X (Nat×B))(g st:Nat),AL n0 h0 kp P h nx (.bv eY d 39 1 st) l g/\r=fr 25 [(5,.vl nx st 0 d.length)]/\Y=⟨l,g⟩) (d.length-0)
  ⟨0,_,_,0,rfl,qq _,AL.new p _,rfl,rfl⟩ ?_ ?_ (MD _)
 rintro _ _ ⟨l,g,st,a,rfl,rfl⟩;apply(goN);refine⟨.inr rfl,_,dP rfl dU,.iM eY d,⟨h,nx⟩,zF _,Rm (c:=eY) (xs:=d) (e:=39) (sz:=1) (K:=nx) (st:=st) F (zF _) a.at_ a.lo (ep a.le) (tm':=[.iM eY d]) ?_ ?_<|zF _,rfl,rfl⟩;exact congrArg (fun u=>[u])<|HL (c:=eY) (sz:=1) (fun _=>rfl) d nx 1 39 st;exact⟨by simp[aW];exact tF _ (fun q=>Vk _ q) d,trivial⟩
 ·rintro m _ _ ⟨i,l,g,st,rfl,J,a,rfl,rfl⟩
  haveI:ca g (g+1):=⟨rfl⟩
  haveI:ca (g+1) (g+2):=⟨rfl⟩
  apply(goN);refine eE rfl (fun q=>?_) (fun q=>?_)
  ·have o:i<d.length:=by simpa using q
   have⟨f,s⟩:=eU o;apply(goN);apply cK;apply(goN);apply j8 rfl (hJ rfl GP rfl).2 (Qe a.pl n<|b.read x A (k:=i) (f:=f) (by rw[mc o];exact s)) rfl rfl;rintro _ _ ⟨rfl,rfl⟩;apply(goN);have v:=(a.more<|.row (eY f) 39).more (.row (eY f) 39);have w:d.take (i+1)=d.take i++[f]:=by rw[take_succ,s];rfl
   have C:(d.take i).length<=200:=by rw[Yz];omega
   apply aS (u:=.sl (g+1) 0 1 1) (Y':=⟨(g+1,.row (eY f) 39)::(g,.row (eY f) 39)::l,g+2⟩) rfl (vQ yP.h fZ.h rfl rfl rfl rfl rfl rfl rfl);apply(goN);apply aS (u:=.vl nx (st+1) 0 (d.take i++[f]).length) (Y':=⟨ug ((g+1,.row (eY f) 39)::(g,.row (eY f) 39)::l) nx<|.bv eY (d.take i++[f]) 39 1<|st+1,g+2⟩) rfl (qV rfl rfl rfl rfl (ED eY [f] yP.h yP.h fZ.h rfl (fun _=>rfl) v.at_ (FU eY [f] (q:=eY f) (by simp[rowOf,aR]) rfl rfl rfl) ⟨by simp only[qb4];omega,by simp only[qb4];omega⟩));apply(goN);have D:i64.wrap ((i:Int)+1)=((i+1:Nat):Int):=by rw[oX af af];rfl
   refine⟨d.length-(i+1),_,_,by omega,⟨i+1,_,_,st+1,rfl,o,by rw[w];exact v.lH (.bv eY (d.take i++[f]) 39 1<|st+1) E ⟨nofun,nofun,nofun⟩,rfl,rfl⟩,Zt (ep a.le)<|il _ _,Gh.sub ?_⟩;rw[<-D,w];(repeat refine⟨rfl,?_⟩);exact trivial
  ·have I:i=d.length:=by simp at q;omega
   subst I;apply(goN);refine⟨_,_,⟨_,_,st,by have:=a;rw[js]at this;exact this,rfl,rfl⟩,ep a.le,Gh.sub ?_⟩;rw[js]
   (repeat refine⟨rfl,?_⟩);exact trivial
end
def PL.dn{l f kp:Nat}{g j:X (Nat×B)}{P:PP}{h:X (Nat×B)}{nx:Nat}(p:PL l g kp P h nx)(e:f<=l)(o:∀k,k<f->gt g k=gt j k):PL f j kp P h nx :=
 ⟨by have⟨q,st,nm,a,b,c,d⟩:=p.ex;exact⟨q,st,nm,a,by omega,fun i m=>Zt e<|c i m,d⟩,Zt e p.kp,fun k n=>by rw[p.lo k af,o k n],Zt e p.le⟩
def z4g{n:Nat}(K:3000000<=n){g:cR}{s:X Nat}(J:mQ g s){l:X rX}(U:l.length<=16)(I:∀(o:rX),o∈l->GV g o)(A v10:B):
  b7 prog 24 [.agg<|fK g,.iM qH l] ⟨[(1,A),(0,v10)],2⟩ (fun u F=>∃(kp:Nat)(P:PP)(c:X az)(h:X (Nat×B))(nx:Nat),u=.a7 [.ptr kp 0 0,.i6 c.length]/\F=⟨h,nx⟩/\PL 2 [(1,A),(0,v10)] kp P h nx/\PB g s P c (6*l.length) (72*l.length) l.length):=by
 apply eO 32 yw;apply(goN);refine u6 (fun q Y=>∃(kp a:Nat)(h:X (Nat×B))(nx:Nat),PL 3 [(2,.row (fK g) 27),(1,A),(0,v10)] kp (wH g) h nx/\gt h a=some (.row (jY ⟨g,[]⟩) 35)/\3<=a/\a<nx/\q=fr 32 [(1,.iM qH l),(6,.ptr kp 0 0),(7,.ptr a 0 0)]/\Y=⟨h,nx⟩) ?_ ?_
 ·rintro _ _ ⟨kp,a,h,nx,p,d,x,j,rfl,rfl⟩;apply(goN);refine gL (fun m q Y=>∃(i:Nat)(c:X az)(P:PP)(h:X (Nat×B))(nx:Nat),m=l.length-i/\i<=l.length/\PB g s P c (6*i) (72*i) i/\PL 3 [(2,.row (fK g) 27),(1,A),(0,v10)] kp P h nx/\gt h a=some (.row (jY ⟨g,c⟩) 35)/\a<nx/\q=fr 32 [(6,.ptr kp 0 0),(7,.ptr a 0 0),(14,.iM qH l),(15,.i6 l.length),(16,.i6 i)]/\Y=⟨h,nx⟩) (fun q Y=>∃(c:X az)(P:PP)(h:X (Nat×B))(nx:Nat),PB g s P c (6*l.length) (72*l.length) l.length/\PL 3 [(2,.row (fK g) 27),(1,A),(0,v10)] kp P h nx/\gt h a=some (.row (jY ⟨g,c⟩) 35)/\q=fr 32 [(6,.ptr kp 0 0),(7,.ptr a 0 0)]/\Y=⟨h,nx⟩) (l.length-0)
   ⟨0,[],wH g,h,nx,rfl,qq _,PB.new,p,d,j,rfl,rfl⟩ ?_ ?_ (by show 2<=nx;omega)
  rintro _ _ ⟨c,P,h,nx,b,p,d,rfl,rfl⟩
  haveI:eK h a (.row (jY ⟨g,c⟩) 35):=⟨d⟩
  have N:=p.le;apply(goN);apply dE [];refine cC ?_;refine bB ⟨by kernel_rfl,trivial,?_⟩;apply(goN);exact Bi rfl rfl rfl rfl (by show 2<=nx;omega) ⟨kp,P,c,h,nx,rfl,rfl,p.dn af (fun k w=>by rw[aR,hF af]),b⟩;rintro m _ _ ⟨i,c,P,h,nx,rfl,T,b,p,d,j,rfl,rfl⟩
  haveI:ca nx (nx+1):=⟨rfl⟩
  have N:=p.le;apply(goN);refine eE rfl (fun v=>?_) (fun v=>?_)
  ·have D:i<l.length:=by simpa using v
   have⟨o,C⟩:=eU D;have M:aB l (i:Int)=some o:=by rw[c9,C]
   apply(goN);apply cK;apply(goN);apply c8 M
   haveI:eK h a (.row (jY ⟨g,c⟩) 35):=⟨d⟩
   haveI:Nq nx a:=⟨by rw[beq_eq];simp;omega⟩
   apply(goN);apply j8 rfl (hJ rfl yy rfl).2 (lj K J (p.more<|.row (qH o) 41) b af af af o<|I o<|zX C) rfl rfl;rintro _ _ ⟨z,t,r,E,rfl,rfl,y,G,H⟩;have S:=y.le;have e:gt r a=some (.row (jY ⟨g,c⟩) 35):=y.np _ _ af (by rw[aR,hF af];exact d) ⟨nofun,nofun,nofun⟩
   haveI:eK r a (.row (jY ⟨g,c⟩) 35):=⟨e⟩
   let f:B:=.row (jY ⟨g,c++t⟩) 35
   have R:gt (ug r a f) a=some f:=by rw[bV,lr rfl,e];rfl
   have O:PL 3 [(2,.row (fK g) 27),(1,A),(0,v10)] kp z (ug r a f) E:=y.pl.sE x e ⟨nofun,nofun,nofun⟩ (fun k w=>by rw[bV,hF<|WV w]);apply(goN);have L:i64.wrap ((i:Int)+1)=((i+1:Nat):Int):=by rw[oX af af];rfl
   refine⟨l.length-(i+1),_,_,by omega,⟨i+1,c++t,z,_,_,rfl,D,G.wk af af<|zF _,O,R,by omega,rfl,rfl⟩,by show 2<=E;omega,Gh.sub ?_⟩;rw[<-L];(repeat refine⟨rfl,?_⟩);exact trivial
  ·have Q:i=l.length:=by simp at v;omega
   subst Q;apply(goN);exact⟨_,_,⟨_,_,_,_,b,p,d,rfl,rfl⟩,by show 2<=nx;omega,Gh.sub<|by((repeat refine⟨rfl,?_⟩);exact trivial)⟩
 ·refine I6.BK bQ ?_
  repeat' first
   |exact trivial
   |refine⟨rfl,?_⟩
   |refine And.intro ?_ ?_
   |(show ul _ _ _ _ _ _ _ _ _;refine Exists.intro _ ⟨rfl,rfl,rfl,?_⟩;first
     |refine .inl ⟨.agg<|fK g,_,kR uV.h rfl (aV DD.h) rfl rfl rfl,_,_,Gh.refl _ _ _,NL,?_⟩
     |refine .inl ⟨_,_,qy5 tI.h rfl rfl,_,_,Gh.refl _ _ _,NL,?_⟩
     |refine .inl ⟨_,_,PE rfl,_,_,Gh.refl _ _ _,NL,?_⟩
     |refine .inl ⟨_,_,qy9 (aV tI.h) rfl rfl rfl rfl rfl rfl rfl rfl,_,_,Gh.refl _ _ _,NL,?_⟩
     |(refine .inr<|.inl ⟨_,_,_,qW rfl rfl Jc rfl rfl rfl,zao g _ _,?_⟩;rintro _ _ ⟨rfl,rfl⟩;refine⟨_,_,Gh.refl _ _ _,NL,?_⟩)
     |(refine .inr<|.inl ⟨_,_,_,qW rfl rfl yz rfl rfl rfl,pC (qw5 n g _ rfl) _,?_⟩;rintro _ _ ⟨rfl,rfl⟩;refine⟨_,_,Gh.refl _ _ _,NL,?_⟩))
  all_goals first
   |exact⟨_,_,Gh.refl _ _ _,NL,_,⟨(6,.row (jY ⟨g,[]⟩) 35)::IN g 3 [(2,.row (fK g) 27),(1,A),(0,v10)],7⟩,⟨4,6,_,_,(z3j g (zF _) fun _ _=>rfl).more _,rfl,by omega,by omega,rfl,rfl⟩,NL,Gh.sub<|by((repeat refine⟨rfl,?_⟩);exact trivial)⟩|exact⟨_,_,Gh.refl _ _ _,NL,_,⟨IN g 4 [(3,.row (jY ⟨g,[]⟩) 35),(2,.row (fK g) 27),(1,A),(0,v10)],7⟩,⟨5,3,_,_,z3j g af (fun k w=>by rw[aR,hF af]),rfl,by omega,by omega,rfl,rfl⟩,NL,Gh.sub<|by((repeat refine⟨rfl,?_⟩);exact trivial)⟩
end Go.Proofs
namespace Go.Proofs
open Go Go.Rx Go.Vx
def zdn{F:X Nat}(W:∀w∈F,w≠0){f g:az}(of:px F f)(D:px F g){E:V az}(h:UA F (Lj f g) [(0,f.D9.length)] 0 E):UA F (Lj g f) [(0,g.D9.length)] 0 E:=by
 have Z:=of.ne;have Y:=D.ne;have S:=Q8 f g;have L:=Q8 g f
 let o:Nat->Nat:=fun i=>if i<g.D9.length then f.D9.length+i else i-g.D9.length
 have m:∀{i},i<g.D9.length->o i=f.D9.length+i:=fun l=>lr l;have n:∀i,o (g.D9.length+i)=i:=fun i=>by show(if _ then _ else _)=_;rw[hF af];omega
 have A?:o 0=f.D9.length:=m Y;have M:o g.D9.length=0:=n 0;have inj:∀i j,i<(Lj g f).length->j<(Lj g f).length->o i=o j->i=j:=fun i j l B e=>by rw[L]at l B;by_cases O:i<g.D9.length;by_cases K:j<g.D9.length;rw[m O,m K]at e;omega;obtain⟨t,rfl⟩:=G_<|ya K;rw[m O,n]at e;omega;obtain⟨s,rfl⟩:=G_<|ya O;by_cases K:j<g.D9.length;rw[n,m K]at e;omega;obtain⟨t,rfl⟩:=G_<|ya K;rw[n,n]at e;omega
 have N:∀{i:Nat}{c:aK},(Lj g f)[i]? = some c->(i<g.D9.length/\g.D9[i]? = some c/\(Lj f g)[o i]? = some (E5 f.D9.length c))\/∃t,i=g.D9.length+t/\(∃x,c=E5 g.D9.length x/\f.D9[t]? = some x/\(Lj f g)[o i]? = some x):=fun{i c} l=>by by_cases q:i<g.D9.length;rw[TO q]at l;exact .inl ⟨q,l,by rw[m q,GU,l];rfl⟩;obtain⟨t,rfl⟩:=G_<|ya q;rw[GU]at l;rcases C:f.D9[t]? with _|x;rw[C]at l;cases l;rw[C]at l;exact .inr ⟨t,rfl,x,(Option.some.inj l).symm,C,by rw[n,TO (zG.1 C).1,C]⟩
 have hm:Hm F (Lj g f) (Lj f g) o:=by
  refine⟨fun i l=>?_,fun i c a l G=>?_,fun i y b l z H=>?_,fun i y l z k=>?_⟩;rw[L]at l;rw[S];by_cases q:i<g.D9.length;rw[m q];omega;obtain⟨t,rfl⟩:=G_<|ya q;rw[n];omega;obtain⟨q,v,r⟩|⟨t,rfl,x,rfl,v,r⟩:=N l;have:=D.to i c a v G;exact⟨_,mB f.D9.length a,r,X1 G,rfl,by rw[m af];show a.To+(f.D9.length:Int)=_;omega⟩;obtain⟨b,H,rfl⟩:=mem_map.1 G;have:=of.to t x b v H;exact⟨_,b,r,H,rfl,by rw[show(mB g.D9.length b).To.toNat=g.D9.length+b.To.toNat by show(b.To+(g.D9.length:Int)).toNat=_;omega,n];omega⟩;have⟨c,A⟩:=eU l;obtain⟨q,v,r⟩|⟨t,rfl,x,rfl,v,r⟩:=N A;rw[r]at z;cases z;obtain⟨a,G,rfl⟩:=mem_map.1 H;have:=D.to i c a v G;exact⟨i,c,a,A,rfl,G,rfl,by rw[m af];show a.To+(f.D9.length:Int)=_;omega⟩;rw[r]at z;cases z;have:=of.to t y b v H;exact⟨_,_,mB g.D9.length b,A,rfl,X1 H,rfl,by rw[show(mB g.D9.length b).To.toNat=g.D9.length+b.To.toNat by show(b.To+(g.D9.length:Int)).toNat=_;omega,n];omega⟩;have⟨c,A⟩:=eU l;have P:c.R=y.R:=by obtain⟨q,v,r⟩|⟨t,rfl,x,rfl,v,r⟩:=N A;rw[r]at z;cases z;rfl;rw[r]at z;cases z;rfl
  refine⟨fun q j d B e=>?_,fun q=>by rw[<-P];exact q i c A rfl⟩;have:=inj j i (zG.1 B).1 l e;subst this;rw[A]at B;cases B;rw[P];exact q
 have R:UA F (Lj f g) [(0,f.D9.length)] (o 0) E:=by rw[A?];refine⟨h.no,fun x C=>?_⟩;have⟨I,Q,u,e⟩:=h.yes x C;exact⟨I,Q,u,by rw[e];have:=u.eq (0,f.D9.length)<|mem_singleton.2 rfl;rw[this]⟩
 refine UA.tr W (UM of.K5 D.K5 of.kg D.kg) hm (UM D.K5 of.K5 D.kg of.kg) (fun q _ _ i j l B e=>by rw[inj i j l B e]) (fun I T p J=>?_) (fun p J=>?_) (by rw[L];omega) R;rw[qa]at J;subst J;show I (o 0)=I (o g.D9.length);rw[A?,M];exact(T (0,f.D9.length)<|mem_singleton.2 rfl).symm;rw[qa]at J;subst J;exact⟨g.D9.length,0,by rw[A?,M],by rw[L];omega,by rw[L];omega,fun q _ U=>(U (0,g.D9.length)<|mem_singleton.2 rfl).symm⟩
end Go.Proofs
