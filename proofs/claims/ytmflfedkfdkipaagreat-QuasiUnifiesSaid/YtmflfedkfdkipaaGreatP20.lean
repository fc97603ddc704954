import Derived.Test.YtmflfedkfdkipaaGreatP19
set_option linter.all false
set_option maxRecDepth 10000
open List Go.IntKind
open Nat hiding beq_eq
namespace Go.Proofs
open Go Go.Rx Go.Vx
def qwj:∀{a b:X aI},gO a->gO b->(∀x,x∈a↔x∈b)->a=b
 |[],[],_,_,_=>rfl|[],y::b,_,_,h=>by have:=(h y).2 aZ;cases this
 |x::a,[],_,_,h=>by have:=(h x).1 aZ;cases this
 |x::a,y::b,i,j,h=>by
  have g:=pairwise_cons.1 i;have d:=pairwise_cons.1 j;have e:x=y:=by rcases zI.1 ((h x).1 aZ)with e |e;exact e;rcases zI.1 ((h y).2 aZ)with f |f;exact f.symm;have:=g.1 y f;have:=d.1 x e;omega
  subst e;rw[qwj g.2 d.2 fun z=>⟨fun c=>by
   rcases zI.1 ((h z).1 (lu _ c))with e |e;subst e;have:=g.1 z c;omega;exact e,fun c=>by
   rcases zI.1 ((h z).2 (lu _ c))with e |e;subst e;have:=d.1 z c;omega;exact e⟩]
structure QG(ws:X Nat)(L:X aK)(r:Nat->Nat)(g:az):Prop where
 len:g.D9.length=L.length
 rt:∀i,i<L.length->r i<L.length/\r (r i)=r i
 kd:∀i x,g.D9[i]? = some x->r i=i->(0<=x.R/\x.R<(ws.length:Int))/\∀k,(eI ws x.R).testBit k=true↔∀j c,L[j]? = some c->r j=i->(eI ws c.R).testBit k=true
 ds:∀i x,g.D9[i]? = some x->r i=i->kC x.E4
 gE:∀j c a,L[j]? = some c->a∈c.E4->∃x b,g.D9[r j]? = some x/\b∈x.E4/\b.E2=a.E2/\b.To=(r a.To.toNat:Int)
 snd:∀i x b,g.D9[i]? = some x->r i=i->b∈x.E4->∃j c a,L[j]? = some c/\r j=i/\a∈c.E4/\b.E2=a.E2/\b.To=(r a.To.toNat:Int)
def zbu{a:X Nat}(i:a.Nodup){s t:Int}(j:0<=s/\s<(a.length:Int))(k:0<=t/\t<(a.length:Int))(h:eI a s=eI a t):s=t:=by have g:=HQ j;have b:=HQ k;rw[<-h]at b;have⟨c,e⟩:=zG.1 g;have⟨d,f⟩:=zG.1 b;have:=(Gw (h₀:=c) (h₁:=d) i).1 (by rw[e,f]);omega
def Lnk(N:Nat)(r:Nat->Nat)(W:X (Int×Int))(x y:Nat):Prop:=∀q:Nat->Nat,(∀i j,i<N->j<N->r i=r j->q i=q j)->(∀p∈W,q p.1.toNat=q p.2.toNat)->q x=q y
structure xI(N:Nat)(ws:X Nat)(L:X aK):Prop where
 len:L.length=N
 ar:∀(j:Nat)(c:aK)(a:aI),L[j]? = some c->a∈c.E4->0<=a.To/\a.To<(N:Int)
structure TC(ws:X Nat)(N:Nat)(L:X aK)(W:X (Int×Int))(cells:X aD)(aA:Nat->Nat):Prop where
 gE:∀(j:Nat)(c:aK)(a:aI),L[j]? = some c->a∈c.E4->∃b∈(F4 cells (aA j)).E3,b.E2=a.E2/\Lnk N aA W b.To.toNat a.To.toNat
 snd:∀(i:Nat)(b:aI),i<N->aA i=i->b∈(F4 cells i).E3->∃(j:Nat)(c:aK),L[j]? = some c/\aA j=i/\b∈c.E4
 kd:∀(i:Nat),i<N->aA i=i->∀k:Nat,(eI ws (F4 cells i).kind).testBit k=true↔∀(j:Nat)(c:aK),L[j]? = some c->aA j=i->(eI ws c.R).testBit k=true
def oV(L:X aK)(q:Nat->Nat):Prop:=∀(i j:Nat)(c e:aK)(a b:aI),L[i]? = some c->L[j]? = some e->q i=q j->a∈c.E4->b∈e.E4->a.E2=b.E2->q a.To.toNat=q b.To.toNat
def TH(a:X Nat)(L:X aK)(q:Nat->Nat):Prop:=∃i,i<L.length/\∀k:Nat,∃(j:Nat)(c:aK),L[j]? = some c/\q j=q i/\(eI a c.R).testBit k=false
structure IH(N:Nat)(W:X (Int×Int))(aA q:Nat->Nat):Prop where
 r:∀i j,i<N->j<N->aA i=aA j->q i=q j
 w:∀p∈W,q p.1.toNat=q p.2.toNat
variable{c:X aD}{m:Nat}{n:Nat}
def WB(hm:m<c.length)(b:n<c.length)(d:m≠n)(t:Int)(o:X aI)(i:Nat):
  F4 (yT c m n t o) i=if i=n then⟨(m:Int),0,[]⟩else if i=m then⟨-1,t,o⟩else F4 c i:=by simp[F4,yT,ja,fG];by_cases e:i=n;subst e;simp[b];rw[hF fun q=>e q.symm,hF e];by_cases a:i=m;subst a;simp[hm];rw[hF fun q=>a q.symm,hF a]
variable{ws:X Nat}{N:Nat}{L:X aK}{W:X (Int×Int)}{p:Int×Int}{F:Nat->Nat}
def TC.skip(h:TC ws N L (p::W) c F)(hp:Mf N p)(e:F p.1.toNat=F p.2.toNat):TC ws N L W c F where
 gE j x a hj ha:=by have⟨b,h1,h2,h3⟩:=h.gE j x a hj ha;refine⟨b,h1,h2,fun q q1 q2=>h3 q q1 fun z hz=>?_⟩;obtain rfl |hz:=zI.1 hz;exact q1 _ _ (by have:=hp.1;omega) (by have:=hp.2;omega) e;exact q2 z hz
 snd:=h.snd
 kd:=h.kd
structure Mg(N:Nat)(p:Int×Int)(c:X aD)(F:Nat->Nat)(m n:Nat):Prop where
 len:c.length=N
 hm:m<N
 hn:n<N
 em:F m=m
 en:F n=n
 ne:m≠n
 lt:∀i,i<N->F i<N
 idem:∀i,i<N->F (F i)=F i
 pi:Mf N p
 pp:(F p.1.toNat=m/\F p.2.toNat=n)\/(F p.1.toNat=n/\F p.2.toNat=m)
 dm:kC (F4 c m).E3
def fI.mg{D:Nat}{a b:Int}{d:Nat->Nat}(f:fI N D a b (p::W) c F d)(e:F p.1.toNat≠F p.2.toNat):Mg N p c F (F p.1.toNat) (F p.2.toNat):=
 have T:=f.two
 ⟨f.hp.len,T.hm,T.hn,T.em,T.en,e,f.hp.b9.lt,f.hp.b9.idem,f.wi p aZ,.inl ⟨rfl,rfl⟩,T.am.up.X3⟩
def TC.U1(S:xI N ws L){W':X (Int×Int)}(T:Mg N p c F m n)(h:TC ws N L (p::W) c F){t:Int}{o:X aI}
  (V:eI ws t=eI ws (F4 c m).kind&&&eI ws (F4 c n).kind) (H:o.Perm ((F4 c m).E3++kO (F4 c m).E3 (F4 c n).E3)) (w1:∀z∈L9 (F4 c m).E3 (F4 c n).E3,z∈W') (w2:∀z∈W,z∈W'):
  TC ws N L W' (yT c m n t o) (fQ F m n):=by
 have⟨nO,o3⟩:=T.pi;have v:=T.ne;have aT:=T.len;have M:m<c.length:=by have:=T.hm;omega
 have Q:n<c.length:=by have:=T.hn;omega
 have C:=WB M Q v t o;have Y:∀j,j<N->F (F j)=F j:=T.idem;have Z:∀{j:Nat}{x:aK},L[j]? = some x->j<N:=fun f=>by have:=(zG.1 f).1;rw[S.len]at this;exact this
 have mono:∀i j,F i=F j->fQ F m n i=fQ F m n j:=fun i j e=>U' e;have u:∀{x y:Nat},Lnk N F (p::W) x y->Lnk N (fQ F m n) W' x y:=fun{x y} hl q q1 q2=>by
  refine hl q (fun i j D f e=>q1 i j D f<|mono i j e) fun z B=>?_;obtain rfl |B:=zI.1 B
  apply q1 _ _ af af;unfold fQ;obtain⟨w,J⟩|⟨w,J⟩:=T.pp;rw[w,J,hF v,lr rfl];rw[w,J,hF v,lr rfl];exact q2 z (w2 z B)
 refine⟨fun j x a f U=>?_,fun i b D r s=>?_,fun i D r k=>?_⟩;have⟨b,A,K,G⟩:=h.gE j x a f U;by_cases E:F j=n;have w:fQ F m n j=m:=by unfold fQ;rw[lr E]
 rw[w,C,hF v,lr rfl];rw[E]at A;show ∃b∈o,_;by_cases P:yV (F4 c m).E3 b.E2=true;have⟨z,B,R⟩:=QL.1 P;refine⟨z,H.mem_iff.2<|mw _ B,by omega,fun q q1 q2=>?_⟩;have O:(z.To,b.To)∈L9 (F4 c m).E3 (F4 c n).E3:=mem_filterMap.2 ⟨b,A,by rw[z2d T.dm B R];rfl⟩;have:=q2 (z.To,b.To)<|w1 _ O;rw[this];exact u G q q1 q2;refine⟨b,H.mem_iff.2 (mr _<|mem_filter.2 ⟨A,by simpa using P⟩),K,u G⟩;have w:fQ F m n j=F j:=by unfold fQ;rw[hF E]
 rw[w,C,hF E];by_cases em:F j=m;rw[lr em];rw[em]at A;exact⟨b,H.mem_iff.2<|mw _ A,K,u G⟩;rw[hF em];exact⟨b,A,K,u G⟩;by_cases l:i=n;subst l
 rw[C,lr rfl]at s;cases s;rw[C,hF l]at s;by_cases d:i=m;subst d;rw[lr rfl]at s;rcases yD.1 (H.mem_iff.1 s)with s |s;have⟨j,x,q1,q2,q3⟩:=h.snd _ b T.hm T.em s;exact⟨j,x,q1,by unfold fQ;rw[q2,hF v],q3⟩;have⟨j,x,q1,q2,q3⟩:=h.snd _ b T.hn T.en (mem_filter.1 s).1;exact⟨j,x,q1,by unfold fQ;rw[q2,lr rfl],q3⟩;rw[hF d]at s;have I:F i=i:=by unfold fQ at r;split at r;exact absurd r.symm d;exact r
 have⟨j,x,q1,q2,q3⟩:=h.snd i b D I s;exact⟨j,x,q1,by unfold fQ;rw[q2,hF l],q3⟩;by_cases l:i=n;subst l
 unfold fQ at r;rw[T.en,lr rfl]at r;exact absurd r v;rw[C,hF l];by_cases d:i=m;subst d;rw[lr rfl];show(eI ws t).testBit k=true↔_;rw[V,wz,eR,h.kd _ T.hm T.em,h.kd _ T.hn T.en];constructor;rintro⟨g1,g2⟩ j x f Gj;unfold fQ at Gj;by_cases e:F j=n;exact g2 j x f e;rw[hF e]at Gj;exact g1 j x f Gj;intro g;exact⟨fun j x f e=>g j x f (by unfold fQ;rw[e,hF v]),fun j x f e=>g j x f (by unfold fQ;rw[lr e])⟩;rw[hF d];have I:F i=i:=by unfold fQ at r;split at r;exact absurd r.symm d;exact r
 rw[h.kd i D I];constructor;intro g j x f e;apply g j x f;unfold fQ at e;split at e;exact absurd e.symm d;exact e;intro g j x f e;exact g j x f (by unfold fQ;rw[e,hF l])
def IH.U1(E:xI N ws L){W':X (Int×Int)}{q:Nat->Nat}(T:Mg N p c F m n)(h:TC ws N L (p::W) c F)(H:oV L q)(a:IH N (p::W) F q)(w:∀z∈W',z∈L9 (F4 c m).E3 (F4 c n).E3\/z∈W):
  q m=q n/\IH N W' (fQ F m n) q:=by
 have⟨S,U⟩:=T.pi;have A:=a.w p aZ;have l:q m=q n:=by obtain⟨o,s⟩|⟨o,s⟩:=T.pp;have b:q m=q p.1.toNat:=a.r _ _ T.hm af (by rw[T.em,o]);have d:q n=q p.2.toNat:=a.r _ _ T.hn af (by rw[T.en,s]);rw[b,d,A];have b:q n=q p.1.toNat:=a.r _ _ T.hn af (by rw[T.en,o]);have d:q m=q p.2.toNat:=a.r _ _ T.hm af (by rw[T.em,s]);rw[b,d,A]
 refine⟨l,fun i j u v e=>?_,fun z g=>?_⟩
 ·have O:q (F i)=q i:=a.r _ _ (T.lt i u) u<|T.idem i u;have P:q (F j)=q j:=a.r _ _ (T.lt j v) v<|T.idem j v;rw[<-O,<-P];unfold fQ at e;split at e
  ·next t=>
   split at e
   ·next f=>rw[t,f]
   ·next f=>rw[t,<-l,e]
  ·next t=>
   split at e
   ·next f=>rw[f,<-l,e]
   ·next f=>rw[e]
 obtain g |g:=w z g;obtain⟨x,I,y,J,G,rfl⟩:=qvw g;have⟨j,Q,q1,q2,q3⟩:=h.snd _ x T.hm T.em I;have⟨B,R,D,K,M⟩:=h.snd _ y T.hn T.en J;have C:=(zG.1 q1).1;have k:=(zG.1 D).1;rw[E.len]at C k;refine H j B Q R x y q1 D ?_ q3 M G;have b:q j=q m:=a.r _ _ C T.hm (by rw[T.em,q2]);have d:q B=q n:=a.r _ _ k T.hn (by rw[T.en,K]);rw[b,d,l];exact a.w z (lu _ g)
structure ui(ws:X Nat)(mt:Int->Int->V Int):Prop where
 no:∀s t,(0<=s/\s<(ws.length:Int))->(0<=t/\t<(ws.length:Int))->mt s t=none->eI ws s&&&eI ws t=0
 yes:∀s t r,(0<=s/\s<(ws.length:Int))->(0<=t/\t<(ws.length:Int))->mt s t=some r->(0<=r/\r<(ws.length:Int))/\eI ws r=eI ws s&&&eI ws t
def PR{ws:X Nat}{mt:Int->Int->V Int}(u:ui ws mt){N:Nat}{y:Int}{L:X aK}(g:xI N ws L):∀(k:Nat)(W:X (Int×Int))(c:X aD)(F d:Nat->Nat)(D:Nat),fI N D y ws.length W c F d->TC ws N L W c F->W.length+L4 c<k->
  ((lT mt k W c F d).1=true->TC ws N L [] (lT mt k W c F d).2.1 (lT mt k W c F d).2.2.1)/\
  ∀q,oV L q->IH N W F q->((lT mt k W c F d).1=true->IH N [] (lT mt k W c F d).2.2.1 q)/\((lT mt k W c F d).1=false->TH ws L q)
 |0,W,c,F,d,D,Q,h,v=>by omega
 |k+1,[],c,F,d,D,Q,h,v=>⟨fun _=>h,fun q _ f=>⟨fun _=>f,fun e=>(by cases e)⟩⟩|k+1,p::W,c,F,d,D,Q,h,v=>by
  simp[zO]at v;unfold lT;by_cases e:F p.1.toNat=F p.2.toNat;rw[lr e];have⟨g1,g2⟩:=PR u g k W c F d D Q.skip (h.skip (Q.wi p aZ) e) af;exact⟨g1,fun q l f=>g2 q l ⟨f.r,fun z a=>f.w z<|lu _ a⟩⟩;rw[hF e];have T:=Q.two;cases hm:mt (F4 c<|F p.1.toNat).kind (F4 c<|F p.2.toNat).kind with
  |none=>
   refine⟨fun q=>(by cases q),fun q l f=>⟨fun q=>(by cases q),fun _=>?_⟩⟩;have⟨B,_⟩:=f.U1 g (Q.mg e) h l (W':=W) fun z a=>.inr a;have E:=u.no _ _ T.km T.kn hm;refine⟨F p.1.toNat,by rw[g.len];exact T.hm,fun b=>?_⟩;have o:(eI ws (F4 c<|F p.1.toNat).kind).testBit b=false\/(eI ws (F4 c<|F p.2.toNat).kind).testBit b=false:=by have:=congrArg (fun x=>x.testBit b) E;simp only[wz,Ib,Ln]at this;exact this
   have find:∀i,i<N->F i=i->(eI ws (F4 c i).kind).testBit b=false->∃(j:Nat)(x:aK),L[j]? = some x/\F j=i/\(eI ws x.R).testBit b=false:=fun i I O H=>by
    refine qj fun C=>?_;have:=(h.kd i I O b).2 fun j x J A=>by rcases M:(eI ws x.R).testBit b with _|_;exact absurd ⟨j,x,J,A,M⟩ C;rfl
    rw[H]at this;cases this
   obtain o |o:=o;have⟨j,x,q1,q2,q3⟩:=find _ T.hm T.em o;have s:=(zG.1 q1).1;rw[g.len]at s;exact⟨j,x,q1,f.r _ _ s T.hm (by rw[T.em,q2]),q3⟩;have⟨j,x,q1,q2,q3⟩:=find _ T.hn T.en o;have s:=(zG.1 q1).1;rw[g.len]at s;exact⟨j,x,q1,by rw[B];exact f.r _ _ s T.hn (by rw[T.en,q2]),q3⟩
  |some t=>have⟨K,G⟩:=u.yes _ _ _ T.km T.kn hm;have P:=T.L4 e t W;have⟨g1,g2⟩:=PR u g k _ _ _ (CT F d<|F p.2.toNat) (D+1) (Q.next e K) (h.U1 g (Q.mg e) G (Nn _ _ T.am.up T.an.up).pm (fun z a=>mw _<|mem_reverse.2 a) fun z a=>mr _ a) af;exact⟨g1,fun q l f=>g2 q l (f.U1 g (Q.mg e) h l fun z a=>by obtain a |a:=yD.1 a;exact .inl<|mem_reverse.1 a;exact .inr a).2⟩
def TC.qg{D:Nat}{u:Int}(A:xI N ws L){d:Nat->Nat}(l:qU N D u ws.length c F d)(h:TC ws N L [] c F):QG ws L F (cG c F):=by
 have o:=A.len;have G:=l.len;have node:∀{i:Nat}{x:aK},(cG c F).D9[i]? = some x->i<N/\c[i]? = some (F4 c i)/\x=G6 F (F4 c i):=fun{i x} k=>by
  simp only[cG,me]at k;rcases f:c[i]? with _|y;rw[f]at k;cases k;have g:i<N:=by have:=(zG.1 f).1;omega
  have:=l.F4 g;rw[f]at this;cases this;rw[f]at k;exact⟨g,rfl,(Option.some.inj k).symm⟩
 refine⟨by simp[cG,G,o],fun i g=>?_,fun i x k H=>?_,fun i x k H=>?_,fun j y a s B=>?_,fun i x b k H C=>?_⟩;rw[o]at g ⊢;exact⟨l.b9.lt i g,l.b9.idem i g⟩;obtain⟨g,f,rfl⟩:=node k;exact⟨l.kd i _ f,h.kd i g H⟩;obtain⟨g,f,rfl⟩:=node k;exact(ZG (l.ar i _ f).up).X3;obtain⟨b,v,w,z⟩:=h.gE j y a s B;have t:=(zG.1 s).1;rw[o]at t;have f:=l.F4<|l.b9.lt j t;refine⟨G6 F<|F4 c<|F j,vE F b,by simp only[cG,me,f,zM],X1 v,w,?_⟩;simp only[vE,rI];rw[z F (fun _ _ _ _ e=>e) fun _ E=>by cases E];obtain⟨g,f,rfl⟩:=node k;obtain⟨r,q,rfl⟩:=mem_map.1 C;obtain⟨j,y,q1,q2,q3⟩:=h.snd i r g H q;exact⟨j,y,r,q1,q2,q3,rfl,rfl⟩
def E5(k:Nat)(x:aK):aK:=⟨x.R,x.E4.map<|mB k⟩
def z1f{r g:X aK}{z:Nat}{l10:X aK}{rc:Int->X aK->V (X aK)}{x:aK}(d:g[z]? = some x)(l:x.E4.length<=1200)(h:r.length<=1000)(f:∀a∈x.E4,0<=a.To/\a.To<1000):∀(m i:Nat),x.E4.length-i<m->i<=x.E4.length->
  Ok r g (z:Int) l10 rc x m (i:Int) ((x.E4.take i).map (mB r.length))=Xd (z:Int) l10 rc x (x.E4.map<|mB r.length)
 |0,i,hm,_=>by omega
 |m+1,i,hm,q=>by
  unfold Ok;by_cases b:i<x.E4.length;have⟨a,e,o⟩:=fJ b;simp only[c9,d,aN,iU b,zC,e,kE b<|show x.E4.length<=9223372036854775807 by omega];rw[gW (by simp[yA,Yz];omega)];have j:=Ry (f a o) (k:=r.length) af;rw[j];have:=z1f (l10:=l10) (rc:=rc) d l h f m (i+1) af af;rw[jB e,y_]at this;exact this;have:i=x.E4.length:=by omega
  subst this;simp[c9,d,aN,j9 b,zD,js]
def z1e{s b:X aK}(f:s.length<=1000)(q:b.length<=1000)(g:∀x∈b,x.E4.length<=1200/\∀a∈x.E4,0<=a.To/\a.To<1000){n:Nat}(o:1300<=n):∀(m i:Nat),b.length-i<m->i<=b.length->
  QX s b n m (i:Int) (s++(b.take i).map (E5 s.length))=some (s++b.map (E5 s.length))
 |0,i,hm,_=>by omega
 |m+1,i,hm,r=>by
  unfold QX;by_cases d:i<b.length;have⟨x,e,j⟩:=fJ d;have⟨k,l⟩:=g x j;simp only[iU d,zC,c9,e,aN];have:=z1f (l10:=s++(b.take i).map (E5 s.length)) (rc:=QX s b n m) e k f l n 0 af af;rw[zV,lz,ez]at this;rw[this,Xd,gW (by simp[zU,yA,Yz];omega),kE d af];have h:=z1e f q g o m (i+1) af af;rw[jB e,y_,<-zT]at h;exact h;have:i=b.length:=by omega
  subst this;simp[j9 d,zD,dz,js]
variable{n:Nat}
def zbo{h b:X aK}(d:h.length<=1000)(f:b.length<=1000)(e:∀x∈b,x.E4.length<=1200/\∀a∈x.E4,0<=a.To/\a.To<1000)(g:2000<=n):Np n h b=some (h++b.map (E5 h.length)):=by have:=z1e d f e (n:=n) af n 0 af af;rw[zV,lz,ez,Px]at this;rw[Np,gW af,this]
structure CK(N:Nat)(cl:X Int)(r:Nat->Nat):Prop where
 len:cl.length=N
 get:∀i,i<N->cl[i]? = some (r i:Int)
 le:∀i,i<N->r i<=i
 idem:∀i,i<N->r (r i)=r i
variable{N:Nat}{cl:X Int}{r:Nat->Nat}
def CK.lt(h:CK N cl r){i:Nat}(a:i<N):r i<N:=by have:=h.le i a;omega
def CK.at(h:CK N cl r){v:Int}(a:0<=v/\v<(N:Int)):aB cl v=some (r v.toNat:Int):=by rw[show v=((v.toNat:Nat):Int) by omega,c9,h.get _ af,zZ]
def nA(lo a:Int)(l:X Int):X Int:=l.map fun x=>if x==a then lo else x
def z0y{N:Nat}(b:N<=1000000):∀(m i:Nat),N-i<m->i<=N->Ow (N:Int) m (i:Int) (oK 0 i)=some (oK 0 N)
 |0,i,hm,_=>by omega
 |m+1,i,hm,d=>by
  unfold Ow;by_cases a:i<N;simp only[iU a,zC,kE a<|show N<=9223372036854775807 by omega];rw[gW (by rw[NV];omega)];have:=z0y b m (i+1) af af;rw[tg,Ty]at this;exact this;have:i=N:=by omega
  subst this;simp[j9 a,zD,ik]
def qwq(a:N<=1000000)(b:N<n):Nx n (N:Int)=some (oK 0 N):=by have:=z0y a n 0 af af;rw[zV]at this;exact this
def qo3{d:Type}(a b:X d)(x y:d)(k:Nat)(h:a.length=k):(a++x::b).set (0+k) y=a++y::b:=by subst h;simp
def ce(lo d:Int)(a b:X Int):nA lo d (a++b)=nA lo d a++nA lo d b:=y_
def U8{lo a x:Int}(h:(x==a)=true):nA lo a [x]=[lo]:=by simp only[nA,zQ,ez,h,It]
def U9{lo a x:Int}(h:(x==a)=false):nA lo a [x]=[x]:=by simp only[nA,zQ,ez,h];rfl
def qxx{x4 x6 x8 x10:Int}:∀(m:Nat)(a b:X Int),b.length<m->a.length+b.length<=1000000->
  R8 x4 x6 x8 x10 m (a.length:Int) (nA (if x6<x4 then x6 else x4) (if x10>x8 then x10 else x8) a++b)=some (nA (if x6<x4 then x6 else x4) (if x10>x8 then x10 else x8)<|a++b)
 |0,a,b,hm,_=>by omega
 |m+1,a,[],hm,g=>by
  unfold R8;have:decide (((a.length:Nat):Int)<((nA (if x6<x4 then x6 else x4) (if x10>x8 then x10 else x8) a++[]).length:Int))=false:=by simp[nA]
  rw[this,zD,ii,Px,Px]
 |m+1,a,x::b,hm,g=>by
  simp[zO]at hm g;unfold R8;have h:decide (((a.length:Nat):Int)<((nA (if x6<x4 then x6 else x4) (if x10>x8 then x10 else x8) a++x::b).length:Int))=true:=by simp[nA];omega
  have i:(nA (if x6<x4 then x6 else x4) (if x10>x8 then x10 else x8) a++x::b)[a.length]? = some x:=by rw[mu<|by simp[nA]];simp[nA]
  have j:i64.wrap ((a.length:Int)+1)=((a.length+1:Nat):Int):=by rw[wr af af];simp
  have d:=qxx (x4:=x4) (x6:=x6) (x8:=x8) (x10:=x10) m (a++[x]) b af (by simp[zU,zO,zS];omega);simp only[zU,zO,zS,Ty]at d;simp only[h,zC,c9,i,aN,zZ,Xq,j];have f:a++[x]++b=a++x::b:=by simp
  by_cases e:(x==(if x10>x8 then x10 else x8))=true;rw[ce,U8 e,zT,Zg,X0]at d;rw[e,zC,qo3 _ _ _ _ _ (by simp[nA]),d,f];rw[X!]at e;rw[ce,U9 e,zT,Zg,X0]at d;rw[e,zD,d,f]
variable{a:Nat}{b:Nat}
def Ro:(if(b:Int)<(a:Int)then(b:Int)else(a:Int))=((min a b:Nat):Int):=by split;rw[UH af];rw[pg af]
def sg:(if(b:Int)>(a:Int)then(b:Int)else(a:Int))=((max a b:Nat):Int):=by split;rw[Nat.max_eq_right af];rw[Nat.max_eq_left af]
def CK.U1(h:CK N cl r)(j:a<N)(k:b<N):CK N (nA ((min (r a) (r b):Nat):Int) ((max (r a) (r b):Nat):Int) cl) (fQ r (min (r a)<|r b)<|max (r a)<|r b):=by
 have l:=h.idem a j;have o:=h.idem b k;have g:r (min (r a)<|r b)=min (r a) (r b):=by rcases Qj (r a) (r b)with f |f;rw[pg f,l];rw[UH f,o]
 refine⟨by simp[nA,h.len],fun i d=>?_,fun i d=>?_,fun i d=>?_⟩;simp only[nA,me,h.get i d,zM,zA];unfold fQ;by_cases e:r i=max (r a) (r b);rw[lr e,e];simp;rw[hF e];have:((r i:Int)==((max (r a) (r b):Nat):Int))=false:=by simp only[GZ,ea];omega
 rw[this];rfl
 ·have:=h.le i d;unfold fQ;split
  ·next e=>omega
  exact this
 have:=h.idem i d;unfold fQ;by_cases e:r i=max (r a) (r b);rw[lr e,g];split<;>rfl;rw[hF e,this,hF e]
def z5d(h:CK N cl r)(f:N<=1000000){a b:Int}(d:0<=a/\a<(N:Int))(e:0<=b/\b<(N:Int))(i:N<n):
  Wi n cl a b=some (nA ((min (r a.toNat) (r b.toNat):Nat):Int) ((max (r a.toNat) (r b.toNat):Nat):Int) cl):=by have g:=h.len;simp[Wi,h.at d,h.at e,aN];rw[gW af];have:=qxx (x4:=(r a.toNat:Int)) (x6:=(r b.toNat:Int)) (x8:=(r a.toNat:Int)) (x10:=(r b.toNat:Int)) n [] cl af (by simp[zS];omega);simp only[zS,nA,ez,X0,zV]at this;rw[this,Ro,sg];rfl
def qz2{l:X aI}{f:Int}(h:l.length<=1000000):∀(m i:Nat),l.length-i<m->i<=l.length->Pd l f m (i:Int)=some (match (l.drop i).find? fun x=>x.E2==f with |some x=>(x.To,true)|none=>(0,false))
 |0,i,hm,_=>by omega
 |m+1,i,hm,j=>by unfold Pd;by_cases d:i<l.length;obtain⟨x,g,_⟩:=fJ d;simp only[iU d,zC,c9,g,aN,kE d (show l.length<=9223372036854775807 by omega),bC g,Hn];rcases e:x.E2==f with _|_;simp only[zD];exact qz2 h m (i+1) af af;simp only[zC];simp only[j9 d,zD,bW d,oq,find?_nil]
def z5x{l:X aI}{f:Int}(d:l.length<=1000000)(e:l.length<n):dv n l f=some (match l.find? fun x=>x.E2==f with |some x=>(x.To,true)|none=>(0,false)):=by have:=qz2 (f:=f) d n 0 af af;rw[zV,Za]at this;exact this
def ua(q:fB):Int×Int:=(q.E0,q.E1)
def qx3{a b:X aI}(f:kC a)(g:kC b):kC (a++kO a b):=by unfold kC at*;rw[oy];refine⟨f,g.filter _,fun x h y i e=>?_⟩;have:=(mem_filter.1 i).2;have d:yV a y.E2=true:=QL.2 ⟨x,h,e⟩;rw[d]at this;cases this
def yR{cells:X aD}{m n:Nat}{x y:aD}(d:cells[m]? = some x)(e:cells[n]? = some y)(g:m≠n)(t:Int){o:X aI}{k:Nat}(j:o.length+k=x.E3.length+y.E3.length):
  L4 (yT cells m n t o)+k=L4 cells:=by
 have h:=Mi ⟨-1,t,o⟩ d;have f:(cells.set m ⟨-1,t,o⟩)[n]? = some y:=by rw[mz g];exact e
 have i:=Mi ⟨(m:Int),0,[]⟩ f;simp[yT,zS]at*;omega
def ef{d:Type}{l:X d}{N i:Nat}(f:i<N){x:d}(e:l[i]? = some x):gU l 0 ((N:Int).toNat) (i:Int)=some x:=by rw[gU,lr (by simp[zZ];omega),Ty,zZ,e]
def za0{p1:X aK}{n:Nat}{z:Int}{A:X (X aI)}{rc:Int->X fB->X (X aI)->X Int->V (X Int)}{x y:Nat}{out:X Int}{a b:X aI}(H:x<p1.length)(I:y<p1.length)
  (q:A[min x y]? = some a) (s:A[max x y]? = some b) (u:kC a) (J:a.length<=400000) (B:b.length<=400000) (G:1000000<=n) {T:X fB} (E:T.length<=1000000):∀(m k:Nat),b.length-k<m->k<=b.length->
  VJ p1 n z A rc (x:Int) (y:Int) (x:Int) (y:Int) out m (k:Int) (a++kO a (b.take k)) (T++(L9 a<|b.take k).map pk)=
   Xr p1 z A rc (x:Int) (y:Int) out (a++kO a b) (T++(L9 a b).map pk)
 |0,k,hm,_=>by omega
 |m+1,k,hm,O=>by
  unfold VJ;have C:gU A 0 ((p1.length:Int).toNat) (if(y:Int)>(x:Int)then(y:Int)else(x:Int))=some b:=by rw[sg];exact ef af s
  have D:gU A 0 ((p1.length:Int).toNat) (if(y:Int)<(x:Int)then(y:Int)else(x:Int))=some a:=by rw[Ro];exact ef af q
  have P:=Mk a<|b.take k;have M:(b.take k).length<=k:=by rw[Yz];omega
  simp only[C,aN];by_cases h:k<b.length;obtain⟨v,t,K⟩:=fJ h;simp only[iU h,zC,c9,t,aN,D,z5x (f:=v.E2) (show a.length<=1000000 by omega) (show a.length<n by omega),kE h (show b.length<=9223372036854775807 by omega),Xw];have g:=za0 (z:=z) (rc:=rc) (out:=out) H I q s u J B G E m (k+1) af af;rw[jB t,z3h]at g;cases i:a.find? (fun w=>w.E2==v.E2)with
  |some w=>
   have d:=Fx i;have l:w.E2=v.E2:=by have:=GY i;simpa using this
   have j:yV a v.E2=true:=QL.2 ⟨w,d,l⟩;rw[qvx u d l,j]at g;simp only[zC];rw[gW (by simp only[zU,yA];omega)];rw[<-g];simp[pk]
  |none=>
   have o:∀w∈a,w.E2≠v.E2:=fun w d e=>by have:=find?_eq_none.1 i w d;simp[e]at this
   have j:yV a v.E2=false:=by rw[D!];intro e;obtain⟨w,d,e⟩:=QL.1 e;exact o w d e
   rw[qtq o,j]at g;simp only[zD];rw[gW (by simp only[zU];omega)];rw[<-g];simp
  have:k=b.length:=by omega
  subst this;simp only[j9 h,zD,js]
def z9z{p1:X aK}{n:Nat}{z:Int}{T:X fB}{A:X (X aI)}{rc:Int->X fB->X (X aI)->X Int->V (X Int)}{x39 x43 x47 x51:Int}:∀(m:Nat)(a b:X Int),b.length<m->a.length+b.length<=1000000->
  R9 p1 n z T A rc x39 x43 x47 x51 m (a.length:Int) (nA (if x43<x39 then x43 else x39) (if x51>x47 then x51 else x47) a++b)=Xs p1 n z T A rc x39 x43 x47 x51 (nA (if x43<x39 then x43 else x39) (if x51>x47 then x51 else x47)<|a++b)
 |0,a,b,hm,_=>by omega
 |m+1,a,[],hm,g=>by
  unfold R9;have:decide (((a.length:Nat):Int)<((nA (if x43<x39 then x43 else x39) (if x51>x47 then x51 else x47) a++[]).length:Int))=false:=by simp[nA]
  rw[this,zD,Px,Px]
 |m+1,a,x::b,hm,g=>by
  simp[zO]at hm g;unfold R9;have h:decide (((a.length:Nat):Int)<((nA (if x43<x39 then x43 else x39) (if x51>x47 then x51 else x47) a++x::b).length:Int))=true:=by simp[nA];omega
  have i:(nA (if x43<x39 then x43 else x39) (if x51>x47 then x51 else x47) a++x::b)[a.length]? = some x:=by rw[mu<|by simp[nA]];simp[nA]
  have j:i64.wrap ((a.length:Int)+1)=((a.length+1:Nat):Int):=by rw[wr af af];simp
  have d:=z9z (p1:=p1) (n:=n) (z:=z) (T:=T) (A:=A) (rc:=rc) (x39:=x39) (x43:=x43) (x47:=x47) (x51:=x51) m (a++[x]) b af (by simp[zU,zO,zS];omega);simp only[zU,zO,zS,Ty]at d;simp only[h,zC,c9,i,aN,zZ,Xv,j];have f:a++[x]++b=a++x::b:=by simp
  by_cases e:(x==(if x51>x47 then x51 else x47))=true;rw[ce,U8 e,zT,Zg,X0]at d;rw[e,zC,qo3 _ _ _ _ _ (by simp[nA]),d,f];rw[X!]at e;rw[ce,U9 e,zT,Zg,X0]at d;rw[e,zD,d,f]
structure CS(N:Nat)(L:X aK)(W:X (Int×Int))(A:X (X aI))(out:X Int)(C:X aD)(r:Nat->Nat):Prop where
 ck:CK N out r
 cl:C.length=N
 al:A.length=N
 ar:∀i,i<N->r i=i->A[i]? = some (F4 C i).E3
 ds:∀i,i<N->kC (F4 C i).E3
 pi:∀p∈W,Mf N p
 tc:TC [] N L W C r
structure CD(N:Nat)(L:X aK)(W:X (Int×Int))(r:Nat->Nat)(qK:X Int)(C':X aD)(r':Nat->Nat):Prop where
 ck:CK N qK r'
 cl:C'.length=N
 ds:∀i,i<N->kC (F4 C' i).E3
 tc:TC [] N L [] C' r'
 mono:∀i j,r i=r j->r' i=r' j
 L9:∀p∈W,r' p.1.toNat=r' p.2.toNat
 I1:∀q,oV L q->IH N W r q->IH N [] r' q
def z1q{N:Nat}{L:X aK}(G:xI N [] L)(hN:N<=1000){n:Nat}(hn:2000000<=n):∀(m z:Nat)(T:X fB)(A:X (X aI))(out:X Int)(C:X aD)(r:Nat->Nat),
  CS N L ((T.drop z).map ua) A out C r->z<=T.length->T.length-z+L4 C<m->T.length+L4 C<=400000->
  ∃I J Q,D3 L n m (z:Int) T A out=some I/\CD N L ((T.drop z).map ua) r I J Q
 |0,z,T,A,out,C,r,_,_,hm,_=>by omega
 |m+1,z,T,A,out,C,r,h,hz,hm,hB=>by
  unfold D3;have nQ:=G.len;by_cases S:z<T.length;have⟨p,hp,_⟩:=fJ S;have yG:=bC hp;rw[yG,zQ]at h ⊢;have cY:=h.pi (ua p) aZ;have⟨i1,i2⟩:=cY;simp[ua]at i1 i2;have c1:=h.ck.at i1;have c2:=h.ck.at i2;have l1:=h.ck.lt (i:=p.E0.toNat) af;have l2:=h.ck.lt (i:=p.E1.toNat) af;simp only[iU S,zC,c9,hp,aN,c1,c2];rw[Ro,sg];have k:i64.wrap ((z:Int)+1)=((z+1:Nat):Int):=kE S af;by_cases e:r p.E0.toNat=r p.E1.toNat;have V:((((min (r p.E0.toNat) (r p.E1.toNat):Nat):Int))==((max (r p.E0.toNat) (r p.E1.toNat):Nat):Int))=true:=by rw[e];simp
  rw[V,zC,k];have⟨I,J,Q,g1,g2⟩:=z1q G hN hn m (z+1) T A out C r ⟨h.ck,h.cl,h.al,h.ar,h.ds,fun q f=>h.pi q<|lu _ f,h.tc.skip (h.pi _ aZ) e⟩ af af hB;refine⟨I,J,Q,g1,⟨g2.ck,g2.cl,g2.ds,g2.tc,g2.mono,fun q f=>?_,fun q f H=>g2.I1 q f ⟨H.r,fun w k=>H.w w<|lu _ k⟩⟩⟩;obtain rfl |f:=zI.1 f;exact g2.mono _ _ e;exact g2.L9 q f;have V:((((min (r p.E0.toNat) (r p.E1.toNat):Nat):Int))==((max (r p.E0.toNat) (r p.E1.toNat):Nat):Int))=false:=by rw[GZ];intro q;omega
  have E:r (min (r p.E0.toNat)<|r p.E1.toNat)=min (r p.E0.toNat) (r p.E1.toNat):=by rcases Qj (r p.E0.toNat) (r p.E1.toNat)with g |g;rw[pg g];exact h.ck.idem _ af;rw[UH g];exact h.ck.idem _ af
  have v:r (max (r p.E0.toNat)<|r p.E1.toNat)=max (r p.E0.toNat) (r p.E1.toNat):=by rcases Qj (r p.E0.toNat) (r p.E1.toNat)with g |g;rw[Nat.max_eq_right g];exact h.ck.idem _ af;rw[Nat.max_eq_left g];exact h.ck.idem _ af
  generalize R:min (r p.E0.toNat) (r p.E1.toNat)=lo at*;generalize xv:max (r p.E0.toNat) (r p.E1.toNat)=d at*;have l:lo<N:=by omega
  have B:d<N:=by omega
  have s:lo≠d:=by omega
  have a1:=h.ar lo l E;have a2:=h.ar d B v;have hCl:=h.cl;have S1:C[lo]? = some (F4 C lo):=by rw[F4,lq af];rfl
  have K:C[d]? = some (F4 C d):=by rw[F4,lq af];rfl
  have t1:=Bw S1;have t2:=Bw K;have yE:=Mk (F4 C lo).E3 (F4 C d).E3;have hM:((F4 C lo).E3++kO (F4 C lo).E3 (F4 C d).E3).length+(L9 (F4 C lo).E3 (F4 C d).E3).length=(F4 C lo).E3.length+(F4 C d).E3.length:=by rw[zU];omega
  have htm:=yR S1 K s 0 hM;have M:Mg N (ua p) C r lo d:=⟨h.cl,l,B,E,v,s,fun i d=>h.ck.lt d,h.ck.idem,h.pi _ aZ,by simp[ua];omega,h.ds lo l⟩;rw[V,zD];have l3:=z9z (p1:=L) (n:=n) (z:=(z:Int)) (T:=T) (A:=A) (rc:=D3 L n m) (x39:=(r p.E0.toNat:Int)) (x43:=(r p.E1.toNat:Int)) (x47:=(r p.E0.toNat:Int)) (x51:=(r p.E1.toNat:Int)) n [] out (by rw[h.ck.len];omega) (by rw[h.ck.len];simp only[zS];omega);simp only[zS,nA,ez,X0,zV]at l3;rw[l3,Xs];have i3:gU A 0 ((L.length:Int).toNat) (if(r p.E1.toNat:Int)<(r p.E0.toNat:Int)then(r p.E1.toNat:Int)else(r p.E0.toNat:Int))=some (F4 C lo).E3:=by rw[Ro,R];exact ef af a1
  rw[i3,aN,gW af];have l4:=za0 (p1:=L) (n:=n) (z:=(z:Int)) (A:=A) (rc:=D3 L n m) (x:=r p.E0.toNat) (y:=r p.E1.toNat) (out:=List.map (fun x=>if x==(if(r p.E1.toNat:Int)>(r p.E0.toNat:Int)then(r p.E1.toNat:Int)else(r p.E0.toNat:Int))then(if(r p.E1.toNat:Int)<(r p.E0.toNat:Int)then(r p.E1.toNat:Int)else(r p.E0.toNat:Int))else x) out)
   af af (by rw[R];exact a1) (by rw[xv];exact a2) (h.ds lo l) af af af (T:=T) af n 0 af af
  simp only[lz,kO,L9,filter_nil,filterMap_nil,ez,Px,zV]at l4;rw[l4,Xr,i3,aN,k,Ro,sg,R,xv,zZ];have P:(F4 C d).E3.filterMap (fun y=>Option.map (fun x=>(x.To,y.To))<|(F4 C lo).E3.find? fun x=>x.E2==y.E2)=L9 (F4 C lo).E3 (F4 C d).E3:=rfl;have i7:(F4 C d).E3.filter (fun y=>!yV (F4 C lo).E3 y.E2)=kO (F4 C lo).E3 (F4 C d).E3:=rfl;rw[P,i7];have O:=h.ck.U1 (a:=p.E0.toNat) (b:=p.E1.toNat) af af;rw[R,xv]at O;have EW:((T++(Go.Proofs.L9 (F4 C lo).E3 (F4 C d).E3).map pk).drop (z+1)).map ua=(T.drop<|z+1).map ua++Go.Proofs.L9 (F4 C lo).E3 (F4 C d).E3:=by rw[xn af,y_,eF];congr 1;have:(ua ∘ pk)=(id:Int×Int->Int×Int):=funext fun q=>rfl;rw[this,LB]
  have AT:=WB (c:=C) (m:=lo) (n:=d) af af s 0<|(F4 C lo).E3++kO (F4 C lo).E3 (F4 C d).E3;have inr:∀i,i<N->r i=i->∀b∈(F4 C i).E3,0<=b.To/\b.To<(N:Int):=fun i d D b hb=>by have⟨j,c,q1,q2,q3⟩:=h.tc.snd i b d D hb;exact G.ar j c b q1 q3
  have gH:∀w∈Go.Proofs.L9 (F4 C lo).E3 (F4 C d).E3,w∈(T.drop<|z+1).map ua++Go.Proofs.L9 (F4 C lo).E3 (F4 C d).E3:=fun w k=>mr _ k;have nM:∀w∈(T.drop<|z+1).map ua,w∈(T.drop<|z+1).map ua++Go.Proofs.L9 (F4 C lo).E3 (F4 C d).E3:=fun w k=>mw _ k;have Z:=h.tc.U1 G M (t:=0) (o:=(F4 C lo).E3++kO (F4 C lo).E3 (F4 C d).E3) (by simp[eI]) (Y! _) gH nM;obtain⟨I,J,Q,g1,g2⟩:=z1q G hN hn m (z+1) (T++(Go.Proofs.L9 (F4 C lo).E3 (F4 C d).E3).map pk) (A.set lo<|(F4 C lo).E3++kO (F4 C lo).E3 (F4 C d).E3) (nA (lo:Int) (d:Int) out) (yT C lo d 0<|(F4 C lo).E3++kO (F4 C lo).E3 (F4 C d).E3) (fQ r lo d)
   (by
    rw[EW];refine⟨O,by simp[yT,h.cl],by simp[h.al],fun i U D=>?_,fun i U=>?_,fun q f=>?_,Z⟩;rw[AT];have Y:i≠d:=fun q=>by subst q;unfold fQ at D;rw[v,lr rfl]at D;exact s D
    rw[hF Y];by_cases u:i=lo;subst u;rw[lr rfl,YO (by rw[h.al];exact U)];rw[hF u,mz fun q=>u q.symm];apply h.ar i U;unfold fQ at D;split at D;exact absurd D.symm u;exact D;rw[AT];split;exact Pairwise.nil;split;exact qx3 (h.ds lo l)<|h.ds d B;exact h.ds i U;obtain f |f:=yD.1 f;exact h.pi q<|lu _ f;obtain⟨x,hx,y,hy,_,rfl⟩:=qvw f;exact⟨inr lo l E x hx,inr d B v y hy⟩)
   (by rw[zU];omega) (by simp[zU,yA];omega) (by simp[zU,yA];omega)
  rw[EW]at g2;refine⟨I,J,Q,g1,⟨g2.ck,g2.cl,g2.ds,g2.tc,fun i j pF=>g2.mono i j<|U' pF,fun q f=>?_,fun q f H=>?_⟩⟩;obtain rfl |f:=zI.1 f;apply g2.mono _ _;simp only[ua];unfold fQ;have:(r p.E0.toNat=lo/\r p.E1.toNat=d)\/(r p.E0.toNat=d/\r p.E1.toNat=lo):=by omega
  obtain⟨q1,q2⟩|⟨q1,q2⟩:=this;rw[q1,q2,hF s,lr rfl];rw[q1,q2,hF s,lr rfl];exact g2.L9 q<|nM q f;refine g2.I1 q f (H.U1 G M h.tc f fun w k=>?_).2;obtain k |k:=yD.1 k;exact .inr k;exact .inl k;have:z=T.length:=by omega
  subst this;rw[pw,ez]at h ⊢;simp only[j9 S,zD,ij];exact⟨out,C,r,rfl,h.ck,h.cl,h.ds,h.tc,fun _ _ q=>q,(fun _ f=>(by cases f)),fun _ _ H=>H⟩
def wI(w:Nat×Nat):Int×Int:=((w.1:Int),(w.2:Int))
structure Old(g:Int)(x:PN):Prop where
 fw:x.c3<g
 mt:x.b8<g
 mo:x.K2<g
 cp:x.c6<g
 ch:x.c4<g
structure LA(g:Int)(x:PN):Prop where
 fw:x.c3<=g
 mt:x.b8<=g
 mo:x.K2<=g
 cp:x.c6<g
 ch:x.c4<g
def Old.kL{g:Int}{x:PN}(h:Old g x):LA g x:=⟨by have:=h.fw;omega,by have:=h.mt;omega,by have:=h.mo;omega,h.cp,h.ch⟩
structure US(ws:X Nat)(g:Int)(N:X PN)(C:X aD)(F d:Nat->Nat)(D:Nat):Prop where
 b9:UO N.length D F d
 root:∀(i:Nat)(x:PN),N[i]? = some x->F i=i->(x.c3 != g)=true
 link:∀(i:Nat)(x:PN),N[i]? = some x->F i≠i->(x.c3 != g)=false/\∃j,x.fw=some j/\NT N.length F d i j
 cl:C.length=N.length
 kd:∀(i:Nat)(x:PN),N[i]? = some x->F i=i->(F4 C i).kind=iF g x
 ar:∀(i:Nat)(x:PN),N[i]? = some x->F i=i->(F4 C i).E3=(bY g x).map gA
 ds:∀i,i<N.length->kC (F4 C i).E3
 kr:∀i,i<N.length->F i=i->0<=(F4 C i).kind/\(F4 C i).kind<(ws.length:Int)
 wf:Wf N
 kL:∀x∈N,LA g x
def US.find{ws:X Nat}{g:Int}{N:X PN}{C:X aD}{F d:Nat->Nat}{D:Nat}(u:US ws g N C F d D):∀(k i:Nat),d i<k->i<N.length->uX N g k i=some (F i)
 |0,i,t,_=>by omega
 |k+1,i,t,s=>by have⟨x,f⟩:=eU s;rw[uX,f,aN];by_cases e:F i=i;rw[u.root i x f e,zC,e];have⟨h,j,l,o,q,v⟩:=u.link i x f e;rw[h,zD,l,aN,u.find k j af o,q]
def z3x{q:eN->FK}{l:X eN}(h:l.find? q=none):decide (CL q l>=0)=false:=by
 have:l.findIdx? q=none:=by rw[R_];intro x d;simpa using find?_eq_none.1 h x d
 rw[CL,this];rfl
def qto{q:eN->FK}{z:eN}:∀{l:X eN},l.find? q=some z->∃i:Nat,CL q l=(i:Int)/\l[i]? = some z
 |[],h=>by cases h
 |a::l,h=>by
  rw[Hn]at h;cases e:q a with
  |true=>rw[e]at h;cases h;exact⟨0,by simp[CL,findIdx?_cons,e],rfl⟩|false=>rw[e]at h;have⟨i,d,g⟩:=qto (l:=l) h;refine⟨i+1,?_,by simpa using g⟩;unfold CL at d ⊢;rw[findIdx?_cons,e];rcases f:l.findIdx? q with _|j;rw[f]at d;simp at d;rw[f]at d;simp at d ⊢;omega
def zc3(l:X eN)(f:Int):(l.map gA).find? (fun x=>x.E2==f)=(l.find? fun z=>z.f==f).map gA:=by rw[find?_map];rfl
def z2o(l:X eN)(f:Int):yV (l.map gA) f=(l.find? fun z=>z.f==f).isSome:=by rw[vg,find?_isSome,QL];constructor;rintro⟨x,g,e⟩;obtain⟨a,d,rfl⟩:=mem_map.1 g;exact⟨a,d,by simpa[gA]using e⟩;rintro⟨a,d,e⟩;exact⟨gA a,X1 d,by simpa[gA]using e⟩
def z8z{N:X PN}{p:Nat}{x:PN}(h:N[p]? = some x):N.set p x=N:=by
 apply od;intro i;rw[ja];split
 ·next e=>subst e;rw[lr (zG.1 h).1,h]
 rfl
def V?{g:Int}{p:Nat}{mine:X eN}:∀(d:X eN)(W:X (Nat×Nat))(N:X PN)(x:PN),N[p]? = some x->W.length+d.length<=1000000->(iC g x).length+d.length<=1000000->
  ∃j mo K2 l,RX g p mine d W N=some (W++j,N.set p { x with more:=mo,K2:=K2 })/\j.map wI=L9 (mine.map gA) (d.map gA)/\iC g { x with more:=mo,K2:=K2 }=iC g x++l/\l.map gA=kO (mine.map gA) (d.map gA)/\(∀a∈l,a∈d)/\(K2=x.K2/\mo=x.more\/K2=g)/\(∀w∈j,∃a∈mine,∃b∈d,w=(a.to,b.to))
 |[],W,N,x,q,_,_=>⟨[],x.more,x.K2,[],by rw[RX];simp[z8z q],rfl,by simp,rfl,nofun,.inl ⟨rfl,rfl⟩,nofun⟩|y::d,W,N,x,q,H,I=>by
  simp[zO]at H I;rw[RX];have C:=zc3 mine y.f;cases k:mine.find? (fun z=>z.f==y.f)with
  |some z=>have⟨i,D,E⟩:=qto k;have K:=Fx k;rw[D,Zh af,zC,c9,E,aN,aE,lr af];have⟨j,mo,K2,l,g1,g2,s,t,u,v,A⟩:=V? (g:=g) (p:=p) (mine:=mine) d (W++[(z.to,y.to)]) N x q (by simp;omega) af;refine⟨(z.to,y.to)::j,mo,K2,l,by rw[g1];simp,?_,s,?_,fun a h=>lu _<|u a h,v,fun w o=>?_⟩;rw[zQ,zQ,Mw,show(gA y).E2=y.f from rfl,C,k,g2];rfl;rw[t,zQ,kO,kO,iZ,show(gA y).E2=y.f from rfl,z2o,k];rfl;obtain rfl |o:=zI.1 o;exact⟨z,K,y,by simp,rfl⟩;have⟨a,h,b,B,e⟩:=A w o;exact⟨a,h,b,lu _ B,e⟩
  |none=>
   rw[z3x k,zD,q,aN,aE,lr af];have J:p<N.length:=pS q;have hm:iC g { x with more:=iC g x++[y],K2:=g }=iC g x++[y]:=by simp[iC]
   have⟨j,mo,K2,l,g1,g2,s,t,u,v,A⟩:=V? (g:=g) (p:=p) (mine:=mine) d W (N.set p { x with more:=iC g x++[y],K2:=g }) { x with more:=iC g x++[y],K2:=g } (by rw[YO J]) af (by rw[hm];simp;omega);have G:iC g { x with more:=mo,K2:=K2 }=iC g { ({ x with more:=iC g x++[y],K2:=g }:PN)with more:=mo,K2:=K2 }:=rfl;refine⟨j,mo,K2,y::l,by rw[g1,set_set],?_,?_,?_,fun a h=>?_,.inr ?_,fun w o=>?_⟩;rw[zQ,Mw,show(gA y).E2=y.f from rfl,C,k,g2];rfl;rw[G,s,hm];simp;rw[zQ,t,zQ,kO,kO,iZ,show(gA y).E2=y.f from rfl,z2o,k];rfl;obtain rfl |h:=zI.1 h;simp;exact lu _<|u a h;obtain⟨e,_⟩|e:=v;exact e;exact e;have⟨a,h,b,B,e⟩:=A w o;exact⟨a,h,b,lu _ B,e⟩
def US.U1{ws:X Nat}{g:Int}{N:X PN}{C:X aD}{F d:Nat->Nat}{D:Nat}(u:US ws g N C F d D){p q:Nat}(H:p<N.length)(Q:q<N.length)(h:F p=p)(eq:F q=q)(v:p≠q){x y:PN}(I:N[p]? = some x)(S:N[q]? = some y){t:Int}(ht:0<=t/\t<(ws.length:Int)){mo:X eN}{K2:Int}{l:X eN}
  (O:iC g { x with more:=mo,K2:=K2 }=iC g x++l) (V:l.map gA=kO (F4 C p).E3 (F4 C q).E3) (Y:∀a∈l,a∈bY g y) (R:K2=x.K2/\mo=x.more\/K2=g):
  US ws g ((N.set p { x with more:=mo,K2:=K2,mt:=t,b8:=g }).set q { y with fw:=some p,c3:=g }) (yT C p q t<|(F4 C p).E3++kO (F4 C p).E3 (F4 C q).E3) (fQ F p q) (CT F d q) (D+1):=by
 have G:((N.set p { x with more:=mo,K2:=K2,mt:=t,b8:=g }).set q { y with fw:=some p,c3:=g }).length=N.length:=by simp
 have T:p<C.length:=by rw[u.cl];exact H
 have P:q<C.length:=by rw[u.cl];exact Q
 have oB:=WB T P v t<|(F4 C p).E3++kO (F4 C p).E3 (F4 C q).E3;have A:∀(i:Nat)(z:PN),((N.set p { x with more:=mo,K2:=K2,mt:=t,b8:=g }).set q { y with fw:=some p,c3:=g })[i]? = some z->(i=q/\z={ y with fw:=some p,c3:=g })\/(i≠q/\i=p/\z={ x with more:=mo,K2:=K2,mt:=t,b8:=g })\/(i≠q/\i≠p/\N[i]? = some z):=fun i z f=>by obtain⟨e,E⟩|⟨e,f⟩:=BX f;exact .inl ⟨e,E⟩;obtain⟨B,E⟩|⟨B,f⟩:=BX f;exact .inr<|.inl ⟨e,B,E⟩;exact .inr (.inr ⟨e,B,f⟩)
 have wx:=u.wf.at I;have M:=u.wf.at S;have J:=u.kL x<|zX I;have K:=u.kL y<|zX S;have U:∀a∈mo,a.to<N.length:=fun a s=>by
  obtain⟨_,E⟩|e:=R;rw[E]at s;exact wx.more a s;have Z:iC g { x with more:=mo,K2:=K2 }=mo:=by simp[iC,e]
  rw[Z]at O;rw[O]at s;obtain s |s:=yD.1 s;exact E! wx a s;exact Q9 M a (Y a s)
 refine⟨by rw[G];exact u.b9.U1 H h eq v,fun i z f hr=>?_,fun i z f hr=>?_,by simp only[yT,fG,u.cl],fun i z f hr=>?_,fun i z f hr=>?_,fun i k=>?_,fun i k hr=>?_,fun z f=>?_,fun z f=>?_⟩;obtain⟨o,w⟩:=Cl h v hr;obtain⟨e,_⟩|⟨_,e,rfl⟩|⟨_,_,f⟩:=A i z f;exact absurd e o;exact u.root p x I h;exact u.root i z f w;rw[G];obtain⟨rfl,rfl⟩|⟨_,rfl,rfl⟩|⟨B,_,f⟩:=A i z f;exact⟨by simp,p,rfl,qql u.b9 H Q h eq v⟩;exfalso;apply hr;unfold fQ;rw[h,hF v];obtain⟨k1,j,k2,k3⟩:=u.link i z f<|L! h hr B;exact⟨k1,j,k2,k3.U1 (D:=D)⟩;obtain⟨o,w⟩:=Cl h v hr;rw[oB,hF o];obtain⟨e,_⟩|⟨_,e,rfl⟩|⟨_,e,f⟩:=A i z f;exact absurd e o;rw[lr e];simp[iF];rw[hF e];exact u.kd i z f w;obtain⟨o,w⟩:=Cl h v hr;rw[oB,hF o];obtain⟨e,_⟩|⟨_,e,rfl⟩|⟨_,e,f⟩:=A i z f;exact absurd e o;rw[lr e];show _++kO _ _=(x.E3++iC g { x with more:=mo,K2:=K2 }).map gA;rw[O,<-zT,y_,V,u.ar p x I h];rfl;rw[hF e];exact u.ar i z f w;rw[G]at k;rw[oB];split;exact Pairwise.nil;split;exact qx3 (u.ds p H)<|u.ds q Q;exact u.ds i k;rw[G]at k;obtain⟨o,w⟩:=Cl h v hr;rw[oB,hF o];split;exact ht;exact u.kr i k w;rw[G];obtain⟨i,k⟩:=Zc f;obtain⟨_,rfl⟩|⟨_,_,rfl⟩|⟨_,_,f⟩:=A i z k;exact⟨M.E3,H,M.more,M.cp⟩;exact⟨wx.E3,wx.fw,U,wx.cp⟩;exact u.wf.at f;obtain⟨i,k⟩:=Zc f;obtain⟨_,rfl⟩|⟨_,_,rfl⟩|⟨_,_,f⟩:=A i z k;exact⟨pn _,K.mt,K.mo,K.cp,K.ch⟩;refine⟨J.fw,pn _,?_,J.cp,J.ch⟩;show K2<=g;obtain⟨e,_⟩|e:=R;rw[e];exact J.mo;omega;exact u.kL z (zX f)
structure UR(ws:X Nat)(g:Int)(L:X aK)(W:X (Nat×Nat))(N N':X PN)(F:Nat->Nat)(B:Nat)(b:FK):Prop where
 sm:Sm N N'
 wf:Wf N'
 kL:∀x∈N',LA g x
 yes:b=true->∃C' sT d' D',US ws g N' C' sT d' D'/\D'+L4 C'<=B/\TC ws N.length L [] C' sT/\(∀i j,F i=F j->sT i=sT j)/\(∀w∈W,sT w.1=sT w.2)/\∀q,oV L q->IH N.length (W.map wI) F q->IH N.length [] sT q
 no:b=false->∀q,oV L q->IH N.length (W.map wI) F q->TH ws L q
def PA{C:X aD}{i:Nat}(e:i<C.length):(F4 C i).E3.length<=L4 C:=by
 have⟨x,d⟩:=eU e;have:F4 C i=x:=by simp[F4,d]
 rw[this];exact Bw d
def qvq{H:cR}{ws:X Nat}(hh:mQ H ws){n:Nat}(hn:2000<=n){g:Int}{L:X aK}:∀(m:Nat)(W:X (Nat×Nat))(N:X PN)(C:X aD)(F d:Nat->Nat)(D:Nat),xI N.length ws L->US ws g N C F d D->(∀w∈W,w.1<N.length/\w.2<N.length)->TC ws N.length L (W.map wI) C F->W.length+L4 C<m->D+W.length+L4 C<n->2*(W.length+L4 C)<=1000000->
  ∃b O,MW H g n m W N=some (b,O)/\UR ws g L W N O F (D+W.length+L4 C) b
 |0,W,N,C,F,d,D,_,_,_,_,hm,_,_=>by omega
 |m+1,[],N,C,F,d,D,E,u,V,I,hm,hD,hB=>⟨true,N,rfl,Sm.refl N,u.wf,u.kL,fun _=>⟨C,F,d,D,u,by simp,I,fun _ _ h=>h,nofun,fun q _ h=>h⟩,nofun⟩|m+1,w::W,N,C,F,d,D,E,u,V,I,hm,hD,hB=>by
  simp[zO]at hm hD hB;have⟨Q,U⟩:=V w aZ;have u4:=u.b9.bd _ Q;have u7:=u.b9.bd _ U;rw[MW,u.find n w.1 af Q,aN,u.find n w.2 af U,aN];have pi:Mf N.length (wI w):=⟨⟨by simp[wI],by simp[wI];exact Q⟩,by simp[wI],by simp[wI];exact U⟩;by_cases e:F w.1=F w.2;have e1:Nat.beq (F w.1) (F w.2)=true:=by rw[beq_eq];simp[e]
  rw[e1,zC];have⟨b,O,g1,g2⟩:=qvq hh hn m W N C F d D E u (fun z f=>V z<|lu _ f) (I.skip pi<|by simpa[wI]using e) af af af;refine⟨b,O,g1,g2.sm,g2.wf,g2.kL,fun s=>?_,fun s q A v=>g2.no s q A ⟨v.r,fun z f=>v.w z<|lu _ f⟩⟩;have⟨Y,sT,d',Z,k1,P,k3,k4,k5,k6⟩:=g2.yes s;refine⟨Y,sT,d',Z,k1,by simp;omega,k3,k4,fun z f=>?_,fun q A v=>k6 q A ⟨v.r,fun z f=>v.w z<|lu _ f⟩⟩;obtain rfl |f:=zI.1 f;exact k4 _ _ e;exact k5 z f;have e1:Nat.beq (F w.1) (F w.2)=false:=by rw[beq_eq];simp[e]
  have B:=u.b9.lt _ Q;have A:=u.b9.lt _ U;have J:=u.b9.idem _ Q;have eq:=u.b9.idem _ U;have⟨x,G⟩:=eU B;have⟨y,K⟩:=eU A;rw[e1,zD,G,aN,K,aN];have kx:=u.kd _ x G J;have ky:=u.kd _ y K eq;have krx:=u.kr _ B J;have kry:=u.kr _ A eq;have ax:=u.ar _ x G J;have ay:=u.ar _ y K eq;have T:Mg N.length (wI w) C F (F w.1) (F w.2):=⟨u.cl,B,A,J,eq,e,u.b9.lt,u.b9.idem,pi,.inl ⟨by simp[wI],by simp[wI]⟩,u.ds _ B⟩;rw[<-kx,<-ky];obtain⟨_,⟨r,h1,h2⟩,h3⟩|⟨r,_,h1,h2,h3⟩:=Uf hh krx kry hn;rw[h1,aN,h2];simp only[eG,zC];refine⟨false,N,rfl,Sm.refl N,u.wf,u.kL,nofun,fun _ q M v=>?_⟩;have⟨e3,_⟩:=v.U1 E T I M (W':=W.map wI) fun z f=>.inr f
  refine⟨F w.1,by rw[E.len];exact B,fun b=>?_⟩;have s:(eI ws (F4 C<|F w.1).kind).testBit b=false\/(eI ws (F4 C<|F w.2).kind).testBit b=false:=by have:=congrArg (fun x=>x.testBit b) h3;simp only[wz,Ib,Ln]at this;exact this
  have find:∀i,i<N.length->F i=i->(eI ws (F4 C i).kind).testBit b=false->∃(j:Nat)(x:aK),L[j]? = some x/\F j=i/\(eI ws x.R).testBit b=false:=fun i hi oE hf=>by
   refine qj fun eW=>?_;have:=(I.kd i hi oE b).2 fun j x hj Gj=>by rcases G:(eI ws x.R).testBit b with _|_;exact absurd ⟨j,x,hj,Gj,G⟩ eW;rfl
   rw[hf]at this;cases this
  obtain s |s:=s;have⟨j,x,q1,q2,q3⟩:=find _ B J s;have S:=(zG.1 q1).1;rw[E.len]at S;exact⟨j,x,q1,v.r _ _ S B (by rw[J,q2]),q3⟩;have⟨j,x,q1,q2,q3⟩:=find _ A eq s;have S:=(zG.1 q1).1;rw[E.len]at S;exact⟨j,x,q1,by rw[e3];exact v.r _ _ S A (by rw[eq,q2]),q3⟩;have lx:(bY g x).length<=L4 C:=by have:=PA (C:=C) (i:=F w.1) (by rw[u.cl];exact B);rw[ax,yA]at this;exact this
  have ly:(bY g y).length<=L4 C:=by have:=PA (C:=C) (i:=F w.2) (by rw[u.cl];exact A);rw[ay,yA]at this;exact this
  have SK:C[F w.1]? = some (F4 C<|F w.1):=by have⟨z,f⟩:=eU (l:=C) (i:=F w.1) (by rw[u.cl];exact B);simp[F4,f]
  have hcy:C[F w.2]? = some (F4 C<|F w.2):=by have⟨z,f⟩:=eU (l:=C) (i:=F w.2) (by rw[u.cl];exact A);simp[F4,f]
  have lJ:=yR (o:=(F4 C<|F w.1).E3++kO (F4 C<|F w.1).E3 (F4 C<|F w.2).E3) (k:=(L9 (F4 C<|F w.1).E3 (F4 C<|F w.2).E3).length) SK hcy e r (by rw[zU];have:=Mk (F4 C<|F w.1).E3 (F4 C<|F w.2).E3;omega);have lpr:(L9 (F4 C<|F w.1).E3 (F4 C<|F w.2).E3).length<=(bY g y).length:=by
   have h5:=Mk (F4 C<|F w.1).E3 (F4 C<|F w.2).E3;have h7:(F4 C<|F w.2).E3.length=(bY g y).length:=by rw[ay,yA]
   omega
  have lmo:(iC g x).length<=(bY g x).length:=by simp[bY]
  rw[h1,aN];simp only[Zr,zD];rw[aE,lr ⟨by omega,by omega⟩];obtain⟨W1,mo,K2,l,g1,g2,g3,g4,g5,g6,g7⟩:=V? (g:=g) (p:=F w.1) (mine:=bY g x) (bY g y) W N x G af af;rw[g1,aN];simp only;rw[YO B,aN,set_set,mz e,K,aN];rw[<-ax,<-ay]at g2 g4;have u':=u.U1 B A J eq e G K h2 g3 g4 g5 g6;have R:((N.set (F w.1) { x with more:=mo,K2:=K2,mt:=r,b8:=g }).set (F w.2) { y with fw:=some<|F w.1,c3:=g }).length=N.length:=by simp
  have wx:=u.wf.at G;have wy:=u.wf.at K;have lW1:W1.length=(L9 (F4 C<|F w.1).E3 (F4 C<|F w.2).E3).length:=by rw[<-g2,yA]
  have tc':=I.U1 (W':=(W++W1).map wI) E T (t:=r) (o:=(F4 C<|F w.1).E3++kO (F4 C<|F w.1).E3 (F4 C<|F w.2).E3) h3 (Y! _) (fun z f=>by rw[y_,g2];exact mr _ f) fun z f=>by rw[y_];exact mw _ f
  obtain⟨b,O,k1,P⟩:=qvq hh hn m (W++W1) _ _ _ _ (D+1) (by rw[R];exact E) u' (fun z f=>by rw[R];obtain f |f:=yD.1 f;exact V z<|lu _ f;obtain⟨a,ha,b,s,rfl⟩:=g7 z f;exact⟨Q9 wx a ha,Q9 wy b s⟩) (by rw[R];exact tc') (by rw[zU];omega) (by rw[zU];omega) (by rw[zU];omega);have hs:Sm N ((N.set (F w.1) { x with more:=mo,K2:=K2,mt:=r,b8:=g }).set (F w.2) { y with fw:=some<|F w.1,c3:=g }):=
   (Sm.set { x with more:=mo,K2:=K2,mt:=r,b8:=g } G rfl rfl).trans (Sm.set { y with fw:=some<|F w.1,c3:=g } (x:=y) (by rw[mz e];exact K) rfl rfl)
  refine⟨b,O,k1,hs.trans P.sm,P.wf,P.kL,fun s=>?_,fun s q M v=>?_⟩;have⟨Y,sT,d',Z,j1,j2,j3,j4,j5,j6⟩:=P.yes s;rw[R]at j3 j6;refine⟨Y,sT,d',Z,j1,by rw[zU]at j2;simp[zO];omega,j3,fun i j pF=>j4 i j<|U' pF,fun z f=>?_,fun q M v=>j6 q M (v.U1 E T I M fun z f=>?_).2⟩;obtain rfl |f:=zI.1 f;apply j4 _ _;unfold fQ;rw[hF e,lr rfl];exact j5 z<|mw _ f;rw[y_,g2]at f;obtain f |f:=yD.1 f;exact .inr f;exact .inl f;have:=P.no s q M;rw[R]at this;refine this (v.U1 E T I M fun z f=>?_).2;rw[y_,g2]at f;obtain f |f:=yD.1 f;exact .inr f;exact .inl f
def O!{l:X Nat}{n:Nat}(h:l.Nodup)(d:∀k∈l,k<n):l.length<=n:=by
 have:=Ww n (qxg h) fun v f=>by obtain⟨u,e,rfl⟩:=mem_map.1 f;have:=d u e;omega
 rwa [NK]at this
structure KK(x y:PN):Prop where
 kind:y.kind=x.kind
 E3:y.E3=x.E3
 fw:y.fw=x.fw
 c3:y.c3=x.c3
 mt:y.mt=x.mt
 b8:y.b8=x.b8
 more:y.more=x.more
 K2:y.K2=x.K2
def KK.refl(x:PN):KK x x:=⟨rfl,rfl,rfl,rfl,rfl,rfl,rfl,rfl⟩
variable{x:PN}{y:PN}
def KK.pk(h:KK x y)(g:Int):iF g y=iF g x/\iC g y=iC g x/\bY g y=bY g x:=by
 have d:iC g y=iC g x:=by rw[iC,iC,h.K2,h.more]
 exact⟨by rw[iF,iF,h.b8,h.kind,h.mt],d,by rw[bY,bY,h.E3,d]⟩
def Kp(d N:X PN):Prop:=∀(i:Nat)(x:PN),d[i]? = some x->∃y,N[i]? = some y/\KK x y
def Kp.refl(N:X PN):Kp N N:=fun i x d=>⟨x,d,KK.refl x⟩
section
variable{ws:X Nat}{g:Int}{s N:X PN}{C:X aD}{F d:Nat->Nat}{D n:Nat}
def US.oS(u:US ws g s C F d D)(h:Kp s N):∀(k i:Nat),d i<k->i<s.length->uX N g k i=some (F i)
 |0,i,z,_=>by omega
 |k+1,i,z,w=>by have⟨x,f⟩:=eU w;have⟨y,A,l⟩:=h i x f;rw[uX,A,aN,l.c3,l.fw];by_cases e:F i=i;rw[u.root i x f e,zC,e];have⟨o,j,q,t,v,B⟩:=u.link i x f e;rw[o,zD,q,aN,u.oS h k j af t,v]
def US.vY(u:US ws g s C F d D)(h:Kp s N)(f:D<n){i:Nat}(e:i<s.length):uX N g n i=some (F i):=u.oS h n i (by have:=u.b9.bd i e;omega) e
variable{p:Nat}
def US.rV(u:US ws g s C F d D)(e:s[p]? = some x)(f:F p=p):(bY g x).length<=L4 C:=by have:=PA (C:=C) (i:=p) (by rw[u.cl];exact pS e);rw[u.ar p x e f,yA]at this;exact this
def US.to(u:US ws g s C F d D){p:Nat}{x:PN}(e:s[p]? = some x):∀a∈bY g x,a.to<s.length:=Q9 (u.wf.at e)
def qr4(u:US ws g s C F d D)(A:D<n)(B:s.length<=1000000):∀(l:X eN)(out:X Nat),(∀a∈l,a.to<s.length)->out.Nodup->(∀k∈out,k<s.length)->
  ∃t,UT s g n l out=some (out++t)/\(out++t).Nodup/\(∀k∈t,∃a∈l,k=F a.to)/\∀a∈l,F a.to∈out++t
 |[],out,_,i,_=>⟨[],by simp[UT],by simpa using i,nofun,nofun⟩|a::l,out,z,i,w=>by
  have E:=z a aZ;have M:=u.b9.lt _ E;rw[UT,u.vY (Kp.refl _) A E,aN];by_cases j:F a.to∈out;have o:out.contains (F a.to)=true:=by simpa using j
  rw[o,zC];have⟨t,g1,g2,q,v⟩:=qr4 u A B l out (fun b f=>z b<|lu _ f) i w;refine⟨t,g1,g2,fun k h=>?_,fun b f=>?_⟩;have⟨b,f,e⟩:=q k h;exact⟨b,lu _ f,e⟩;obtain rfl |f:=zI.1 f;exact mw _ j;exact v b f;have o:out.contains (F a.to)=false:=by simpa using j
  have K:=O! i w;have J:(out++[F a.to]).Nodup:=by rw[fF];refine⟨i,by simp,fun x I y G=>?_⟩;simp at G;subst G;exact fun e=>j (e ▸ I)
  have H:∀k∈out++[F a.to],k<s.length:=fun k h=>by obtain h |h:=yD.1 h;exact w k h;simp at h;subst h;exact M
  rw[o,zD,aE,lr af];have⟨t,g1,g2,q,v⟩:=qr4 u A B l (out++[F a.to]) (fun b f=>z b<|lu _ f) J H;refine⟨F a.to::t,by rw[g1];simp,by simpa using g2,fun k h=>?_,fun b f=>?_⟩;obtain rfl |h:=zI.1 h;exact⟨a,by simp,rfl⟩;have⟨b,f,e⟩:=q k h;exact⟨b,lu _ f,e⟩;obtain rfl |f:=zI.1 f;simp;have:=v b f;simpa using this
structure RO(g:Int)(N:X PN)(F:Nat->Nat)(r:Nat)(out:X Nat):Prop where
 nd:out.Nodup
 lt:∀k∈out,k<N.length
 rp:∀k∈out,F k=k
 hd:r∈out
 S1:∀p∈out,∀x,N[p]? = some x->∀a∈bY g x,F a.to∈out
 ind:∀S:Nat->Prop,S r->(∀p x a,S p->N[p]? = some x->a∈bY g x->S (F a.to))->∀p∈out,S p
def zb4(u:US ws g s C F d D)(R:D<n)(P:s.length<=1000000)(U:L4 C<=1000000){r:Nat}:∀(m i:Nat)(out:X Nat),out.Nodup->(∀k∈out,k<s.length)->(∀k∈out,F k=k)->r∈out->s.length-i<m->i<=out.length->
  (∀(j p:Nat),j<i->out[j]? = some p->∀x,s[p]? = some x->∀a∈bY g x,F a.to∈out)->(∀S:Nat->Prop,S r->(∀p x a,S p->s[p]? = some x->a∈bY g x->S (F a.to))->∀p∈out,S p)->
  ∃o,Z5 s g n m i out=some o/\RO g s F r o
 |0,i,out,A,v,_,_,hm,V,_,_=>by omega
 |m+1,i,out,A,v,H,M,hm,V,O,I=>by
  have Y:=O! A v;rw[Z5];by_cases E:i<out.length;have⟨p,z⟩:=eU E;have B:=zX z;obtain⟨x,l⟩:=eU<|v p B;have Z:=u.rV l<|H p B;rw[Zh E,zC,z,aN,l,aN,aE,lr ⟨by omega,by omega⟩];have⟨t,g1,g2,G,T⟩:=qr4 u R P (bY g x) out (u.to l) A v;rw[g1,aN];refine zb4 u R P U m (i+1) (out++t) g2 (fun k e=>?_) (fun k e=>?_) (mw _ M) af (by rw[zU];omega) (fun j q w h y K a f=>?_) fun S Q J q h=>?_;obtain e |e:=yD.1 e
  exact v k e;obtain⟨a,f,rfl⟩:=G k e;exact u.b9.lt _<|u.to l a f;obtain e |e:=yD.1 e;exact H k e;obtain⟨a,f,rfl⟩:=G k e;exact u.b9.idem _<|u.to l a f;rw[mc af]at h;obtain w |rfl:=Nat.lt_succ_iff_lt_or_eq.1 w;exact mw _<|O j q w h y K a f;rw[z]at h;cases h;rw[l]at K;cases K;exact T a f;obtain h |h:=yD.1 h;exact I S Q J q h;obtain⟨a,f,rfl⟩:=G q h;exact J p x a (I S Q J p B) l f;rw[Zb E,zD];refine⟨out,rfl,A,v,H,M,fun p z x l a f=>?_,I⟩;have⟨j,w⟩:=Zc z;exact O j p (by have:=(zG.1 w).1;omega) w x l a f
def KM(g:Int)(x y:PN):Prop:=y={ x with ch:=y.ch,c4:=y.c4 }/\(y.c4=x.c4\/y.c4=g)
structure CG(g:Int)(s N:X PN):Prop where
 len:N.length=s.length
 st:∀(i:Nat)(x:PN),s[i]? = some x->∃y,N[i]? = some y/\KM g x y
def KM.kk(h:KM g x y):KK x y:=by rw[h.1];exact⟨rfl,rfl,rfl,rfl,rfl,rfl,rfl,rfl⟩
def CG.kp(h:CG g s N):Kp s N:=fun i x j=>by
 have⟨y,e,f⟩:=h.st i x j;exact⟨y,e,f.kk⟩
def CG.refl(g:Int)(N:X PN):CG g N N:=⟨rfl,fun i x e=>⟨x,e,rfl,.inl rfl⟩⟩
def CG.set(h:CG g s N){p:Nat}{y:PN}(k:N[p]? = some y)(c:FK):CG g s (N.set p { y with ch:=c,c4:=g }):=⟨by simp[h.len],fun i x l=>by
 have⟨z,f,j⟩:=h.st i x l;by_cases e:p=i;subst e;rw[k]at f;cases f;refine⟨{ y with ch:=c,c4:=g },by rw[YO<|pS k],?_,.inr rfl⟩;rw[j.1];exact⟨z,by rw[mz e];exact f,j⟩⟩
def dZ(g:Int)(N:X PN)(p:Nat):FK:=match N[p]? with
 |some x=>C0 g x|none=>false
def Uk(h:N[p]? = some x):dZ g N p=C0 g x:=by rw[dZ,h]
def quw{q:Nat}(f:N[p]? = some y)(c:FK):dZ g (N.set p { y with ch:=c,c4:=g }) q=if q=p then c else dZ g N q:=by by_cases e:q=p;subst e;rw[lr rfl,Uk (x:={ y with ch:=c,c4:=g })<|by rw[YO<|pS f]];simp[C0];rw[hF e,dZ,dZ,mz<|WV e]
def Rg(g:Int)(F:Nat->Nat)(x:PN):FK:=iF g x != x.kind||(decide (((iC g x).length:Int)>0)||x.E3.any fun a=>!Nat.beq (F a.to) a.to)
def z9r{e:Type}{f h:e->FK}:∀{l:X e},(∀a∈l,f a=h a)->l.any f=l.any h
 |[],_=>rfl|a::l,q=>by rw[qcQ,qcQ,q a aZ,z9r fun b i=>q b<|by simp[i]]
def W9(u:US ws g s C F d D)(t:D<n)(E:∀x∈s,x.E3.length<=1000000):∀(l:X Nat)(N:X PN),CG g s N->(∀p∈l,p<s.length)->
  ∃f,Eh g n l N=some f/\CG g s f/\(∀p∈l,∀x,s[p]? = some x->dZ g f p=Rg g F x)/\∀p,p ∉ l->f[p]? = N[p]?
 |[],N,h,_=>⟨N,rfl,h,nofun,fun _ _=>rfl⟩|p::l,N,h,B=>by
  obtain⟨x,j⟩:=eU<|B p aZ;have⟨y,v,O⟩:=h.st p x j;have kk:=O.kk;have⟨H,I,P⟩:=kk.pk g;have G:∀a∈x.E3,a.to<s.length:=(u.wf.at j).E3;have M:Lg N g n y.E3=true:=by rw[Lg,kk.E3,rj];intro a o;rw[u.vY h.kp t<|G a o];rfl
  have hm:y.E3.any (P6 N g n)=x.E3.any fun a=>!Nat.beq (F a.to) a.to:=by rw[kk.E3];refine z9r fun a o=>?_;rw[P6,u.vY h.kp t<|G a o]
  have K:(iF g y != y.kind||(decide (((iC g y).length:Int)>0)||y.E3.any (P6 N g n)))=Rg g F x:=by rw[hm,H,I,kk.kind];rfl
  rw[Eh,v,aN,M,zC,aE,lr (by rw[kk.E3];exact E x<|zX j),K];obtain⟨f,g1,g2,J,A⟩:=W9 u t E l _ (h.set v<|Rg g F x) fun q i=>B q<|lu _ i;refine⟨f,g1,g2,fun q i z w=>?_,fun q i=>?_⟩;by_cases k:q∈l;exact J q k z w;have:q=p:=(zI.1 i).resolve_right k;subst this;rw[j]at w;cases w;rw[dZ,A q k,<-dZ,quw v,lr rfl];rw[A q fun h=>i<|lu _ h,mz fun e=>i (by rw[e];simp)]
def z9s(h:CG g s N):∀(l:X eN),(∀a∈l,a.to<s.length)->JX g N l=some (l.any fun a=>dZ g N a.to)
 |[],_=>rfl|a::l,e=>by have⟨x,f⟩:=eU (l:=N) (i:=a.to) (by rw[h.len];exact e a aZ);rw[JX,f,aN,qcQ,Uk f];obtain _|_:=C0 g x;rw[zD,z9s h l fun b j=>e b<|lu _ j,Bool.false_or];rfl
def gl(wf:Wf s)(E:∀x∈s,x.E3.length<=1000000):∀(l:X Nat)(o:FK)(N:X PN),CG g s N->(∀p∈l,p<s.length)->
  ∃i j,MX g l o N=some (i,j)/\CG g s j/\(∀p,dZ g N p=true->dZ g j p=true)/\(∀p,p ∉ l->j[p]? = N[p]?)/\ (i=false->o=false/\j=N/\∀p∈l,dZ g N p=false->∀x,s[p]? = some x->∀a∈x.E3,dZ g N a.to=false)/\(i=true->o=true\/∃p∈l,dZ g N p=false/\dZ g j p=true)
 |[],o,N,h,_=>⟨o,N,rfl,h,fun _ h=>h,fun _ _=>rfl,fun e=>⟨e,rfl,nofun⟩,fun e=>.inl e⟩|p::l,o,N,h,M=>by
  obtain⟨x,G⟩:=eU<|M p aZ;have⟨y,v,Q⟩:=h.st p x G;have kk:=Q.kk;have J:∀q∈l,q<s.length:=fun q f=>M q<|lu _ f;have H:∀{q},q ∉ p::l->q ∉ l:=fun f h=>f<|lu _ h;rw[MX,v,aN];cases K:C0 g y with
  |true=>rw[zC];have⟨i,j,g1,g2,u,A,k,B⟩:=gl wf E l o N h J;refine⟨i,j,g1,g2,u,fun q f=>A q<|H f,fun e=>⟨(k e).1,(k e).2.1,fun q f w=>?_⟩,fun e=>(B e).imp id fun⟨q,a,b⟩=>⟨q,lu _ a,b⟩⟩;obtain rfl |f:=zI.1 f;rw[Uk v,K]at w;cases w;exact(k e).2.2 q f w
  |false=>
   have R:∀a∈y.E3,a.to<s.length:=by rw[kk.E3];exact(wf.at G).E3
   rw[zD,aE,lr (by rw[kk.E3];exact E x<|zX G),z9s h _ R,aN];cases P:y.E3.any fun a=>dZ g N a.to with
   |true=>
    rw[zC];have⟨i,j,g1,g2,u,A,k,B⟩:=gl wf E l true _ (h.set v true) J;have O:∀q,dZ g N q=true->dZ g (N.set p { y with ch:=true,c4:=g }) q=true:=fun q f=>by rw[quw v];split<;>simp[f]
    refine⟨i,j,g1,g2,fun q f=>u q<|O q f,fun q f=>?_,fun e=>?_,fun e=>.inr ⟨p,by simp,by rw[Uk v,K],u p<|by rw[quw v,lr rfl]⟩⟩;rw[A q<|H f,mz fun e=>f (by rw[e];simp)];cases (k e).1
   |false=>rw[zD];have⟨i,j,g1,g2,u,A,k,B⟩:=gl wf E l o N h J;refine⟨i,j,g1,g2,u,fun q f=>A q<|H f,fun e=>⟨(k e).1,(k e).2.1,fun q f w z I a t=>?_⟩,fun e=>(B e).imp id fun⟨q,a,b⟩=>⟨q,lu _ a,b⟩⟩;obtain rfl |f:=zI.1 f;rw[G]at I;cases I;rw[<-kk.E3]at t;have:=any_eq_false.1 P a t;simpa using this;exact(k e).2.2 q f w z I a t
def P8(g:Int)(l:X Nat)(N:X PN):Nat:=(l.filter fun p=>!dZ g N p).length
def z1r{N e:X PN}(h:∀p,dZ g N p=true->dZ g e p=true):∀l:X Nat,P8 g l e<=P8 g l N
 |[]=>zF _|p::l=>by
  have f:=z1r h l;unfold P8 at f ⊢;rw[iZ,iZ];cases i:dZ g N p with
  |true=>rw[h p i];simpa using f|false=>cases dZ g e p<;>simp<;>omega
def z1s{N e:X PN}(h:∀p,dZ g N p=true->dZ g e p=true):∀l:X Nat,(∃p∈l,dZ g N p=false/\dZ g e p=true)->P8 g l e<P8 g l N
 |[],⟨p,t,_⟩=>(oC t).elim|p::l,⟨q,f,i,j⟩=>by
  have u:=z1r h l;unfold P8 at u ⊢;rw[iZ,iZ];obtain rfl |f:=zI.1 f;rw[i,j];simp;omega;have k:=z1s h l ⟨q,f,i,j⟩;unfold P8 at k;cases o:dZ g N p with
  |true=>rw[h p o];simpa using k|false=>cases dZ g e p<;>simp<;>omega
def W8(wf:Wf s)(u:∀x∈s,x.E3.length<=1000000){l:X Nat}(t:∀p∈l,p<s.length):∀(m:Nat)(N:X PN),CG g s N->P8 g l N<m->
  ∃f,Eg g l m N=some f/\CG g s f/\(∀p,dZ g N p=true->dZ g f p=true)/\(∀p,p ∉ l->f[p]? = N[p]?)/\∀p∈l,dZ g f p=false->∀x,s[p]? = some x->∀a∈x.E3,dZ g f a.to=false
 |0,N,_,hm=>by omega
 |m+1,N,h,hm=>by
  have⟨v,k,g1,g2,j,o,w,z⟩:=gl wf u l false N h t;rw[Eg,g1,aN];cases v with
  |false=>rw[zD];have⟨_,e,q⟩:=w rfl;simp only at e ⊢;subst e;exact⟨k,rfl,g2,j,o,q⟩
  |true=>rw[zC];have:=z1s j l<|(z rfl).resolve_left aZ;have⟨f,A,B,E,G,H⟩:=W8 wf u t m k g2 af;exact⟨f,A,B,fun p i=>E p<|j p i,fun p i=>by rw[G p i,o p i],H⟩
structure MO(g:Int)(F:Nat->Nat)(s N:X PN)(l:X Nat):Prop where
 km:CG g s N
 out:∀p,p ∉ l->N[p]? = s[p]?
 bs:∀p∈l,dZ g N p=false->∀x,s[p]? = some x->Rg g F x=false
 cl:∀p∈l,dZ g N p=false->∀x,s[p]? = some x->∀a∈x.E3,dZ g N a.to=false
def zcg(u:US ws g s C F d D)(t:D<n)(j:∀x∈s,x.E3.length<=1000000){l:X Nat}(i:∀p∈l,p<s.length)(G:l.length<n/\l.length<=1000000):∃N,Rn g n l s=some N/\MO g F s N l:=by have⟨f,g1,g2,k,o⟩:=W9 u t j l s (CG.refl g s) i;have⟨N,w,z,A,B,E⟩:=W8 u.wf j i n f g2 (by have:P8 g l f<=l.length:=Hc _ _;omega);refine⟨N,by rw[Rn,aE,lr G.2,g1,aN,w],z,fun p e=>by rw[B p e,o p e],fun p e h x v=>?_,E⟩;rcases q:Rg g F x with _|_;rfl;have:=A p (by rw[k p e x v,q]);rw[this]at h;cases h
end
structure L?(d' d:X eN):Prop where
 pm:d'.Perm d
 up:d'.Pairwise fun a b=>a.f<b.f
def zct{d:X eN}(C:d.length<=1000000)(B:d.Pairwise fun a b=>a.f≠b.f)(I:∀a∈d,0<=a.f/\a.f<1000):∃u,JW d=some u/\L? u d:=by
 have k:∀x∈d,∀y∈d,iH (fun a b:eN=>some<|RowKit.wrap64<|a.f-b.f) x y=decide (x.f<y.f):=fun x g y i=>by
  have j:=I x g;have l:=I y i;have:RowKit.wrap64 (x.f-y.f)=x.f-y.f:=by unfold RowKit.wrap64;omega
  simp only[iH,jf,this];rw[vg];simp;omega
 have q:∀x∈d,∀y∈d,x.f=y.f->x=y:=by
  clear k I C;induction d with
  |nil=>intro x g;cases g|cons a d G=>have⟨j,l⟩:=pairwise_cons.1 B;intro x g y i e;obtain v |kx:=zI.1 g<;>obtain w |ky:=zI.1 i;rw[v,w];subst v;exact absurd e<|j y ky;subst w;exact absurd e.symm<|j x kx;exact G l x kx y ky e
 have t:Bp MC (fun a b:eN=>some<|RowKit.wrap64<|a.f-b.f) d=true:=by
  unfold Bp;rw[rj];intro x g;rw[eR,zp,rj];refine⟨by rw[k x g x g];simp,fun y i=>?_⟩;rw[eR,eR,rj];refine⟨rfl,?_,fun z D=>?_⟩;rw[k x g y i,k y i x g];by_cases e:x.f=y.f;have:=q x g y i e;subst this;simp[MC];have:x.f<y.f\/y.f<x.f:=by omega
  obtain h |h:=this<;>simp[h];rw[k x g y i,k y i z D,k x g z D];rw[eR,nH,nH,nH,zp,zp,Ln,qcd,qcd,qcd,IT,IT,IT];omega
 refine⟨_,by rw[JW,sb,t,TP,ve C,zC],QE _ _,?_⟩;have E:=qph z1y t;have j:eZ _ _:=qrv E d fun y i=>i;have l:(gC (iH fun a b:eN=>some<|RowKit.wrap64<|a.f-b.f) d).Pairwise fun a b=>a.f≠b.f:=(QE _ d).symm.pairwise B fun{a b} h=>WV h;have o:∀x∈gC (iH fun a b:eN=>some<|RowKit.wrap64<|a.f-b.f) d,x∈d:=fun x g=>(QE _ d).mem_iff.1 g;revert j l o;generalize gC (iH fun a b:eN=>some<|RowKit.wrap64<|a.f-b.f) d=s;intro j l o;unfold eZ at j;have:=Pairwise.and j l;refine Pairwise.imp_of_mem (fun{a b} ha hb h=>?_) this;have A:=h.1;rw[k b (o b hb) a<|o a ha]at A;have H:=h.2;simp at A;omega
section
variable{ws:X Nat}{g:Int}{c j:X PN}{C:X aD}{F d:Nat->Nat}{D n:Nat}
def jZ(g:Int)(j:X PN)(out:X Nat)(i:Nat):Nat:=if dZ g j i=true then j.length+(out.filter<|dZ g j).idxOf i else i
structure P1(g:Int)(j:X PN)(out dn:X Nat)(N:X PN):Prop where
 len:N.length=j.length+(dn.filter (dZ g j)).length
 o2:∀(i:Nat)(x:PN),j[i]? = some x->i ∉ dn->N[i]? = some x
 o0:∀(i:Nat)(x:PN),j[i]? = some x->i∈dn->N[i]? = some { x with cp:=some (jZ g j out i),c6:=g }
 new:∀(k p:Nat)(x:PN),(dn.filter (dZ g j))[k]? = some p->j[p]? = some x->N[j.length+k]? = some (iD (iF g x) [])
def zav{out dn l:X Nat}{p:Nat}(f:out=dn++p::l)(i:out.Nodup)(e:dZ g j p=true):jZ g j out p=j.length+(dn.filter<|dZ g j).length:=by
 rw[jZ,lr e,f,nw,iZ,e,lr rfl,og];have:p ∉ dn.filter (dZ g j):=fun h=>by have h:=(mem_filter.1 h).1;rw[f,fF]at i;exact i.2.2 p h p aZ rfl
 rw[hF this];simp
def qxe{l:X Nat}{p q k:Nat}(h:(l++[p])[k]? = some q):l[k]? = some q\/(k=l.length/\q=p):=by
 by_cases f:k<l.length;rw[mc f]at h;exact .inl h;rw[mu af]at h;have i:k-l.length<1:=(zG.1 h).1;have e:k-l.length=0:=by omega
 rw[e]at h;simp at h;exact .inr ⟨by omega,h.symm⟩
def K?{out:X Nat}(A:out.Nodup)(H:∀p∈out,p<j.length):∀(l dn:X Nat)(N:X PN)(s:Int),out=dn++l->P1 g j out dn N->0<=s->s+(l.length:Int)<=1000000->
  ∃B,W0 g l N s=some (B,s+((l.filter<|dZ g j).length:Int))/\P1 g j out out B
 |[],dn,N,s,v,h,_,_=>by
  have:dn=out:=by rw[v];simp
  subst this;exact⟨N,by simp[W0],h⟩
 |p::l,dn,N,s,v,h,P,R=>by
  have Q:=H p (by rw[v];simp);have⟨x,z⟩:=eU Q;have K:p ∉ dn:=fun q=>by rw[v,fF]at A;exact A.2.2 p q p aZ rfl
  have M:=h.o2 p x z K;have G:=h.len;have J:p<N.length:=pS M;simp[zO]at R;rw[W0,M,aN,<-Uk (N:=j) z,iZ];cases E:dZ g j p with
  |true=>
   rw[zC,lr rfl];have O:=zav v A E;have S:i64.wrap (s+1)=s+1:=oX af af;rw[S];have I:P1 g j out (dn++[p]) ((N++[iD (iF g x) []]).set p { x with cp:=some N.length,c6:=g }):=by
    have w:(dn++[p]).filter (dZ g j)=dn.filter (dZ g j)++[p]:=by simp[nw,E]
    refine⟨by rw[w];simp;omega,fun i y f u=>?_,fun i y f u=>?_,fun k q y t f=>?_⟩;have o:i ∉ dn/\i≠p:=by simpa using u
    rw[mz<|WV o.2,mc (by rw[G];have:=pS f;omega)];exact h.o2 i y f o.1;by_cases e:i=p;subst e;rw[z]at f;cases f;rw[YO (by simp;omega),O,G];have o:i∈dn:=by simpa[e]using u
    rw[mz<|WV e,mc (by rw[G];have:=pS f;omega)];exact h.o0 i y f o;rw[w]at t;rw[mz af];obtain t |⟨rfl,rfl⟩:=qxe t;have:=(zG.1 t).1;rw[mc af];exact h.new k q y t f;rw[z]at f;cases f;rw[mu af];simp[G]
   have⟨B,g1,g2⟩:=K? A H l (dn++[p]) _ (s+1) (by rw[v];simp) I af af;exact⟨B,by rw[g1,zO];congr 2;omega,g2⟩
  |false=>
   rw[zD,hF aZ];have I:P1 g j out (dn++[p]) (N.set p { x with cp:=some p,c6:=g }):=by
    have w:(dn++[p]).filter (dZ g j)=dn.filter (dZ g j):=by simp[nw,E]
    refine⟨by rw[w];simp;omega,fun i y f u=>?_,fun i y f u=>?_,fun k q y t f=>?_⟩;have o:i ∉ dn/\i≠p:=by simpa using u
    rw[mz<|WV o.2];exact h.o2 i y f o.1;by_cases e:i=p;subst e;rw[z]at f;cases f;rw[YO J,jZ,E,hF aZ];have o:i∈dn:=by simpa[e]using u
    rw[mz<|WV e];exact h.o0 i y f o;rw[w]at t;rw[mz af];exact h.new k q y t f
   exact K? A H l (dn++[p]) _ s (by rw[v];simp) I P af
def P1.nil(out:X Nat):P1 g j out [] j:=⟨by simp,fun _ _ h _=>h,fun _ _ _ h=>(oC h).elim,fun _ _ _ h=>by simp at h⟩
def OM(g:Int)(j:X PN)(out:X Nat)(F:Nat->Nat)(a:eN):eN:=⟨a.f,jZ g j out<|F a.to⟩
def za2(u:US ws g c C F d D)(k:D<n){N:X PN}(h:Kp c N){out:X Nat}(o:∀p∈out,∃y,N[p]? = some y/\y.cp=some (jZ g j out p)/\y.c6=g):∀(l e:X eN),(∀a∈l,a.to<c.length/\F a.to∈out)->e.length+l.length<=1000000->Z6 N g n l e=some (e++l.map (OM g j out F))
 |[],e,_,_=>by simp[Z6]
 |a::l,e,i,z=>by
  have⟨s,t⟩:=i a aZ;have⟨y,A,w,f⟩:=o _ t;simp[zO]at z;have q:IL g y=some (jZ g j out<|F a.to):=by rw[IL,f,w];simp
  rw[Z6,u.vY h k s,aN,A,aN,q,aN,aE,lr af,za2 u k h o l _ (fun b v=>i b<|lu _ v) (by simp;omega)];simp[OM]
structure P2(g:Int)(j N2:X PN)(F:Nat->Nat)(out dn:X Nat)(N:X PN):Prop where
 len:N.length=N2.length
 aY:∀i,i<j.length->N[i]? = N2[i]?
 r7:∀(k p:Nat)(x:PN),(dn.filter (dZ g j))[k]? = some p->j[p]? = some x->∃d',N[j.length+k]? = some (iD (iF g x) d')/\L? d' ((bY g x).map (OM g j out F))
 r8:∀k,(dn.filter (dZ g j)).length<=k->N[j.length+k]? = N2[j.length+k]?
def J?(u:US ws g c C F d D)(S:D<n)(t:Kp c j)(G:j.length=c.length){out:X Nat}(V:out.Nodup)(E:∀p∈out,p<j.length){M:X PN}(s:P1 g j out out M)
  (v:∀p∈out,∀x,j[p]? = some x->(bY g x).length<=1000000/\(bY g x).Pairwise (fun a b=>a.f≠b.f)/\∀a∈bY g x,(0<=a.f/\a.f<1000)/\a.to<c.length/\F a.to∈out):∀(l dn:X Nat)(N:X PN),out=dn++l->P2 g j M F out dn N->
  ∃Z,RY g n l N (j.length+(dn.filter<|dZ g j).length)=some Z/\P2 g j M F out out Z
 |[],dn,N,A,h=>by
  have:dn=out:=by rw[A];simp
  subst this;exact⟨N,by rw[RY,aE,lr<|by rw[h.len,s.len]],h⟩
 |p::l,dn,N,A,h=>by
  have B:p∈out:=by rw[A];simp
  have hp:=E p B;have⟨x,K⟩:=eU hp;have hN:N[p]? = some { x with cp:=some<|jZ g j out p,c6:=g }:=by rw[h.aY p hp];exact s.o0 p x K B
  have Hz:IL g { x with cp:=some<|jZ g j out p,c6:=g }=some (jZ g j out p):=by simp[IL]
  rw[RY,hN,aN,Hz,aN];cases I:dZ g j p with
  |false=>
   have P:Nat.beq (jZ g j out p) p=true:=by rw[beq_eq,jZ,I];simp
   rw[P,zC];have w:(dn++[p]).filter (dZ g j)=dn.filter (dZ g j):=by simp[nw,I]
   have:=J? u S t G V E s v l (dn++[p]) N (by rw[A];simp) ⟨h.len,h.aY,fun k q y e o=>h.r7 k q y (by rw[w]at e;exact e) o,fun k e=>h.r8 k (by rw[w]at e;exact e)⟩;rw[w]at this;exact this
  |true=>
   have J:=zav A V I;have P:Nat.beq (jZ g j out p) p=false:=by rw[beq_eq,J];simp;omega
   have w:(dn++[p]).filter (dZ g j)=dn.filter (dZ g j)++[p]:=by simp[nw,I]
   have Q:(out.filter<|dZ g j)[(dn.filter<|dZ g j).length]? = some p:=by rw[A,nw,iZ,I,lr rfl,mu<|zF _];simp
   have H:N[jZ g j out p]? = some (iD (iF g x) []):=by rw[J,h.r8 _<|zF _];exact s.new _ p x Q K
   have⟨O,a2,a3⟩:=v p B x K;have Y:bY g { x with cp:=some<|jZ g j out p,c6:=g }=bY g x:=rfl;rw[P,zD,H,aN,aE,lr ⟨J,by omega,by rw[Y];exact O⟩,Y];have hK:Kp c N:=fun i z U=>by have⟨y,o,e⟩:=t i z U;have R:=pS o;rw[h.aY i R];by_cases Qt:i∈out;exact⟨_,s.o0 i y o Qt,⟨e.kind,e.E3,e.fw,e.c3,e.mt,e.b8,e.more,e.K2⟩⟩;exact⟨y,s.o2 i y o Qt,e⟩
   have lZ:∀q∈out,∃y,N[q]? = some y/\y.cp=some (jZ g j out q)/\y.c6=g:=fun q T=>by obtain⟨z,U⟩:=eU<|E q T;exact⟨_,by rw[h.aY q<|E q T];exact s.o0 q z U T,rfl,rfl⟩
   rw[za2 u S hK lZ (bY g x) [] (fun a v=>(a3 a v).2) (by simp;exact O),aN,X0];have⟨d',k1,k2⟩:=zct (d:=(bY g x).map (OM g j out F)) (by simp;exact O) (by rw[fo];exact a2) (fun b hb=>by obtain⟨a,v,rfl⟩:=mem_map.1 hb;exact(a3 a v).1);rw[k1,aN];have Gr:=pS H;have:=J? u S t G V E s v l (dn++[p]) (N.set (jZ g j out p) { iD (iF g x) []with E3:=d' }) (by rw[A];simp) ⟨by simp[h.len],fun i R=>by rw[mz af];exact h.aY i R,fun k q y e o=>?_,fun k e=>?_⟩;rw[w]at this;simpa[ns]using this;rw[w]at e;obtain e |⟨rfl,rfl⟩:=qxe e;have:=(zG.1 e).1;rw[mz af];exact h.r7 k q y e o;rw[K]at o;cases o;refine⟨d',?_,k2⟩;rw[<-J,YO Gr];rfl;rw[w]at e;simp at e;rw[mz af];exact h.r8 k af
end
inductive Wk(f:az):Int->List Int->Int->Prop
 |nil (v:Int):Wk f v [] v
 |cons {v w:Int} {a:aI} {p:List Int}:a∈(nd f v).E4->Wk f a.To p w->Wk f v (a.E2::p) w
variable{f:az}{v:Int}{w:Int}
def Wk.inv{q:X Int}(h:Wk f v q w):∀{x:Int}{p:X Int},q=x::p->∃b∈(nd f v).E4,b.E2=x/\Wk f b.To p w:=by cases h with|nil=>intro x p e;cases e| @cons _ _ a i d g=>intro x p e;cases e;exact⟨a,d,rfl,g⟩
variable{p:X Int}
def Wk.C_(l:jP f)(h:Wk f v p w):gD f v->∀{d},Wk f v p d->d=w:=by induction h with|nil v=>intro _ d e;cases e;rfl| @cons v w a p g t q=>intro o d e;have i:=l _ (vN o).2;have⟨b,j,k,s⟩:=e.inv rfl;have:=i.X3.eq a g b j k.symm;subst this;have:=i.L2 a g;exact q ⟨this.2.1,this.2.2⟩ s
def Wk.U0(g:jP f)(h:Wk f v p w)(d:gD f v):gD f w:=by induction h with|nil v=>exact d| @cons v w a p e j i=>have:=(g _ (vN d).2).L2 a e;exact i ⟨this.2.1,this.2.2⟩
def Wk.snoc(h:Wk f v p w){a:aI}(d:a∈(nd f w).E4):Wk f v (p++[a.E2]) a.To:=by induction h with|nil v=>exact .cons d (.nil _)|cons e _ g=>exact .cons e (g d)
def Rc(f:az)(v w:Int):Prop:=∃p,Wk f v p w
def Rc.refl(f:az)(v:Int):Rc f v v:=⟨[],.nil v⟩
def Rc.snoc{f:az}{v w:Int}(h:Rc f v w){a:aI}(d:a∈(nd f w).E4):Rc f v a.To:=h.elim fun p e=>⟨_,e.snoc d⟩
def Jy(x:PN):aD:=⟨-1,x.kind,x.E3.map gA⟩
variable{N:X PN}{i:Nat}{x:PN}
def Ci(h:N[i]? = some x):F4 (N.map Jy) i=Jy x:=by simp[F4,h]
def Old.pk{g:Int}(h:Old g x):iF g x=x.kind/\iC g x=[]/\bY g x=x.E3:=by
 have e:(x.b8 != g)=true:=by have:=h.mt;simp;omega
 have j:(x.K2 != g)=true:=by have:=h.mo;simp;omega
 have d:iC g x=[]:=by rw[iC,j];rfl
 exact⟨by rw[iF,e];rfl,d,by rw[bY,d,Px]⟩
variable{ws:X Nat}
def Lk{g:Int}(c:CO N)(wf:Wf N)(j:∀x∈N,Old g x)(k:∀x∈N,0<=x.kind/\x.kind<(ws.length:Int)):US ws g N (N.map Jy) id (fun _=>0) 0:=by refine⟨⟨fun i e=>e,fun _ _=>rfl,fun _ _=>rfl,fun _ _=>zF _⟩,fun i x d _=>?_,fun i x d h=>absurd rfl h,by simp,fun i x d _=>?_,fun i x d _=>?_,fun i e=>?_,fun i e _=>?_,wf,fun x d=>(j x d).kL⟩;have:=(j x<|zX d).fw;simp;omega;rw[Ci d,(j x<|zX d).pk.1];rfl;rw[Ci d,(j x<|zX d).pk.2.2];rfl;have⟨x,d⟩:=eU e;rw[Ci d];exact(c.up x<|zX d).X3;have⟨x,d⟩:=eU e;rw[Ci d];exact k x (zX d)
def Ms{j:Nat}{c:aK}(h:(core N).D9[j]? = some c):∃x,N[j]? = some x/\c=cN x:=by simp only[core,me]at h;rcases d:N[j]? with _|x;rw[d]at h;cases h;rw[d]at h;exact⟨x,rfl,(Option.some.inj h).symm⟩
def qq7{j:Nat}(h:N[j]? = some x):(core N).D9[j]? = some (cN x):=by simp[core,h]
def Et(c:CO N):xI N.length ws (core N).D9:=⟨jH N,fun j x a e d=>by
 have:=(c.K5 x<|zX e).L2 a d;rw[jH]at this;exact this.2⟩
def tc0(W:X (Int×Int)):TC ws N.length (core N).D9 W (N.map Jy) id:=by refine⟨fun j c a g q=>?_,fun i b l _ o=>?_,fun i l _ k=>?_⟩;obtain⟨x,d,rfl⟩:=Ms g;exact⟨a,by rw[id,Ci d];exact q,rfl,fun _ _ _=>rfl⟩;have⟨x,d⟩:=eU l;rw[Ci d]at o;exact⟨i,cN x,qq7 d,rfl,o⟩;have⟨x,d⟩:=eU l;rw[Ci d];constructor;intro h j c g e;have e:j=i:=e;subst e;rw[qq7 d]at g;cases g;exact h;intro h;exact h i (cN x) (qq7 d) rfl
def qG(C:X aD)(F:Nat->Nat)(N:Nat):az:=⟨(List.range N).map fun i=>if F i=i then G6 F (F4 C i)else⟨0,[]⟩⟩
variable{F:Nat->Nat}
def C?{C:X aD}{N:Nat}(d:i<N)(e:F i=i):(qG C F N).D9[i]? = some (G6 F<|F4 C i):=by simp[qG,d,e]
def VC{C:X aD}{N:Nat}(d:i<N)(e:F i=i):nd (qG C F N) (i:Int)=G6 F (F4 C i):=by rw[nd,zZ,C? d e];rfl
def YS{l:X aI}(h:kC l):kC (l.map<|vE F):=by unfold kC at*;rw[fo];exact h
section
variable{ws:X Nat}{g:Int}{f:X PN}{C:X aD}{F d:Nat->Nat}{D n:Nat}{L:X aK}
def US.wB(u:US ws g f C F d D)(q:xI f.length ws L)(O:∀c∈L,∀a∈c.E4,0<=a.E2)(A:TC ws f.length L [] C F):jP (qG C F f.length):=fun x o=>by
 have z:(qG C F f.length).D9.length=f.length:=by simp[qG]
 simp only[qG]at o;obtain⟨i,h,rfl⟩:=mem_map.1 o;have h:i<f.length:=by simpa using h
 by_cases e:F i=i;rw[lr e];refine⟨(u.kr i h e).1,YS<|u.ds i h,fun a s=>?_⟩;obtain⟨b,t,rfl⟩:=mem_map.1 s;have⟨j,c,k,B,l⟩:=A.snd i b h e t;have E:=q.ar j c b k l;have G:=u.b9.lt b.To.toNat af;rw[z];simp only[vE,rI];exact⟨O c (zX k) b l,by omega,by omega⟩;rw[hF e];exact⟨pn _,Pairwise.nil,nofun⟩
def US.qg(u:US ws g f C F d D)(G:xI f.length ws L)(s:TC ws f.length L [] C F):QG ws L F (qG C F f.length):=by
 have l:=G.len;have node:∀{i:Nat}{x:aK},(qG C F f.length).D9[i]? = some x->F i=i->i<f.length/\x=G6 F (F4 C i):=fun{i x} k K=>by
  have h:i<f.length:=by have:=(zG.1 k).1;simpa[qG]using this
  rw[C? h K]at k;exact⟨h,(Option.some.inj k).symm⟩
 refine⟨by simp[qG,l],fun i h=>?_,fun i x k K=>?_,fun i x k K=>?_,fun j y a z H=>?_,fun i x b k K I=>?_⟩;rw[l]at h ⊢;exact⟨u.b9.lt i h,u.b9.idem i h⟩;obtain⟨h,rfl⟩:=node k K;exact⟨u.kr i h K,s.kd i h K⟩;obtain⟨h,rfl⟩:=node k K;exact YS<|u.ds i h;have⟨b,A,B,E⟩:=s.gE j y a z H;have q:=(zG.1 z).1;rw[l]at q;refine⟨G6 F<|F4 C<|F j,vE F b,C? (u.b9.lt j q)<|u.b9.idem j q,X1 A,B,?_⟩;simp[vE,rI];rw[E F (fun _ _ _ _ e=>e) fun _ J=>by cases J];obtain⟨h,rfl⟩:=node k K;obtain⟨t,o,rfl⟩:=mem_map.1 I;have⟨j,y,q1,q2,q3⟩:=s.snd i t h K o;exact⟨j,y,t,q1,q2,q3,rfl,rfl⟩
def US.S1(u:US ws g f C F d D)(t:xI f.length ws L)(h:TC ws f.length L [] C F):oV L F:=fun i j x y a b q B e z A I=>by
 have⟨l,K,J,E⟩:=h.gE i x a q z;have⟨o,q1,q2,q3⟩:=h.gE j y b B A;have s:=(zG.1 q).1;rw[t.len]at s;rw[<-e]at q1;have:l=o:=(u.ds _<|u.b9.lt i s).eq l K o q1 af;subst this;have G:=E F (fun _ _ _ _ e=>e) (fun _ k=>by cases k);have H:=q3 F (fun _ _ _ _ e=>e) (fun _ k=>by cases k);omega
def US.mL(u:US ws g f C F d D)(o:xI f.length ws L)(t:∀w∈ws,w≠0)(h:TC ws f.length L [] C F):¬ TH ws L F:=fun⟨i,e,q⟩=>by
 rw[o.len]at e;have A:=u.b9.lt i e;have l:=u.b9.idem i e;have s:=u.kr _ A l;obtain⟨k,z⟩:=Ht<|t _<|zX<|HQ s;have⟨j,x,q1,q2,q3⟩:=q k;have:=(h.kd _ A l k).1 z j x q1 q2;rw[q3]at this;cases this
def QG.wk{r:Nat->Nat}{q:az}(h:QG ws L r q)(B:∀(j:Nat)(c:aK)(a:aI),L[j]? = some c->a∈c.E4->0<=a.To/\a.To<(L.length:Int))(s:Wk ⟨L⟩ v p w):(0<=v/\v<(L.length:Int))->Wk q (r v.toNat:Int) p (r w.toNat:Int):=by
 induction s with
 |nil v=>intro _;exact .nil _| @cons v w a p k s E=>
  intro G;have⟨c,o⟩:=eU (l:=L) (i:=v.toNat) af;have e:nd ⟨L⟩ v=c:=by simp[nd,o]
  rw[e]at k;have⟨x,b,t,u,z,A⟩:=h.gE _ c a o k;have:=E<|B _ c a o k;rw[<-z];refine .cons (a:=b) ?_ (by rw[A];exact this);simp[nd,t];exact u
end
structure uo(ws:X Nat)(g:Int)(Nu:X PN)(Q:az)(r:Nat)(N3:X PN)(c k:Nat)(out:X Nat)(Z:Nat->Nat):Prop where
 co:CO N3
 ex:Ex Nu.length Nu N3
 wf:Wf N3
 len:N3.length=Nu.length+k
 aY:∀x∈N3,Old (g+1) x
 kr:∀x∈N3,0<=x.kind/\x.kind<(ws.length:Int)
 ft:∀x∈N3,∀a∈x.E3,0<=a.f/\a.f<1000
 rt:c=Z r/\r∈out
 lt:∀p∈out,p<Nu.length/\Z p<N3.length
 oY:∀p∈out,(nd (core N3) (Z p:Int)).R=(nd Q (p:Int)).R/\∀b,b∈(nd (core N3) (Z p:Int)).E4↔∃a∈(nd Q (p:Int)).E4,∃q:Nat,a.To=(q:Int)/\q∈out/\b=⟨a.E2,(Z q:Int)⟩
 inj:∀p∈out,∀q∈out,Z p=Z q->p=q
 low:∀p∈out,Z p<Nu.length->Z p=p
 new:∀i,Nu.length<=i->i<N3.length->∃p∈out,Z p=i
 k:k<=out.length
 D8:∀p∈out,Rc Q (r:Int) (p:Int)
 cl:∀p∈out,∀a∈(nd Q (p:Int)).E4,∃q∈out,a.To=(q:Int)
 can:cU (core N3) (c:Int)=cU Q (r:Int)
 ord:out.length<=(bT Q (r:Int)).length
def Pw{e s:Type}[DecidableEq s]{R:e->s->Prop}(k:∀a x y,R a x->R a y->x=y):∀(A:X e)(l:X s),l.Nodup->(∀x∈l,∃a∈A,R a x)->l.length<=A.length
 |[],[],_,_=>zF _|[],x::l,_,h=>by have⟨a,z,_⟩:=h x aZ;cases z
 |a::A,l,o,h=>by
  by_cases g:∃x∈l,R a x;have⟨x,g,D⟩:=g;have u:=Pw k A (l.erase x) (o.erase x) fun y j=>by have⟨t,B⟩:=o.mem_erase_iff.1 j;have⟨b,d,q⟩:=h y B;obtain rfl |d:=zI.1 d;exact absurd (k _ _ _ q D) t;exact⟨b,d,q⟩
  have C:=qcO g;simp[zO];omega;have u:=Pw k A l o fun y j=>by have⟨b,d,q⟩:=h y j;obtain rfl |d:=zI.1 d;exact absurd ⟨y,j,q⟩ g;exact⟨b,d,q⟩
  simp[zO];omega
def z7x{l:X Nat}(h:l.Nodup){k p:Nat}(g:k<l.length)(j:l[k]=p):l.idxOf p=k:=by have hm:p∈l:=j ▸ jh g;have d:=idxOf_lt_length_iff.2 hm;have o:=Gb d;have q:=pairwise_iff_getElem.1 h;obtain e |e |e:=Nat.lt_trichotomy (l.idxOf p) k;exact absurd (o.trans j.symm)<|q _ _ d g e;exact e;exact absurd (j.trans o.symm) (q _ _ g d e)
def zbz{N:X PN}{K:Nat}(k:N.length<=1000000)(l:∀x∈N,x.E3.length<=1000000)(j:∀x∈N,0<=x.kind)(o:∀x∈N,x.E3.Pairwise fun a b=>a.f<b.f)(h:∀x∈N,∀a∈x.E3,0<=a.f)(wf:Wf N):CO N:=by
 have up:∀x∈N,gO (x.E3.map gA):=fun x d=>by unfold gO;rw[fo];exact o x d
 refine⟨fun y q=>?_,up,k,l⟩;rw[jH];obtain⟨x,d,rfl⟩:=mem_map.1 q;refine⟨j x d,(up x d).X3,fun a g=>?_⟩;obtain⟨b,e,rfl⟩:=mem_map.1 g;have:=(wf x d).E3 b e;exact⟨h x d b e,by simp only[gA];omega,by simp[gA];omega⟩
def CO.DA{N:X PN}(c:CO N):∀x∈N,x.E3.Pairwise fun a b=>a.f<b.f:=fun x d=>by
 have:=c.up x d;unfold gO at this;rw[fo]at this;exact this
section
variable{ws:X Nat}{g:Int}{l:X PN}{C:X aD}{F d:Nat->Nat}{D n:Nat}
def ln(u:US ws g l C F d D)(co:CO l)(tc:TC ws l.length (core l).D9 [] C F)(hn:D<n/\l.length<n)(hN:2*l.length<=1000000)(hC:L4 C<=1000000)
  (H:∀x∈l,0<=x.kind/\x.kind<(ws.length:Int)) (hf:∀x∈l,∀a∈x.E3,0<=a.f/\a.f<1000) (hg:0<=g) {s:Int} (h0:0<=s) (hs:s+(l.length:Int)<=1000000) {r:Nat} (hr:r<l.length) (hrr:F r=r):
  ∃(c:Nat)(I:X PN)(k:Nat)(out:X Nat)(Z:Nat->Nat),Lf g n l s r=some (c,I,s+(k:Int))/\uo ws g l (qG C F l.length) r I c k out Z:=by
 have hL:=Et (ws:=ws) co;have⟨out,o1,E⟩:=zb4 u hn.1 af hC (r:=r) n 0 [r] aZ (fun k H=>by simp at H;subst H;exact hr) (fun k H=>by simp at H;subst H;exact hrr) aZ af aZ (fun j p hj=>af) (fun S hS _ p o=>by simp at o;subst o;exact hS);have DN:=O! E.nd E.lt;have⟨Nm,m1,m2⟩:=zcg u hn.1 co.sm E.lt ⟨by omega,by omega⟩;have wU:=m2.km.len;have aG:∀p∈out,p<Nm.length:=fun p o=>by rw[wU];exact E.lt p o
 have⟨N2,p1,p2⟩:=K? (g:=g) E.nd aG out [] Nm s rfl (P1.nil out) h0 af;have gR:∀p∈out,∃x y,l[p]? = some x/\Nm[p]? = some y/\KM g x y/\iF g y=iF g x/\bY g y=bY g x/\(F4 C p).kind=iF g x/\(F4 C p).E3=(bY g x).map gA:=fun p o=>by obtain⟨x,A⟩:=eU<|E.lt p o;have⟨y,G,H⟩:=m2.km.st p x A;have⟨e1,e2,e3⟩:=H.kk.pk g;exact⟨x,y,A,G,H,e1,e3,u.kd p x A<|E.rp p o,u.ar p x A<|E.rp p o⟩
 have Y:∀p∈out,∀x,l[p]? = some x->(bY g x).Pairwise (fun a b=>a.f≠b.f)/\∀a∈bY g x,(0<=a.f/\a.f<1000)/\a.to<l.length/\F a.to∈out:=fun p o x A=>by
  have e:=u.ar p x A<|E.rp p o;refine⟨?_,fun a B=>⟨?_,u.to A a B,E.S1 p o x A a B⟩⟩;have:=u.ds p<|E.lt p o;rw[e]at this;unfold kC at this;rw[fo]at this;exact this;have hm:gA a∈(F4 C p).E3:=by rw[e];exact X1 B
  have⟨j,c,q1,q2,q3⟩:=tc.snd p _ (E.lt p o) (E.rp p o) hm;obtain⟨z,hz,rfl⟩:=Ms q1;have⟨b,U,e2⟩:=mem_map.1 q3;have:=hf z (zX hz) b U;have e3:b.f=a.f:=congrArg aI.E2 e2;omega
 have⟨I,q1,q2⟩:=J? u hn.1 m2.km.kp wU E.nd aG p2 (fun p o y G=>by obtain⟨x,y',A,nX,_,_,e3,_,_⟩:=gR p o;rw[G]at nX;cases nX;rw[e3];exact⟨by have:=u.rV A<|E.rp p o;omega,Y p o x A⟩) out [] N2 rfl ⟨rfl,fun _ _=>rfl,fun _ _ _ h=>by simp at h,fun _ _=>rfl⟩;have hN3:I.length=l.length+(out.filter<|dZ g Nm).length:=by rw[q2.len,p2.len,wU]
 have DT:(out.filter<|dZ g Nm).length<=out.length:=Hc _ _;have aY:∀(i:Nat)(x:PN),l[i]? = some x->∃y,I[i]? = some y/\KK x y/\(y.c6=x.c6\/y.c6=g)/\(y.c4=x.c4\/y.c4=g)/\(GT I.length y.cp):=fun i x A=>by
  have⟨y,G,H⟩:=m2.km.st i x A;have hi:=pS G;have SL:GT I.length x.cp:=GT.le af (u.wf.at A).cp;rw[q2.aY i hi];by_cases Qt:i∈out
  ·refine⟨_,p2.o0 i y G Qt,⟨H.kk.kind,H.kk.E3,H.kk.fw,H.kk.c3,H.kk.mt,H.kk.b8,H.kk.more,H.kk.K2⟩,.inr rfl,H.2,?_⟩;show jZ g Nm out i<I.length;unfold jZ;split
   ·next P=>have:=idxOf_lt_length_iff.2 (mem_filter.2 ⟨Qt,P⟩:i∈out.filter (dZ g Nm));omega
   omega
  refine⟨y,p2.o2 i y G Qt,H.kk,.inl ?_,H.2,?_⟩;rw[H.1];rw[H.1];exact SL
 have new:∀k,k<(out.filter<|dZ g Nm).length->∃p x d',(out.filter<|dZ g Nm)[k]? = some p/\p∈out/\dZ g Nm p=true/\l[p]? = some x/\I[l.length+k]? = some (iD (iF g x) d')/\L? d' ((bY g x).map (OM g Nm out F)):=fun k H=>by have⟨p,o⟩:=eU H;have C8:=mem_filter.1<|zX o;have⟨x,y,A,G,_,e1,e3,_,_⟩:=gR p C8.1;have⟨d',k1,V⟩:=q2.r7 k p y o G;rw[e1,wU]at k1;rw[e3]at V;exact⟨p,x,d',o,C8.1,C8.2,A,k1,V⟩
 have pil:∀p∈out,jZ g Nm out p<I.length:=fun p o=>by
  unfold jZ;split
  ·next P=>have:=idxOf_lt_length_iff.2 (mem_filter.2 ⟨o,P⟩:p∈out.filter (dZ g Nm));omega
  have:=E.lt p o;omega
 have O:∀y∈I,(0<=y.kind/\y.kind<(ws.length:Int))/\(y.E3.Pairwise fun a b=>a.f<b.f)/\(∀a∈y.E3,0<=a.f/\a.f<1000)/\y.E3.length<=1000000/\lQ I.length y/\Old (g+1) y:=fun y G=>by
  have⟨i,hi⟩:=Zc G;by_cases i8:i<l.length;have⟨x,A⟩:=eU i8;have⟨y',Q,M,h3,h4,h5⟩:=aY i x A;rw[hi]at Q;cases Q;have gM:=zX A;have w:=u.wf x gM;have m:=u.kL x gM;refine⟨by rw[M.kind];exact H x gM,by rw[M.E3];exact co.DA x gM,by rw[M.E3];exact hf x gM,by rw[M.E3];exact co.sm x gM,⟨?_,?_,?_,h5⟩,?_⟩;rw[M.E3];exact fun a B=>by have:=w.E3 a B;omega
  rw[M.fw];exact GT.le af w.fw;rw[M.more];exact fun a B=>by have:=w.more a B;omega
  have q1:=m.fw;have q2:=m.mt;have q3:=m.mo;have q4:=m.cp;have q5:=m.ch;exact⟨by rw[M.c3];omega,by rw[M.b8];omega,by rw[M.K2];omega,by obtain e |e:=h3<;>omega,by obtain e |e:=h4<;>omega⟩;have T_:i<I.length:=pS hi;have⟨p,x,d',k1,V,k3,k4,k5,k6⟩:=new (i-l.length) af;rw[show l.length+(i-l.length)=i by omega,hi]at k5;cases k5;have⟨x',y',sK,_,_,_,_,e4,_⟩:=gR p V;rw[k4]at sK;cases sK;have kr:=u.kr p (E.lt p V)<|E.rp p V;rw[e4]at kr;have je:∀a∈d',∃b∈bY g x,a=OM g Nm out F b:=fun a B=>by obtain⟨b,U,e⟩:=mem_map.1<|k6.pm.mem_iff.1 B;exact⟨b,U,e.symm⟩
  refine⟨kr,k6.up,fun a B=>?_,?_,⟨fun a B=>?_,trivial,nofun,trivial⟩,⟨by show(0:Int)<g+1;omega,by show(0:Int)<g+1;omega,by show(0:Int)<g+1;omega,by show(0:Int)<g+1;omega,by show(0:Int)<g+1;omega⟩⟩;obtain⟨b,U,rfl⟩:=je a B;exact((Y p V x k4).2 b U).1;show d'.length<=1000000;rw[k6.pm.length_eq,yA];have:=u.rV k4<|E.rp p V;omega;obtain⟨b,U,rfl⟩:=je a B;exact pil _ ((Y p V x k4).2 b U).2.2
 have co3:CO I:=zbz (K:=0) af (fun y G=>(O y G).2.2.2.1) (fun y G=>(O y G).1.1) (fun y G=>(O y G).2.1) (fun y G a B=>((O y G).2.2.1 a B).1) fun y G=>(O y G).2.2.2.2.1;have ex:Ex l.length l I:=⟨by omega,fun i x _ A=>by have⟨y,Q,M,_⟩:=aY i x A;exact⟨y,Q,M.kind,M.E3⟩⟩;have oY:∀p∈out,∃x y,l[p]? = some x/\I[jZ g Nm out p]? = some y/\y.kind=iF g x/\y.E3.Perm ((bY g x).map (OM g Nm out F)):=fun p o=>by
  have⟨x,y,A,G,H,e1,e3,e4,e5⟩:=gR p o;cases P:dZ g Nm p with
  |true=>
   have hm:=mem_filter.2 (⟨o,P⟩:p∈out/\dZ g Nm p=true);obtain⟨q,x',d',k1,V,k3,k4,k5,k6⟩:=new ((out.filter<|dZ g Nm).idxOf p)<|idxOf_lt_length_iff.2 hm;have:q=p:=by have Q:=lq<|idxOf_lt_length_iff.2 hm;rw[Gb]at Q;rw[Q]at k1;exact(Option.some.inj k1).symm
   subst this;rw[A]at k4;cases k4;refine⟨x,iD (iF g x) d',A,?_,rfl,k6.pm⟩;rw[jZ,P,lr rfl,wU];exact k5
  |false=>
   obtain⟨z,Q,M,_⟩:=aY p x A;have U:=m2.bs p o P x A;have iL:=m2.cl p o P x A;unfold Rg at U;simp only[Bool.or_eq_false_iff]at U;obtain⟨b1,b2,b3⟩:=U;have Hg:iF g x=x.kind:=by simpa using b1
   have fT:iC g x=[]:=by
    have:¬ ((iC g x).length:Int)>0:=by simpa using b2
    exact Zs af
   have M_:bY g x=x.E3:=by rw[bY,fT,Px]
   have hmap:(bY g x).map (OM g Nm out F)=x.E3:=by
    rw[M_]
    conv=>rhs;rw[<-map_id' x.E3]
    refine X2 fun a B=>?_;have h3:F a.to=a.to:=by have:=any_eq_false.1 b3 a B;simp only[X!,Bool.not_eq_false']at this;rw[beq_eq]at this;simpa using this
    have h4:=iL a B;simp only[OM,h3,jZ,h4];rfl
   refine⟨x,z,A,by rw[jZ,P];exact Q,by rw[M.kind,Hg],?_⟩;rw[hmap,M.E3]
 have inj:∀p∈out,∀q∈out,jZ g Nm out p=jZ g Nm out q->p=q:=fun p o q hq e=>by
  have Q:=aG p o;have M:=aG q hq;unfold jZ at e;cases P:dZ g Nm p<;>cases hd:dZ g Nm q<;>rw[P,hd]at e<;>simp[It,gj,MF]at e;exact e;omega;omega;have e2:(out.filter<|dZ g Nm).idxOf p=(out.filter<|dZ g Nm).idxOf q:=by omega
  have tN:=idxOf_lt_length_iff.2<|mem_filter.2 (⟨o,P⟩:p∈out/\dZ g Nm p=true);have L_:=idxOf_lt_length_iff.2<|mem_filter.2 (⟨hq,hd⟩:q∈out/\dZ g Nm q=true);have g1:=Gb tN;have g2:=Gb L_;rw[<-g1,<-g2];congr 1
 have qnd:∀p∈out,nd (qG C F l.length) (p:Int)=G6 F (F4 C p):=fun p o=>VC (E.lt p o)<|E.rp p o;have T:∀p∈out,∀x,l[p]? = some x->∀b,b∈(nd (qG C F l.length) (p:Int)).E4↔∃a∈bY g x,b=⟨a.f,(F a.to:Int)⟩:=fun p o x A b=>by rw[qnd p o];simp only[G6];rw[u.ar p x A<|E.rp p o,eF,fA];constructor;rintro⟨a,B,rfl⟩;exact⟨a,B,by simp[vE,gA,rI]⟩;rintro⟨a,B,rfl⟩;exact⟨a,B,by simp[vE,gA,rI]⟩
 have imgc:∀p∈out,(nd (core I) (jZ g Nm out p:Int)).R=(nd (qG C F l.length) (p:Int)).R/\∀b,b∈(nd (core I) (jZ g Nm out p:Int)).E4↔∃a∈(nd (qG C F l.length) (p:Int)).E4,∃q:Nat,a.To=(q:Int)/\q∈out/\b=⟨a.E2,(jZ g Nm out q:Int)⟩:=fun p o=>by
  have⟨x,y,A,G,Hg,C8⟩:=oY p o;rw[HT G];refine⟨?_,fun b=>?_⟩;rw[qnd p o];show y.kind=(F4 C p).kind;rw[Hg,u.kd p x A<|E.rp p o];have hq:=T p o x A;constructor;intro U;obtain⟨a,B,rfl⟩:=mem_map.1 U;obtain⟨a0,J,rfl⟩:=mem_map.1<|C8.mem_iff.1 B;exact⟨⟨a0.f,(F a0.to:Int)⟩,(hq _).2 ⟨a0,J,rfl⟩,F a0.to,rfl,E.S1 p o x A a0 J,rfl⟩;rintro⟨a,B,q,e1,e2,rfl⟩;obtain⟨a0,J,rfl⟩:=(hq a).1 B;have e1:((F a0.to:Nat):Int)=(q:Int):=e1;have:q=F a0.to:=by omega
  subst this;exact mem_map.2 ⟨OM g Nm out F a0,C8.mem_iff.2<|X1 J,rfl⟩
 have hQ:jP (qG C F l.length):=u.wB hL (fun c P a B=>((co.K5 c P).L2 a B).1) tc;have hQl:(qG C F l.length).D9.length=l.length:=by simp[qG]
 have hsim:tZ (qG C F l.length) (core I) (fun v=>(jZ g Nm out v.toNat:Int)) (fun v=>∃p:Nat,v=(p:Int)/\p∈out):=by
  refine⟨?_,?_,?_,?_⟩;rintro v ⟨p,rfl,o⟩ a B;have⟨x,_,A,_⟩:=oY p o;obtain⟨a0,J,rfl⟩:=(T p o x A a).1 (uZ.1 B);exact⟨F a0.to,rfl,E.S1 p o x A a0 J⟩;rintro v w ⟨p,rfl,o⟩ ⟨q,rfl,hq⟩ e;simp[zZ]at e;rw[inj p o q hq af];rintro v ⟨p,rfl,o⟩;simp[zZ];exact(imgc p o).1;rintro v ⟨p,rfl,o⟩;simp[zZ];have i1:gD (core I) (jZ g Nm out p:Int):=⟨by omega,by rw[jH];have:=pil p o;omega⟩;have i2:gD (qG C F l.length) (p:Int):=⟨by omega,by rw[hQl];have:=E.lt p o;omega⟩;have up1:gO (P4 (core I) (jZ g Nm out p:Int)):=QA (co3.K5 _ (vN i1).2).X3;have up2:gO ((P4 (qG C F l.length) (p:Int)).map fun a=>(⟨a.E2,(jZ g Nm out a.To.toNat:Int)⟩:aI)):=by have:gO (P4 (qG C F l.length) (p:Int)):=QA (hQ _ (vN i2).2).X3;unfold gO at*;rw[fo];exact this
  refine qwj up1 up2 fun b=>?_;rw[uZ,(imgc p o).2 b,fA];constructor;rintro⟨a,B,q,e1,e2,rfl⟩;exact⟨a,uZ.2 B,by rw[e1,zZ]⟩;rintro⟨a,B,rfl⟩;have B:=uZ.1 B;have⟨x,_,A,_⟩:=oY p o;obtain⟨a0,J,rfl⟩:=(T p o x A a).1 B;exact⟨_,B,F a0.to,rfl,E.S1 p o x A a0 J,rfl⟩
 have hrQ:gD (qG C F l.length) (r:Int):=⟨by omega,by rw[hQl];omega⟩;have SO:=(hsim.canon hQ co3.K5 (r:=(r:Int)) hrQ ⟨r,rfl,E.hd⟩ ⟨by simp only[zZ];omega,by rw[jH];simp[zZ];have:=pil r E.hd;omega⟩).2;simp[zZ]at SO;have⟨g1,_⟩:=JK hQ hrQ;have mU:∀p∈out,F p=p/\p<l.length/\(p:Int)∈bT (qG C F l.length) (r:Int)/\Rc (qG C F l.length) (r:Int) (p:Int):=E.ind _ ⟨hrr,hr,by have⟨t,ht⟩:=g1.head;rw[ht];simp,Rc.refl _ _⟩ fun p x a ⟨Q,vZ,M,h3⟩ A B=>by
  have hm:(⟨a.f,(F a.to:Int)⟩:aI)∈(nd (qG C F l.length) (p:Int)).E4:=by rw[VC vZ Q];simp only[G6];rw[u.ar p x A Q,eF,fA];exact⟨a,B,by simp[vE,gA,rI]⟩
  exact⟨u.b9.idem _<|u.to A a B,u.b9.lt _<|u.to A a B,g1.S1 _ M _ hm,h3.snoc hm⟩
 have hord:out.length<=(bT (qG C F l.length) (r:Int)).length:=Pw (R:=fun(v:Int) (p:Nat)=>v=(p:Int)) (fun v x y e1 e2=>af) _ out E.nd fun p o=>⟨(p:Int),(mU p o).2.2.1,rfl⟩;have hrch:∀p∈out,Rc (qG C F l.length) (r:Int) (p:Int):=fun p o=>(mU p o).2.2.2;refine⟨jZ g Nm out r,I,(out.filter<|dZ g Nm).length,out,jZ g Nm out,?_,⟨co3,ex,fun y G=>(O y G).2.2.2.2.1,hN3,fun y G=>(O y G).2.2.2.2.2,fun y G=>(O y G).1,fun y G=>(O y G).2.2.1,⟨rfl,E.hd⟩,fun p o=>⟨E.lt p o,pil p o⟩,imgc,inj,fun p o h=>?_,fun i Q M=>?_,DT,hrch,fun p o a B=>?_,SO,hord⟩⟩;have⟨x,y,A,G,_⟩:=gR r E.hd;have GG:I[r]? = some { y with cp:=some<|jZ g Nm out r,c6:=g }:=by rw[q2.aY r<|aG r E.hd];exact p2.o0 r y G E.hd
 have e0:RY g n out N2 Nm.length=some I:=q1;have hpd:IL g { y with cp:=some<|jZ g Nm out r,c6:=g }=some (jZ g Nm out r):=by simp[IL]
 rw[Lf,o1,aN,m1,aN,p1,aN];simp only;rw[<-wU,e0,aN,GG,aN,hpd,aN];unfold jZ at h ⊢;rcases P:dZ g Nm p with _|_;simp;rw[P,lr rfl]at h;omega;have⟨p,x,d',k1,V,k3,k4,k5,k6⟩:=new (i-l.length) af;refine⟨p,V,?_⟩;have tN:(out.filter<|dZ g Nm).idxOf p=i-l.length:=by have h3:=(zG.1 k1);have⟨h4,h5⟩:=h3;exact z7x (E.nd.filter _) h4 h5
 rw[jZ,k3,lr rfl,tN,wU];omega;have⟨x,_,A,_⟩:=oY p o;obtain⟨a0,J,rfl⟩:=(T p o x A a).1 B;exact⟨F a0.to,E.S1 p o x A a0 J,rfl⟩
end
def Sm.core{N d:X PN}(h:Sm N d):Go.Proofs.core d=Go.Proofs.core N:=by
 have:d.map cN=N.map cN:=by apply od;intro i;rw[me,me];by_cases l:i<N.length;have⟨x,e⟩:=eU l;have⟨o,g,j,k⟩:=h.st i x e;rw[e,g];simp[zM,cN,j,k];have:=h.len;rw[YQ af,YQ af]
 simp[Go.Proofs.core,this]
variable{N:X PN}{o:X PN}
def Sm.back(h:Sm N o){d:PN}(q:d∈o):∃x∈N,d.kind=x.kind/\d.E3=x.E3:=by have⟨i,j⟩:=Zc q;obtain⟨x,e⟩:=eU<|h.lt.1<|pS j;have⟨y,g,k,l⟩:=h.st i x e;rw[j]at g;cases g;exact⟨x,zX e,k,l⟩
def CO.DB(c:CO N)(h:Sm N o):CO o:=⟨by rw[h.core];exact c.K5,fun x g=>by
 have⟨y,d,j,e⟩:=h.back g;rw[e];exact c.up y d,by rw[h.len];exact c.len,fun x g=>by
 have⟨y,d,j,e⟩:=h.back g;rw[e];exact c.sm y d⟩
def qE(N:X PN):Nat:=(N.map fun x=>x.E3.length).sum
def Ao(N:X PN):L4 (N.map Jy)=qE N:=by simp[L4,qE,eF];congr 1;exact X2 fun x _=>by simp[Jy]
def Sm.L4(h:Sm N o):qE o=qE N:=by
 have:o.map (fun x=>x.E3.length)=N.map fun x=>x.E3.length:=by apply od;intro i;rw[me,me];by_cases j:i<N.length;have⟨x,d⟩:=eU j;have⟨l,e,k,g⟩:=h.st i x d;rw[d,e];simp[zM,g];have:=h.len;rw[YQ af,YQ af]
 rw[qE,this];rfl
abbrev Kq:=X Int×Int
structure xR(H:cR)(ws:X Nat)(P:PP)(fs:X az)(v10:X (X Int))(E:X Kq)(T:Nat):Prop where
 has:Has P fs
 hH:P.H=H
 wf:Wf P.N
 gen:1<=P.gen
 aY:∀x∈P.N,Old (P.gen+1) x
 kr:∀x∈P.N,0<=x.kind/\x.kind<(ws.length:Int)
 ft:∀x∈P.N,∀a∈x.E3,0<=a.f/\a.f<1000
 size:P.size=(P.N.length:Int)
 rt:∀r∈P.roots,r<P.N.length
 shr:∀a∈P.roots,∀b∈P.roots,∀x:Nat,Rc (core P.N) a x->Rc (core P.N) b x->∃p,Wk (core P.N) a p x/\Wk (core P.N) b p x
 p7:∀a∈P.roots,∀x:Nat,Rc (core P.N) a x->∃p∈v10,Wk (core P.N) a p x
 L2:∀a∈P.roots,∀x:Nat,Rc (core P.N) a x->∀y∈(nd (core P.N) x).E4,∃e∈E,Wk (core P.N) a e.1 x/\y.E2=e.2
 L4:qE P.N<=T
section
variable{H:cR}{ws:X Nat}{P:PP}{fs:X az}{v10:X (X Int)}{E:X Kq}{T:Nat}
def xR.sm(p:xR H ws P fs v10 E T){d:X PN}(h:Sm P.N d)(wf:Wf d)(hm:∀x∈d,LA (P.gen+1) x):xR H ws { P with N:=d,gen:=P.gen+1 } fs v10 E T:=by have s:=h.core;have u:=p.gen;refine⟨⟨p.has.co.DB h,p.has.len,fun k f t=>?_⟩,p.hH,wf,by show 1<=P.gen+1;omega,fun x j=>?_,fun x j=>?_,fun x j=>?_,by rw[h.len];exact p.size,fun r z=>by rw[h.len];exact p.rt r z,?_,?_,?_,by rw[h.L4];exact p.L4⟩;have⟨r,g,l,q⟩:=p.has.at_ k f t;exact⟨r,g,by rw[h.len];exact l,by show cU (core d) _=_;rw[s];exact q⟩;have m:=hm x j;have q1:=m.fw;have q2:=m.mt;have q3:=m.mo;have q4:=m.cp;have q5:=m.ch;exact⟨by show _<P.gen+1+1;omega,by show _<P.gen+1+1;omega,by show _<P.gen+1+1;omega,by show _<P.gen+1+1;omega,by show _<P.gen+1+1;omega⟩;have⟨y,g,l,q⟩:=h.back j;rw[l];exact p.kr y g;have⟨y,g,l,q⟩:=h.back j;rw[q];exact p.ft y g;show ∀a∈P.roots,∀b∈P.roots,∀x:Nat,Rc (core d) a x->Rc (core d) b x->∃p,Wk (core d) a p x/\Wk (core d) b p x;rw[s];exact p.shr;show ∀a∈P.roots,∀x:Nat,Rc (core d) a x->∃p∈v10,Wk (core d) a p x;rw[s];exact p.p7;show ∀a∈P.roots,∀x:Nat,Rc (core d) a x->∀y∈(nd (core d) x).E4,∃e∈E,Wk (core d) a e.1 x/\y.E2=e.2;rw[s];exact p.L2
structure GS(ws:X Nat)(L:X aK)(ra rb:Nat)(F:Nat->Nat)(Q:az):Prop where
 qg:QG ws L F Q
 K5:jP Q
 S1:oV L F
 mL:¬ TH ws L F
 eq:F ra=F rb
 low:∀q,oV L q->q ra=q rb->∀i j,i<L.length->j<L.length->F i=F j->q i=q j
def ud(ws:X Nat)(L:X aK)(d e:Nat):Prop:=∀q:Nat->Nat,oV L q->q d=q e->TH ws L q
def z3c(Q:mQ H ws)(p:xR H ws P fs v10 E T)(hT:2*(1+T)<=1000000)(GK:P.gen<=1000000){n:Nat}(hn:3000000<=n){a b k l:Nat}(B:P.roots[a]? = some k)(K:P.roots[b]? = some l):
  (∃h,H7 n P (a:Int) (b:Int)=some (none,{ P with N:=h,gen:=P.gen+1 })/\xR H ws { P with N:=h,gen:=P.gen+1 } fs v10 E T/\ud ws (core P.N).D9 k l)\/
  (∃h C F d D,H7 n P (a:Int) (b:Int)=some (some<|F k,{ P with N:=h,gen:=P.gen+1 })/\xR H ws { P with N:=h,gen:=P.gen+1 } fs v10 E T/\Sm P.N h/\US ws (P.gen+1) h C F d D/\D+L4 C<=1+T/\TC ws h.length (core h).D9 [] C F/\GS ws (core P.N).D9 k l F (qG C F h.length)):=by
 have Z:=p.rt k<|zX B;have Y:=p.rt l<|zX K;have mX:=(zG.1 B).1;have CC:=(zG.1 K).1;have co:=p.has.co;have hg:=p.gen;have t:i64.wrap (P.gen+1)=P.gen+1:=oX af af;have hL:=Et (ws:=ws) co;have zw:=Ao P.N;have hTt:=p.L4;have⟨ok,h,g1,g2⟩:=qvq Q (n:=n) af (g:=P.gen+1) (L:=(core P.N).D9) n [(k,l)] P.N (P.N.map Jy) id (fun _=>0) 0 hL (Lk co p.wf p.aY p.kr) (fun w t=>by simp at t;subst t;exact⟨Z,Y⟩) (tc0 _) (by simp;omega) (by simp;omega) (by simp;omega);have A:H7 n P (a:Int) (b:Int)=a8 (MW P.H (P.gen+1) n n [(k,l)] P.N) fun r=>cond (!r.1) (some (none,{ P with N:=r.2,gen:=P.gen+1 })) (a8 (uX r.2 (P.gen+1) n k) fun q=>some (some q,{ P with N:=r.2,gen:=P.gen+1 })):=by rw[H7,Zb af,zD,Zb af,zD,Zb af,zD,Zb af,zD,c9,B,aN,c9,K,aN,t]
 rw[<-p.hH]at g1;rw[g1,aN]at A;have V:=p.sm g2.sm g2.wf g2.kL;have J:∀q:Nat->Nat,q k=q l->IH P.N.length ([(k,l)].map wI) id q:=fun q G=>⟨fun i j _ _ e=>by rw[show i=j from e],fun z U=>by simp[wI]at U;subst U;simpa using G⟩;cases ok with
 |false=>refine .inl ⟨h,A,V,fun q G O=>g2.no rfl q G (J q O)⟩|true=>
  have⟨C,F,d,D,u,k2,k3,k4,k5,k6⟩:=g2.yes rfl;have hl:=g2.sm.len;have I:xI h.length ws (core h).D9:=Et<|co.DB g2.sm;have s:TC ws h.length (core h).D9 [] C F:=by rw[g2.sm.core,hl];exact k3
  have j7:D+L4 C<=1+T:=by simp at k2;omega
  simp[Zr,zD]at A;rw[u.vY (Kp.refl _) af af,aN]at A;refine .inr ⟨h,C,F,d,D,A,V,g2.sm,u,j7,s,?_⟩;have M:=g2.sm.core;rw[M]at I s;exact⟨u.qg I s,u.wB I (fun c M a B=>((co.K5 c M).L2 a B).1) s,u.S1 I s,u.mL I (fun w t=>(Q.ok w t).1) s,k5 (k,l) aZ,fun q G O i j R S hr=>(k6 q G<|J q O).r i j (by rw[jH]at R;exact R) (by rw[jH]at S;exact S) hr⟩
end
variable{N:X PN}{o:X PN}{i:Nat}
def sf(e:Ex N.length N o)(d:i<N.length):nd (core o) (i:Int)=nd (core N) (i:Int):=by have⟨x,g⟩:=eU d;have⟨l,h,j,k⟩:=e.st i x d g;rw[HT g,HT h,cN,cN,j,k]
variable{v:Int}{w:Int}{p:X Int}
def TU(c:CO N)(e:Ex N.length N o)(h:Wk (core N) v p w):gD (core N) v->Wk (core o) v p w:=by induction h with|nil v=>intro _;exact .nil v| @cons v w a p g q l=>intro d;have j:=(c.K5 _ (vN d).2).L2 a g;have k:=d.2;rw[jH]at k;have:=sf e (i:=v.toNat) (by have:=d.1;omega);rw[show((v.toNat:Nat):Int)=v by have:=d.1;omega]at this;exact .cons (by rw[this];exact g) (l ⟨j.2.1,j.2.2⟩)
def IU(c:CO N)(e:Ex N.length N o)(h:Wk (core o) v p w):gD (core N) v->Wk (core N) v p w:=by induction h with|nil v=>intro _;exact .nil v| @cons v w a p g q l=>intro d;have k:=d.2;rw[jH]at k;have:=sf e (i:=v.toNat) (by have:=d.1;omega);rw[show((v.toNat:Nat):Int)=v by have:=d.1;omega]at this;rw[this]at g;have j:=(c.K5 _ (vN d).2).L2 a g;exact .cons g (l ⟨j.2.1,j.2.2⟩)
section
variable{ws:X Nat}{g:Int}{d:X PN}{Q:az}{r:Nat}{f:X PN}{c k:Nat}{out:X Nat}{Z:Nat->Nat}
def uo.to(h:uo ws g d Q r f c k out Z)(A:Wk Q v p w):∀{v0 j:Nat},v=(v0:Int)->v0∈out->(∀x∈out,∀a∈(nd Q (x:Int)).E4,∃q∈out,a.To=(q:Int))->w=(j:Int)->Wk (core f) (Z v0:Int) p (Z j:Int):=by induction A with|nil v=>intro v0 j l _ _ s;rw[show j=v0 by omega];exact .nil _| @cons v w a p t A C=>intro v0 j l z B s;subst l;have⟨q,u,e⟩:=B v0 z a t;have hm:(⟨a.E2,(Z q:Int)⟩:aI)∈(nd (core f) (Z v0:Int)).E4:=((h.oY v0 z).2 _).2 ⟨a,t,q,e,u,rfl⟩;exact Wk.cons (a:=⟨a.E2,(Z q:Int)⟩) hm (C e u B s)
def uo.from(h:uo ws g d Q r f c k out Z)(t:Wk (core f) v p w):∀{v0:Nat},v=(Z v0:Int)->v0∈out->∃j∈out,w=(Z j:Int)/\Wk Q (v0:Int) p (j:Int):=by induction t with|nil v=>intro v0 l s;exact⟨v0,s,l,.nil _⟩| @cons v w a p C t G=>intro v0 l s;subst l;have⟨b,D,q,e,E,u⟩:=((h.oY v0 s).2 a).1 C;subst u;have⟨j,z,A,B⟩:=G rfl E;exact⟨j,z,A,Wk.cons (a:=b) D (by rw[e];exact B)⟩
end
section
variable{ws:X Nat}{N:X PN}{d f:Nat}{F:Nat->Nat}{Q:az}
def RR(N:X PN)(d f i:Nat):Prop:=Rc (core N) (d:Int) (i:Int)\/Rc (core N) (f:Int) (i:Int)
def RR.L2(h:RR N d f i){x:PN}(j:N[i]? = some x){a:aI}(g:a∈(cN x).E4)(k:0<=a.To):RR N d f a.To.toNat:=by
 have e:((a.To.toNat:Nat):Int)=a.To:=by omega
 rw[<-HT j]at g;obtain h |h:=h;left;rw[e];exact h.snoc g;right;rw[e];exact h.snoc g
def GS.cls(U:GS ws (core N).D9 d f F Q)(c:CO N){j:Nat}(k:i<N.length)(q:j<N.length)(h:F i=F j)(I:RR N d f i):RR N d f j:=by
 classical
 have C:oV (core N).D9 (fun i=>if RR N d f i then N.length else i):=fun i j x y a b k q e t u B=>by obtain⟨G,z,rfl⟩:=Ms k;obtain⟨H,l,rfl⟩:=Ms q;have D:=pS z;have E:=pS l;have a0:=((c.K5 _<|zX k).L2 a t).2.1;have A:=((c.K5 _<|zX q).L2 b u).2.1;by_cases s:RR N d f i;by_cases g:RR N d f j;show(if _ then _ else _)=if _ then _ else _;rw[lr<|s.L2 z t a0,lr<|g.L2 l u A];have e:(if RR N d f i then N.length else i)=if RR N d f j then N.length else j:=e;rw[lr s,hF g]at e;omega;by_cases g:RR N d f j;have e:(if RR N d f i then N.length else i)=if RR N d f j then N.length else j:=e;rw[hF s,lr g]at e;omega;have e:(if RR N d f i then N.length else i)=if RR N d f j then N.length else j:=e;rw[hF s,hF g]at e;subst e;rw[z]at l;cases l;have:=(c.K5 _<|zX k).X3.eq a t b u B;rw[this]
 have:=U.low _ C (by show(if _ then _ else _)=if _ then _ else _;rw[lr (show RR N d f d from Or.inl (Rc.refl _ _)),lr<|show RR N d f f from Or.inr (Rc.refl _ _)]) i j (by rw[jH];exact k) (by rw[jH];exact q) h;have this:(if RR N d f i then N.length else i)=if RR N d f j then N.length else j:=this;rw[lr I]at this;by_cases g:RR N d f j;exact g;rw[hF g]at this;omega
def GS.back(U:GS ws (core N).D9 d f F Q)(c:CO N)(l:Wk Q v p w):(∃j,j<N.length/\v=(F j:Int)/\RR N d f j)->∃j,j<N.length/\w=(F j:Int)/\RR N d f j:=by
 induction l with
 |nil v=>exact id| @cons v w a p k l z=>
  rintro⟨j,t,rfl,E⟩;have B:=jH N;have rt:=U.qg.rt j af;have u:∃x,Q.D9[F j]? = some x:=eU (by rw[U.qg.len];exact rt.1);have⟨x,q⟩:=u;have e:nd Q (F j:Int)=x:=by simp[nd,q]
  rw[e]at k;have⟨C,y,a0,q1,q2,q3,q4,q5⟩:=U.qg.snd _ x a q rt.2 k;obtain⟨D,h,rfl⟩:=Ms q1;have g:=pS h;have s:=(c.K5 _<|zX q1).L2 a0 q3;have A:=U.cls c t g q2.symm E;exact z ⟨a0.To.toNat,by omega,q5,A.L2 h q3 s.2.1⟩
end
def Eb:X (X Int)->Nat->X (Nat×Int)
 |[],_=>[]|l::M,s=>l.map (fun x=>(s,x))++Eb M (s+1)
def z4i:∀(M:X (X Int))(s:Nat),(Eb M s).length=(M.map List.length).sum
 |[],_=>rfl|l::M,s=>by simp[Eb,z4i M]
def qvv:∀{M:X (X Int)}{s:Nat}{x:Nat×Int},x∈Eb M s->∃j l,M[j]? = some l/\x.1=s+j/\x.2∈l
 |[],_,_,h=>by cases h
 |l::M,s,x,h=>by obtain h |h:=yD.1 h;obtain⟨y,g,rfl⟩:=mem_map.1 h;exact⟨0,l,rfl,rfl,g⟩;have⟨j,k,d,q,e⟩:=qvv h;exact⟨j+1,k,by simpa using d,by omega,e⟩
def zax:∀{M:X (X Int)}{s:Nat},(∀l∈M,l.Nodup)->(Eb M s).Nodup
 |[],_,_=>Bc|l::M,s,h=>by rw[Eb,fF];refine⟨?_,zax fun q t=>h q (by simp[t]),fun a g b k e=>?_⟩;have:=h l aZ;unfold Nodup at*;rw[fo];exact this.imp fun q e=>q (Prod.mk.inj e).2;obtain⟨x,_,rfl⟩:=mem_map.1 g;have⟨j,_,_,d,_⟩:=qvv k;rw[<-e]at d;have d:s=s+1+j:=d;omega
def z5z(N:X PN)(k:Nat):qE N=qE (N.take k)+qE (N.drop k):=by rw[qE,qE,qE,<-sum_append,<-y_,l7]
def z9b(N:X PN)(s:Nat):qE N=(Eb (N.map fun x=>x.E3.map eN.f) s).length:=by rw[z4i,qE,eF];congr 1;exact X2 fun x _=>aZ
structure MN(ws:X Nat)(L:X aK)(ra rb:Nat)(res:V az):Prop where
 no:res=none->ud ws L ra rb
 yes:∀f,res=some f->∃F Q,GS ws L ra rb F Q/\f=cU Q ((F ra:Nat):Int)
section
variable{H:cR}{ws:X Nat}{P:PP}{fs:X az}{v10:X (X Int)}{E:X Kq}{T:Nat}
def z99(B:mQ H ws)(p:xR H ws P fs v10 E T)(u:2*(1+T)<=1000000)(s:P.gen<=1000000){n:Nat}(G:3000000<=n){a b k q:Nat}(z:P.roots[a]? = some k)(A:P.roots[b]? = some q):
  ∃h g,yY n P (a:Int) (b:Int)=some (h.isSome,g)/\MN ws (core P.N).D9 k q h/\xR H ws g fs v10 E T/\g.gen=P.gen+1/\g.N.length=P.N.length/\g.roots=P.roots/\core g.N=core P.N:=by obtain⟨l,g1,g2,j⟩|⟨l,C,F,d,D,g1,g2,j,I,J,K,t⟩:=z3c B p u s G z A;have w:=Ur g1 p.wf;exact⟨none,_,by rw[yY,g1];rfl,⟨fun _=>j,nofun⟩,g2,rfl,w.1.len,rfl,w.1.core⟩;exact⟨some<|cU (qG C F l.length) (F k:Int),_,by rw[yY,g1];rfl,⟨nofun,fun f e=>⟨F,_,t,by cases e;rfl⟩⟩,g2,rfl,j.len,rfl,j.core⟩
def z67(hh:mQ H ws)(p:xR H ws P fs v10 E T)(hT:2*(1+T)<=1000000)(GK:P.gen<=1000000)(hN:2*P.N.length<=1000000)(hR:P.roots.length<=1000000){n:Nat}(hn:3000000<=n){a b O rb:Nat}(ha:P.roots[a]? = some O)(hb:P.roots[b]? = some rb):
  ∃S P',vP n P (a:Int) (b:Int)=some (((if S.isSome then(P.roots.length:Int)else 0),S.isSome),P')/\MN ws (core P.N).D9 O rb S/\xR H ws P' (fs++S.toList) v10 E (T+E.length)/\P'.gen=P.gen+1/\P.N.length<=P'.N.length/\(S=none->P'.N.length=P.N.length)/\(∀f,S=some f->P'.N.length<=P.N.length+f.D9.length):=by
 obtain⟨Nu,g1,g2,g3⟩|⟨Nu,C,F,d,D,g1,g2,g3,g4,g5,g6,U⟩:=z3c hh p hT GK hn ha hb;have w:=Ur g1 p.wf;have hl:Nu.length=P.N.length:=w.1.len;refine⟨none,_,by rw[vP,g1];rfl,⟨fun _=>g3,nofun⟩,?_,rfl,pe hl.symm,fun _=>hl,nofun⟩;simp[qce,Px];exact⟨g2.has,g2.hH,g2.wf,g2.gen,g2.aY,g2.kr,g2.ft,g2.size,g2.rt,g2.shr,g2.p7,g2.L2,Zt g2.L4<|il _ _⟩;have I3:=p.rt O<|zX ha;have Gn:=p.rt rb<|zX hb;have hl:=g3.len;have hc:=g3.core;have hg:=p.gen;have co:CO Nu:=g2.has.co;have fN:P.size=(P.N.length:Int):=p.size;obtain⟨c,t,k,out,Z,k1,K⟩:=ln (n:=n) g4 co g6 ⟨by omega,by omega⟩ af af g2.kr g2.ft af (s:=P.size) af af (r:=F O) (g4.b9.lt _ af)<|g4.b9.idem _ af;have Rf:=p.has.co;have tU:Ex Nu.length Nu t:=K.ex;have hL:∀(j:Nat)(c:aK)(a:aI),(core P.N).D9[j]? = some c->a∈c.E4->0<=a.To/\a.To<((core P.N).D9.length:Int):=fun j c a hj ha=>((Rf.K5 _<|zX hj).L2 a ha).2
 have ND:∀{v:Nat}{q:X Int}{w:Int},v<P.N.length->Wk (core P.N) v q w->Wk (core t) v q w:=fun{v q w} M h=>TU co tU (by rw[hc];exact h) ⟨by omega,by rw[jH];omega⟩;have HE:∀{v:Nat}{q:X Int}{w:Int},v<P.N.length->Wk (core t) v q w->Wk (core P.N) v q w:=fun{v q w} M h=>by rw[<-hc];exact IU co tU h ⟨by omega,by rw[jH];omega⟩
 have Li:∀{v x:Nat}{q:X Int},v<P.N.length->Wk (core P.N) v q x->x<P.N.length:=fun{v x q} M h=>by have:=(h.U0 Rf.K5 ⟨by omega,by rw[jH];omega⟩).2;rw[jH]at this;omega
 have qn:∀i,i<P.N.length->F (F i)=F i:=fun i hi=>(U.qg.rt i (by rw[jH];exact hi)).2;have yL:=U.eq;have org:∀x∈out,F x=x/\x<P.N.length/\∃j,j<P.N.length/\F j=x/\RR P.N O rb j:=fun x u=>by
  have⟨q,V⟩:=K.D8 x u;have⟨j,A,B,Q⟩:=U.back Rf V ⟨O,I3,rfl,.inl<|Rc.refl _ _⟩;have B:x=F j:=by omega
  have:=(K.lt x u).1;exact⟨by rw[B];exact qn j A,by omega,j,A,B.symm,Q⟩
 have N_:∀{v:Nat}{q:X Int}{j x:Nat},(v=O\/v=rb)->Wk (core P.N) v q j->F j=x->x∈out->Wk (core t) c q (Z x:Int):=fun{v q j x} M hw hj u=>by have A:=U.qg.wk hL (v:=(v:Int)) (w:=(j:Int)) hw (by rw[jH];obtain rfl |rfl:=M<;>omega);simp[zZ,hj]at A;have B:F v=F O:=M.elim (fun h=>by rw[h]) (fun h=>by rw[h];exact yL.symm);rw[B]at A;have:=K.to A rfl K.rt.2 K.cl rfl;rw[<-K.rt.1]at this;exact this
 have J:∀{v:Nat},(v=O\/v=rb)->v∈P.roots/\v<P.N.length:=fun{v} M=>by obtain rfl |rfl:=M;exact⟨zX ha,I3⟩;exact⟨zX hb,Gn⟩
 have rr:∀{j:Nat},RR P.N O rb j->∃v,(v=O\/v=rb)/\Rc (core P.N) (v:Int) (j:Int):=fun{j} h=>by obtain h |h:=h;exact⟨O,.inl rfl,h⟩;exact⟨rb,.inr rfl,h⟩
 have frc:∀x:Nat,Rc (core t) (c:Int) (x:Int)->∃y∈out,x=Z y:=fun x ⟨q,V⟩=>by have⟨w0,A,B,_⟩:=K.from V (v0:=F O) (by rw[K.rt.1]) K.rt.2;exact⟨w0,A,by omega⟩
 have cN3:c<t.length:=by rw[K.rt.1];exact(K.lt _ K.rt.2).2
 have hspn:∀x:Nat,Rc (core t) (c:Int) (x:Int)->∃p∈v10,Wk (core t) (c:Int) p (x:Int):=fun x u=>by obtain⟨y,G,rfl⟩:=frc x u;have⟨_,_,j,A,B,Q⟩:=org y G;have⟨v,M,zq⟩:=rr Q;have⟨z,hz,hw⟩:=p.p7 v (J M).1 j zq;exact⟨z,hz,N_ M hw B G⟩
 have jn:∀x:Nat,Rc (core t) (c:Int) (x:Int)->∀y∈(nd (core t) (x:Int)).E4,∃e∈E,Wk (core t) (c:Int) e.1 (x:Int)/\y.E2=e.2:=fun x u y G=>by
  obtain⟨x0,qY,rfl⟩:=frc x u;have⟨h0,h0',j,A,B,Q⟩:=org x0 qY;obtain⟨b,hb,q,e1,V,rfl⟩:=((K.oY x0 qY).2 y).1 G;obtain⟨z,hz⟩:∃z,(qG C F Nu.length).D9[x0]? = some z:=eU (by rw[U.qg.len,jH];exact h0');have e2:nd (qG C F Nu.length) (x0:Int)=z:=by simp[nd,hz]
  rw[e2]at hb;have⟨j2,y2,a0,q1,q2,q3,q4,q5⟩:=U.qg.snd _ z b hz h0 hb;obtain⟨y0,OQ,rfl⟩:=Ms q1;have r2:=U.cls Rf A (pS OQ) (by rw[B,q2]) Q;have⟨v,M,zq⟩:=rr r2;have⟨e,he,hw,Y⟩:=p.L2 v (J M).1 j2 zq a0 (by rw[HT OQ];exact q3);exact⟨e,he,N_ M hw q2 qY,by show b.E2=_;rw[q4,Y]⟩
 have wa:∀b'∈P.roots,∀x:Nat,Rc (core t) (c:Int) (x:Int)->Rc (core t) (b':Int) (x:Int)->∃p,Wk (core t) (c:Int) p (x:Int)/\Wk (core t) (b':Int) p (x:Int):=fun b' cZ x u ⟨q,V⟩=>by
  have CC:=p.rt b' cZ;have V:=HE CC V;have I0:=Li CC V;have⟨y,G,e⟩:=frc x u;have rW:=K.low y G af;have⟨h0,h0',j,A,B,Q⟩:=org y G;have r2:=U.cls Rf A h0' (by rw[B,h0]) Q;have⟨v,M,zq⟩:=rr r2;have exy:x=y:=by omega
  subst exy;have⟨q2,w1,w2⟩:=p.shr v (J M).1 b' cZ x zq ⟨q,V⟩;have:=N_ M w1 h0 G;rw[rW]at this;exact⟨q2,this,ND CC w2⟩
 have SO:cU (core t) (c:Int)=cU (qG C F Nu.length) (F O:Int):=K.can;have DN:out.length<=(cU (qG C F Nu.length) (F O:Int)).D9.length:=by have:=K.ord;simp[cU,yA];exact this
 have hk:=K.k;have hlen3:=K.len;refine⟨some<|cU (qG C F Nu.length) (F O:Int),⟨P.H,t,P.roots++[c],P.size+(k:Int),P.gen+1⟩,?_,⟨nofun,fun f e=>⟨F,_,U,by cases e;rfl⟩⟩,?_,rfl,by show P.N.length<=t.length;omega,nofun,fun f e=>by cases e;show t.length<=_;omega⟩;rw[vP,g1,aN];simp only;rw[k1,aN,aE,lr hR];rfl;have Hs:Ex P.N.length P.N t:=⟨by omega,fun i x hi u=>by have⟨x',A,B,Q⟩:=g3.st i x u;have⟨x2,h4,h5,h6⟩:=tU.st i x' af A;exact⟨x2,h4,h5.trans B,h6.trans Q⟩⟩;refine⟨⟨K.co,by simp[p.has.len],fun i f Y=>?_⟩,p.hH,K.wf,by show 1<=P.gen+1;omega,K.aY,K.kr,K.ft,by show P.size+(k:Int)=(t.length:Int);omega,fun r hr=>?_,?_,?_,?_,?_⟩;by_cases hi:i<fs.length;rw[mc hi]at Y;have⟨r,A,B,Q⟩:=p.has.at_ i f Y;exact⟨r,by show(P.roots++[c])[i]? = _;rw[mc (by rw[p.has.len];exact hi)];exact A,by show r<t.length;omega,by rw[<-Q];exact qsx Rf K.co Hs B⟩;have Qu:=(zG.1 Y).1;simp at Qu;have:i=fs.length:=by omega
 subst this;simp at Y;subst Y;exact⟨c,by show(P.roots++[c])[_]? = _;rw[<-p.has.len];simp,cN3,SO⟩;show r<t.length;obtain hr |hr:=yD.1 hr;have:=p.rt r hr;omega;simp at hr;subst hr;exact cN3;intro a' nP b' cZ x u G;have nP:a'∈P.roots++[c]:=nP;have cZ:b'∈P.roots++[c]:=cZ;obtain g |g:=yD.1 nP<;>obtain I |I:=yD.1 cZ;have⟨q1,I4⟩:=u;have⟨q2,tM⟩:=G;have⟨q,w1,w2⟩:=p.shr a' g b' I x ⟨q1,HE (p.rt _ g) I4⟩ ⟨q2,HE (p.rt _ I) tM⟩;exact⟨q,ND (p.rt _ g) w1,ND (p.rt _ I) w2⟩;simp at I;subst I;have⟨q,w1,w2⟩:=wa a' g x G u;exact⟨q,w2,w1⟩;simp at g;subst g;exact wa b' I x u G;simp at g I;subst g;subst I;have⟨q,V⟩:=u;exact⟨q,V,V⟩;intro a' nP x u;have nP:a'∈P.roots++[c]:=nP;obtain g |g:=yD.1 nP;have⟨q1,I4⟩:=u;have⟨z,hz,w⟩:=p.p7 a' g x ⟨q1,HE (p.rt _ g) I4⟩;exact⟨z,hz,ND (p.rt _ g) w⟩;simp at g;subst g;exact hspn x u;intro a' nP x u y G;have nP:a'∈P.roots++[c]:=nP;obtain g |g:=yD.1 nP;have⟨q1,I4⟩:=u;have I4:=HE (p.rt _ g) I4;have G:y∈(nd (core t) (x:Int)).E4:=G;rw[sf Hs<|Li (p.rt _ g) I4]at G;have⟨e,he,w,Y⟩:=p.L2 a' g x ⟨q1,I4⟩ y G;exact⟨e,he,ND (p.rt _ g) w,Y⟩;simp at g;subst g;exact jn x u y G;show qE t<=T+E.length;have A:qE (t.take P.N.length)=qE P.N:=by
  have:(t.take P.N.length).map (fun x=>x.E3.length)=P.N.map fun x=>x.E3.length:=by apply od;intro i;rw[me,me,jz];by_cases hi:i<P.N.length;have⟨x,u⟩:=eU hi;have⟨x',A,B,Q⟩:=Hs.st i x hi u;rw[lr hi,u,A];simp[zM,Q];rw[hF hi,YQ af]
  rw[qE,this];rfl
 have B:qE (t.drop P.N.length)<=E.length:=by
  rw[z9b _ P.N.length];have X4:∀(j:Nat)(x:PN),(t.drop P.N.length)[j]? = some x->t[P.N.length+j]? = some x:=fun j x h=>by rw[pc]at h;exact h
  refine Pw (R:=fun(e:Kq) (z:Nat×Int)=>Wk (core t) (c:Int) e.1 (z.1:Int)/\z.2=e.2) (fun e x y A B=>?_) E _ (zax fun l hl=>?_) fun z hz=>?_;have:=Wk.C_ K.co.K5 A.1 ⟨by omega,by rw[jH];omega⟩ B.1;exact Prod.ext af<|A.2.trans B.2.symm;obtain⟨x,u,rfl⟩:=mem_map.1 hl;have⟨j,hj⟩:=Zc u;have:=K.co.DA x<|zX<|X4 j x hj;unfold Nodup;rw[fo];exact this.imp fun{a b} h e=>by omega
  have⟨j,l,q1,q2,q3⟩:=qvv hz;rw[me]at q1;rcases u:(t.drop P.N.length)[j]? with _|x;rw[u]at q1;cases q1;rw[u]at q1;cases q1;have hx3:=X4 j x u;have⟨a,ha,e⟩:=mem_map.1 q3;obtain⟨y,G,hy2⟩:=K.new (P.N.length+j) af<|pS hx3;have⟨_,_,i,i1,i2,i3⟩:=org y G;have⟨v,M,⟨q,hvq⟩⟩:=rr i3;have hw:=N_ M hvq i2 G;rw[hy2]at hw;have⟨e',C9,w,Y⟩:=jn (P.N.length+j) ⟨q,hw⟩ (gA a) (by rw[HT hx3];exact X1 ha);exact⟨e',C9,by rw[q2];exact w,by rw[<-Y,<-e];rfl⟩
 have Q:=z5z t P.N.length;have h4:=p.L4;omega
end
def xR.new{H:cR}{ws:X Nat}:xR H ws (wH H) [] [] [] 0:=by refine⟨Has.new H,rfl,nofun,pn _,nofun,nofun,nofun,rfl,nofun,nofun,nofun,nofun,zF _⟩
def qyj(f:az){K:Nat}(k:∀x∈f.D9,x.E4.length<=K):∀m,m<=f.D9.length->∃(v10:X (X Int))(E:X Kq),v10.length<=m/\E.length<=K*m/\∀i:Nat,i<m->Rc f 0 (i:Int)->(∃z∈v10,Wk f 0 z (i:Int))/\∀y∈(nd f (i:Int)).E4,∃e∈E,Wk f 0 e.1 (i:Int)/\y.E2=e.2
 |0,_=>⟨[],[],zF _,qq _,fun i d=>af⟩|m+1,hm=>by
  have⟨v10,E,I,J,j⟩:=qyj f k m af;by_cases M:Rc f 0 (m:Int);have⟨z,s⟩:=M;have⟨x,q⟩:=eU (l:=f.D9) (i:=m) af;have e:nd f (m:Int)=x:=by simp[nd,q]
  have H:=k x<|zX q;refine⟨z::v10,x.E4.map (fun a=>(z,a.E2))++E,by simp;omega,by simp[mul_succ];omega,fun i d h=>?_⟩;obtain d |rfl:=Nat.lt_succ_iff_lt_or_eq.1 d;have⟨⟨G,B,C⟩,D⟩:=j i d h;exact⟨⟨G,by simp[B],C⟩,fun y g=>by have⟨t,u,A⟩:=D y g;exact⟨t,mr _ u,A⟩⟩;exact⟨⟨z,by simp,s⟩,fun y g=>by rw[e]at g;exact⟨(z,y.E2),mw _<|mem_map.2 ⟨y,g,rfl⟩,s,rfl⟩⟩;refine⟨v10,E,by omega,by rw[mul_succ];omega,fun i d h=>?_⟩;obtain d |rfl:=Nat.lt_succ_iff_lt_or_eq.1 d;exact j i d h;exact absurd h M
section
variable{N:X PN}{f:az}
def Qx(h:jP f){i:Nat}(j:i<f.D9.length):nd (core<|N++f.D9.map (oA N.length)) ((N.length+i:Nat):Int)=⟨(nd f (i:Int)).R,(nd f (i:Int)).E4.map (mB N.length)⟩:=by
 have⟨x,d⟩:=eU j;have e:(N++f.D9.map (oA N.length))[N.length+i]? = some (oA N.length x):=by rw[mu af,qi,me,d];rfl
 rw[HT e,cN,tx fun a g=>((h x<|zX d).L2 a g).2.1];simp[nd,d,oA,iD]
def ZA(k:jP f){v w:Int}{p:X Int}(h:Wk f v p w):gD f v->Wk (core<|N++f.D9.map (oA N.length)) (v+(N.length:Int)) p (w+(N.length:Int)):=by induction h with|nil v=>intro _;exact .nil _| @cons v w a p j t l=>intro d;have g:=(k _ (vN d).2).L2 a j;have q:=d.1;have s:=d.2;have e:=Qx (N:=N) k (i:=v.toNat) af;rw[show((N.length+v.toNat:Nat):Int)=v+(N.length:Int) by omega,show((v.toNat:Nat):Int)=v by omega]at e;exact Wk.cons (a:=mB N.length a) (by rw[e];exact X1 j) (l ⟨g.2.1,g.2.2⟩)
def PM(q:jP f){v w:Int}{p:X Int}(h:Wk (core<|N++f.D9.map (oA N.length)) v p w):∀{u:Int},v=u+(N.length:Int)->gD f u->∃g,w=g+(N.length:Int)/\gD f g/\Wk f u p g:=by induction h with|nil v=>intro u e d;exact⟨u,e,d,.nil _⟩| @cons v w a p k D s=>intro u e d;subst e;have B:=d.1;have C:=d.2;have e:=Qx (N:=N) q (i:=u.toNat) af;rw[show((N.length+u.toNat:Nat):Int)=u+(N.length:Int) by omega,show((u.toNat:Nat):Int)=u by omega]at e;rw[e]at k;obtain⟨b,l,rfl⟩:=mem_map.1 k;have j:=(q _ (vN d).2).L2 b l;have⟨g,t,z,A⟩:=s (u:=b.To) rfl ⟨j.2.1,j.2.2⟩;exact⟨g,t,z,Wk.cons (a:=b) l A⟩
end
def z9a(a b:X PN):qE (a++b)=qE a+qE b:=by simp[qE]
def z60{K:Nat}:∀{M:X PN},(∀x∈M,x.E3.length<=K)->qE M<=K*M.length
 |[],_=>by simp[qE]
 |x::M,h=>by have g:=h x aZ;have d:=z60 (M:=M) fun y e=>h y (by simp[e]);simp[qE,zQ,IC,zO,Nat.mul_add,JA]at d ⊢;omega
def zd0{H:cR}{ws:X Nat}{P:PP}{fs:X az}{v10:X (X Int)}{E:X Kq}{T:Nat}(hh:mQ H ws)(p:xR H ws P fs v10 E T){f:az}(s:N9 H f)(hN:P.N.length+f.D9.length<=1000000)(hR:P.roots.length<=1000000):
  ∃D Z' Z,BO P f=some ((P.roots.length:Int),D)/\xR H ws D (fs++[f]) Z' Z (T+12*f.D9.length)/\Z'.length<=v10.length+f.D9.length/\Z.length<=E.length+12*f.D9.length/\D.gen=P.gen/\D.N.length=P.N.length+f.D9.length:=by
 have hh1:=hh.tl;have hh2:=hh.fl;have S:=s.K5;have co:=p.has.co;have hs:=s.sm;have GK:=p.gen;have fN:=p.size;have⟨D,q1,q2,q3,q4,q5⟩:=p.has.put s hN hR;have I:=z44 s.sm bF s.ne s.K5 hR;rw[I]at q1;cases q1;have co':CO (P.N++f.D9.map (oA P.N.length)):=q2.co;have Y:=zay P.N f;obtain⟨Zf,Ef,z1,z2,z3⟩:=qyj f hs.E3 f.D9.length<|zF _;have G:∀{v:Nat}{q:X Int}{w:Int},v<P.N.length->Wk (core P.N) v q w->Wk (core<|P.N++f.D9.map (oA P.N.length)) v q w:=fun{v q w} hv h=>TU co Y h ⟨by omega,by rw[jH];omega⟩;have A:∀{v:Nat}{q:X Int}{w:Int},v<P.N.length->Wk (core<|P.N++f.D9.map (oA P.N.length)) v q w->Wk (core P.N) v q w:=fun{v q w} hv h=>IU co Y h ⟨by omega,by rw[jH];omega⟩;have Q:∀{v x:Nat}{q:X Int},v<P.N.length->Wk (core P.N) v q x->x<P.N.length:=fun{v x q} hv h=>by have:=(h.U0 co.K5 ⟨by omega,by rw[jH];omega⟩).2;rw[jH]at this;omega
 have i0:gD f 0:=⟨pn _,by have:=s.ne;omega⟩;have O:∀{x:Nat}{q:X Int},Wk (core<|P.N++f.D9.map (oA P.N.length)) (P.N.length:Int) q x->∃i:Nat,x=P.N.length+i/\i<f.D9.length/\Wk f 0 q (i:Int):=fun{x q} h=>by have⟨u,h1,h2,h3⟩:=PM S h (u:=0) af i0;have a1:=h2.1;have a2:=h2.2;exact⟨u.toNat,by omega,by omega,by rw[show((u.toNat:Nat):Int)=u by omega];exact h3⟩
 have nu:∀{i:Nat}{q:X Int},Wk f 0 q (i:Int)->Wk (core<|P.N++f.D9.map (oA P.N.length)) (P.N.length:Int) q ((P.N.length+i:Nat):Int):=fun{i q} h=>by have:=ZA (N:=P.N) S h i0;rw[show(0:Int)+(P.N.length:Int)=(P.N.length:Int) by omega,show(i:Int)+(P.N.length:Int)=((P.N.length+i:Nat):Int) by omega]at this;exact this
 have mem:∀x∈P.N++f.D9.map (oA P.N.length),x∈P.N\/∃y∈f.D9,x=oA P.N.length y:=fun x g=>by obtain g |g:=yD.1 g;exact .inl g;have⟨y,l,e⟩:=mem_map.1 g;exact .inr ⟨y,l,e.symm⟩
 have zz:i64.wrap (P.size+f.D9.length)=P.size+f.D9.length:=oX af af;refine⟨_,v10++Zf,E++Ef,I,⟨q2,p.hH,(SV I p.wf p.rt).1,GK,fun x g=>?_,fun x g=>?_,fun x g=>?_,?_,(SV I p.wf p.rt).2.1,?_,?_,?_,?_⟩,by simp;omega,by simp;omega,rfl,by simp⟩;obtain g |⟨y,l,rfl⟩:=mem x g;exact p.aY x g;exact⟨by show(0:Int)<P.gen+1;omega,by show(0:Int)<P.gen+1;omega,by show(0:Int)<P.gen+1;omega,by show(0:Int)<P.gen+1;omega,by show(0:Int)<P.gen+1;omega⟩;obtain g |⟨y,l,rfl⟩:=mem x g;exact p.kr x g;have:=(s.r6 y l).1;show 0<=y.R/\y.R<(ws.length:Int);omega;obtain g |⟨y,l,rfl⟩:=mem x g;exact p.ft x g;intro a d;obtain⟨b,j,rfl⟩:=mem_map.1 (show a∈y.E4.map (qe P.N.length)from d);have:=(s.r6 y l).2.ok b j;show 0<=b.E2/\b.E2<1000;omega;show i64.wrap (P.size+f.D9.length)=_;rw[zz,zU,yA];omega;intro a d b j x g l;have d:a∈P.roots++[P.N.length]:=d;have j:b∈P.roots++[P.N.length]:=j;have⟨B,t⟩:=g;have⟨s2,C⟩:=l;obtain d |d:=yD.1 d<;>obtain j |j:=yD.1 j;have⟨q,k1,k2⟩:=p.shr a d b j x ⟨B,A (p.rt _ d) t⟩ ⟨s2,A (p.rt _ j) C⟩;exact⟨q,G (p.rt _ d) k1,G (p.rt _ j) k2⟩;simp at j;subst j;have⟨i,e,_,_⟩:=O C;have:=Q (p.rt _ d)<|A (p.rt _ d) t;omega;simp at d;subst d;have⟨i,e,_,_⟩:=O t;have:=Q (p.rt _ j)<|A (p.rt _ j) C;omega;simp at d j;subst d;subst j;exact⟨B,t,t⟩;intro a d x g;have d:a∈P.roots++[P.N.length]:=d;have⟨B,t⟩:=g;obtain d |d:=yD.1 d;have⟨z,V,k⟩:=p.p7 a d x ⟨B,A (p.rt _ d) t⟩;exact⟨z,mw _ V,G (p.rt _ d) k⟩;simp at d;subst d;obtain⟨i,rfl,J,U⟩:=O t;have⟨z,V,k⟩:=(z3 i J ⟨_,U⟩).1;exact⟨z,mr _ V,nu k⟩;intro a d x g y l;have d:a∈P.roots++[P.N.length]:=d;have⟨B,t⟩:=g;have l:y∈(nd (core<|P.N++f.D9.map (oA P.N.length)) (x:Int)).E4:=l;obtain d |d:=yD.1 d;have C:=A (p.rt _ d) t;rw[sf Y<|Q (p.rt _ d) C]at l;have⟨e,R,k,s⟩:=p.L2 a d x ⟨B,C⟩ y l;exact⟨e,mw _ R,G (p.rt _ d) k,s⟩;simp at d;subst d;obtain⟨i,rfl,J,U⟩:=O t;rw[Qx S J]at l;obtain⟨b,j,rfl⟩:=mem_map.1 l;have⟨e,R,k,s⟩:=(z3 i J ⟨_,U⟩).2 b j;exact⟨e,mr _ R,nu k,s⟩;show qE (P.N++f.D9.map (oA P.N.length))<=_;rw[z9a];have h1:=z60 (K:=12) (M:=f.D9.map<|oA P.N.length) fun x g=>by obtain⟨y,l,rfl⟩:=mem_map.1 g;simp[oA,iD,yA];exact hs.E3 y l
 rw[yA]at h1;have:=p.L4;omega
end Go.Proofs
