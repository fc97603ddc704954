import Derived.Test.YtmflfedkfdkipaaGreatP21
set_option linter.all false
set_option maxRecDepth 20000
set_option maxHeartbeats 4000000
set_option synthInstance.maxSize 4000
set_option synthInstance.maxHeartbeats 200000
open List Go.IntKind
open Nat hiding beq_eq
namespace Go.Proofs
open Go Go.Rx Go.Vx
variable{N:X PN}{o:X PN}{i:Nat}
def yx(e:Ex N.length N o)(a:i<N.length):nd (core o) (i:Int)=nd (core N) (i:Int):=by obtain⟨x,b⟩:=fJ a;obtain⟨g,c,d,f⟩:=e.st i x a b;rw[H7 b,H7 c,cN,cN,d,f]
variable{v:Int}{w:Int}{p:X Int}
def T0(c:CO N)(e:Ex N.length N o)(h:Wk (core N) v p w):fU (core N) v->Wk (core o) v p w:=by induction h with|nil v=>intro _;exact .nil v| @cons v w a p d k j=>intro b;have f:=(c.M6 _ (xZ b).2).O9 a d;have g:=b.2;rw[jI]at g;have:=yx e (i:=v.toNat) (by have:=b.1;omega);rw[show((v.toNat:Nat):Int)=v by have:=b.1;omega]at this;exact .cons (by rw[this];exact d) (j ⟨f.2.1,f.2.2⟩)
def I7(c:CO N)(e:Ex N.length N o)(h:Wk (core o) v p w):fU (core N) v->Wk (core N) v p w:=by induction h with|nil v=>intro _;exact .nil v| @cons v w a p d k j=>intro b;have g:=b.2;rw[jI]at g;have:=yx e (i:=v.toNat) (by have:=b.1;omega);rw[show((v.toNat:Nat):Int)=v by have:=b.1;omega]at this;rw[this]at d;have f:=(c.M6 _ (xZ b).2).O9 a d;exact .cons d (j ⟨f.2.1,f.2.2⟩)
section
variable{ws:X Nat}{g:Int}{d:X PN}{Q:cb}{r:Nat}{f:X PN}{c k:Nat}{out:X Nat}{V:Nat->Nat}
def yl.to(h:yl ws g d Q r f c k out V)(u:Wk Q v p w):∀{v0 b:Nat},v=(v0:Int)->v0∈out->(∀x∈out,∀a∈(nd Q (x:Int)).E2,∃q∈out,a.To=(q:Int))->w=(b:Int)->Wk (core f) (V v0:Int) p (V b:Int):=by induction u with|nil v=>intro v0 b j _ _ l;rw[show b=v0 by omega];exact .nil _| @cons v w a p n u y=>intro v0 b j t m l;subst j;obtain⟨q,s,e⟩:=m v0 t a n;have hm:(⟨a.D9,(V q:Int)⟩:aL)∈(nd (core f) (V v0:Int)).E2:=((h.oF v0 t).2 _).2 ⟨a,n,q,e,s,rfl⟩;exact Wk.cons (a:=⟨a.D9,(V q:Int)⟩) hm (y e s m l)
def yl.from(h:yl ws g d Q r f c k out V)(n:Wk (core f) v p w):∀{v0:Nat},v=(V v0:Int)->v0∈out->∃j∈out,w=(V j:Int)/\Wk Q (v0:Int) p (j:Int):=by induction n with|nil v=>intro v0 l m;exact⟨v0,m,l,.nil _⟩| @cons v w a p y n B=>intro v0 l m;subst l;obtain⟨b,z,q,e,A,s⟩:=((h.oF v0 m).2 a).1 y;subst s;obtain⟨j,t,u,x⟩:=B rfl A;exact⟨j,t,u,Wk.cons (a:=b) z (by rw[e];exact x)⟩
end
section
variable{ws:X Nat}{N:X PN}{d f:Nat}{g:Nat->Nat}{Q:cb}
def RR(N:X PN)(d f i:Nat):Prop:=Rc (core N) (d:Int) (i:Int)\/Rc (core N) (f:Int) (i:Int)
def RR.O9(h:RR N d f i){x:PN}(c:N[i]? = some x){a:aL}(b:a∈(cN x).E2)(j:0<=a.To):RR N d f a.To.toNat:=by
 have e:((a.To.toNat:Nat):Int)=a.To:=by omega
 rw[<-H7 c]at b;obtain h |h:=h;left;rw[e];exact h.snoc b;right;rw[e];exact h.snoc b
def GA.cls(U:GA ws (core N).D6 d f g Q)(c:CO N){j:Nat}(l:i<N.length)(n:j<N.length)(h:g i=g j)(B:RR N d f i):RR N d f j:=by
 classical
 have A:u7 (core N).D6 (fun i=>if RR N d f i then N.length else i):=fun i j x y a b l n e r s z=>by obtain⟨E,t,rfl⟩:=Ly l;obtain⟨F,m,rfl⟩:=Ly n;have C:=oT t;have D:=oT m;have a0:=((c.M6 _<|zX l).O9 a r).2.1;have u:=((c.M6 _<|zX n).O9 b s).2.1;by_cases q:RR N d f i;by_cases k:RR N d f j;show(if _ then _ else _)=if _ then _ else _;rw[kh<|q.O9 t r a0,kh<|k.O9 m s u];have e:(if RR N d f i then N.length else i)=if RR N d f j then N.length else j:=e;rw[kh q,iy k]at e;omega;by_cases k:RR N d f j;have e:(if RR N d f i then N.length else i)=if RR N d f j then N.length else j:=e;rw[iy q,kh k]at e;omega;have e:(if RR N d f i then N.length else i)=if RR N d f j then N.length else j:=e;rw[iy q,iy k]at e;subst e;rw[t]at m;cases m;have:=(c.M6 _<|zX l).aR.eq a r b s z;rw[this]
 have:=U.low _ A (by show(if _ then _ else _)=if _ then _ else _;rw[kh (show RR N d f d from Or.inl (Rc.refl _ _)),kh<|show RR N d f f from Or.inr (Rc.refl _ _)]) i j (by rw[jI];exact l) (by rw[jI];exact n) h;have this:(if RR N d f i then N.length else i)=if RR N d f j then N.length else j:=this;rw[kh B]at this;by_cases k:RR N d f j;exact k;rw[iy k]at this;omega
def GA.back(U:GA ws (core N).D6 d f g Q)(c:CO N)(l:Wk Q v p w):(∃j,j<N.length/\v=(g j:Int)/\RR N d f j)->∃j,j<N.length/\w=(g j:Int)/\RR N d f j:=by
 induction l with
 |nil v=>exact id| @cons v w a p k l t=>
  rintro⟨j,q,rfl,s⟩;have z:=jI N;have rt:=U.qg.rt j ag;have r:∃x,Q.D6[g j]? = some x:=fJ (by rw[U.qg.len];exact rt.1);obtain⟨x,m⟩:=r;have e:nd Q (g j:Int)=x:=by simp[nd,m]
  rw[e]at k;obtain⟨A,y,a0,q1,q2,q3,q4,q5⟩:=U.qg.snd _ x a m rt.2 k;obtain⟨B,h,rfl⟩:=Ly q1;have b:=oT h;have n:=(c.M6 _<|zX q1).O9 a0 q3;have u:=U.cls c q b q2.symm s;exact t ⟨a0.To.toNat,by omega,q5,u.O9 h q3 n.2.1⟩
end
def Da:X (X Int)->Nat->X (Nat×Int)
 |[],_=>[]|l::M,s=>l.map (fun x=>(s,x))++Da M (s+1)
def z2l:∀(M:X (X Int))(s:Nat),(Da M s).length=(M.map List.length).sum
 |[],_=>rfl|l::M,s=>by simp[Da,z2l M]
def quj:∀{M:X (X Int)}{s:Nat}{x:Nat×Int},x∈Da M s->∃j l,M[j]? = some l/\x.1=s+j/\x.2∈l
 |[],_,_,h=>by cases h
 |l::M,s,x,h=>by obtain h |h:=yD.1 h;obtain⟨y,c,rfl⟩:=mem_map.1 h;exact⟨0,l,rfl,rfl,c⟩;obtain⟨j,d,a,e,b⟩:=quj h;exact⟨j+1,d,by simpa using a,by omega,b⟩
def z8w:∀{M:X (X Int)}{s:Nat},(∀l∈M,l.Nodup)->(Da M s).Nodup
 |[],_,_=>Ab|l::M,s,h=>by rw[Da,f_];refine⟨?_,z8w fun q g=>h q (by simp[g]),fun a d b f e=>?_⟩;have:=h l ca;unfold Nodup at*;rw[XN];exact this.imp fun q e=>q (Prod.mk.inj e).2;obtain⟨x,_,rfl⟩:=mem_map.1 d;obtain⟨j,_,_,c,_⟩:=quj f;rw[<-e]at c;have c:s=s+1+j:=c;omega
def z3u(N:X PN)(k:Nat):pB N=pB (N.take k)+pB (N.drop k):=by rw[pB,pB,pB,<-sum_append,<-LY,Ww]
def z7e(N:X PN)(s:Nat):pB N=(Da (N.map fun x=>x.D8.map dZ.f) s).length:=by rw[z2l,pB,dT];congr 1;exact Wu fun x _=>ca
structure SL(ws:X Nat)(L:X aU)(ra rb:Nat)(res:A cb):Prop where
 no:res=none->ye ws L ra rb
 yes:∀f,res=some f->∃aA Q,GA ws L ra rb aA Q/\f=bX Q ((aA ra:Nat):Int)
section
variable{H:dK}{ws:X Nat}{P:PP}{g:X cb}{m:X (X Int)}{E:X Jn}{T:Nat}
def z41(hh:oE H ws)(p:AV H ws P g m E T)(hT:2*(1+T)<=1000000)(R8:P.gen<=1000000)(hN:2*P.N.length<=1000000)(hR:P.roots.length<=1000000){n:Nat}(hn:3000000<=n){a b O rb:Nat}(ha:P.roots[a]? = some O)(hb:P.roots[b]? = some rb):
  ∃S P',DK n P (a:Int) (b:Int)=some (((if S.isSome then(P.roots.length:Int)else 0),S.isSome),P')/\SL ws (core P.N).D6 O rb S/\AV H ws P' (g++S.toList) m E (T+E.length)/\P'.gen=P.gen+1/\P.N.length<=P'.N.length/\(S=none->P'.N.length=P.N.length)/\(∀f,S=some f->P'.N.length<=P.N.length+f.D6.length):=by
 obtain⟨Nu,g1,g2,g3⟩|⟨Nu,C,I,d,D,g1,g2,g3,g4,g5,g6,U⟩:=zai hh p hT R8 hn ha hb;have w:=sg g1 p.wf;have hl:Nu.length=P.N.length:=w.1.len;refine⟨none,_,by rw[DK,g1];rfl,⟨fun _=>g3,nofun⟩,?_,rfl,la hl.symm,fun _=>hl,nofun⟩;simp only[Option.toList_none,il];exact⟨g2.has,g2.hH,g2.wf,g2.gen,g2.W3,g2.kr,g2.ft,g2.size,g2.rt,g2.shr,g2.r5,g2.O9,eb g2.M5<|jG _ _⟩;have HI:=p.rt O<|zX ha;have Fi:=p.rt rb<|zX hb;have hl:=g3.len;have hc:=g3.core;have hg:=p.gen;have co:CO Nu:=g2.has.co;have dV:P.size=(P.N.length:Int):=p.size;obtain⟨c,u,k,out,V,k1,K⟩:=kc (n:=n) g4 co g6 ⟨by omega,by omega⟩ ag ag g2.kr g2.ft ag (s:=P.size) ag ag (r:=I O) (g4.b6.lt _ ag)<|g4.b6.idem _ ag;have Pi:=p.has.co;have qU:Ex Nu.length Nu u:=K.ex;have hL:∀(j:Nat)(c:aU)(a:aL),(core P.N).D6[j]? = some c->a∈c.E2->0<=a.To/\a.To<((core P.N).D6.length:Int):=fun j c a hj ha=>((Pi.M6 _<|zX hj).O9 a ha).2
 have MQ:∀{v:Nat}{q:X Int}{w:Int},v<P.N.length->Wk (core P.N) v q w->Wk (core u) v q w:=fun{v q w} M h=>T0 co qU (by rw[hc];exact h) ⟨by omega,by rw[jI];omega⟩;have GK:∀{v:Nat}{q:X Int}{w:Int},v<P.N.length->Wk (core u) v q w->Wk (core P.N) v q w:=fun{v q w} M h=>by rw[<-hc];exact I7 co qU h ⟨by omega,by rw[jI];omega⟩
 have Jw:∀{v x:Nat}{q:X Int},v<P.N.length->Wk (core P.N) v q x->x<P.N.length:=fun{v x q} M h=>by have:=(h.W4 Pi.M6 ⟨by omega,by rw[jI];omega⟩).2;rw[jI]at this;omega
 have qn:∀i,i<P.N.length->I (I i)=I i:=fun i hi=>(U.qg.rt i (by rw[jI];exact hi)).2;have yI:=U.eq;have org:∀x∈out,I x=x/\x<P.N.length/\∃j,j<P.N.length/\I j=x/\RR P.N O rb j:=fun x A=>by
  obtain⟨q,W⟩:=K.z8 x A;obtain⟨j,B,F,Q⟩:=U.back Pi W ⟨O,HI,rfl,.inl<|Rc.refl _ _⟩;have F:x=I j:=by omega
  have:=(K.lt x A).1;exact⟨by rw[F];exact qn j B,by omega,j,B,F.symm,Q⟩
 have oi:∀{v:Nat}{q:X Int}{j x:Nat},(v=O\/v=rb)->Wk (core P.N) v q j->I j=x->x∈out->Wk (core u) c q (V x:Int):=fun{v q j x} M hw hj A=>by have B:=U.qg.wk hL (v:=(v:Int)) (w:=(j:Int)) hw (by rw[jI];obtain rfl |rfl:=M<;>omega);simp only[zZ,hj]at B;have F:I v=I O:=M.elim (fun h=>by rw[h]) (fun h=>by rw[h];exact yI.symm);rw[F]at B;have:=K.to B rfl K.rt.2 K.cl rfl;rw[<-K.rt.1]at this;exact this
 have L:∀{v:Nat},(v=O\/v=rb)->v∈P.roots/\v<P.N.length:=fun{v} M=>by obtain rfl |rfl:=M;exact⟨zX ha,HI⟩;exact⟨zX hb,Fi⟩
 have rr:∀{j:Nat},RR P.N O rb j->∃v,(v=O\/v=rb)/\Rc (core P.N) (v:Int) (j:Int):=fun{j} h=>by obtain h |h:=h;exact⟨O,.inl rfl,h⟩;exact⟨rb,.inr rfl,h⟩
 have frc:∀x:Nat,Rc (core u) (c:Int) (x:Int)->∃y∈out,x=V y:=fun x ⟨q,W⟩=>by obtain⟨w0,B,F,_⟩:=K.from W (v0:=I O) (by rw[K.rt.1]) K.rt.2;exact⟨w0,B,by omega⟩
 have cN3:c<u.length:=by rw[K.rt.1];exact(K.lt _ K.rt.2).2
 have hspn:∀x:Nat,Rc (core u) (c:Int) (x:Int)->∃p∈m,Wk (core u) (c:Int) p (x:Int):=fun x A=>by obtain⟨y,G,rfl⟩:=frc x A;obtain⟨_,_,j,B,F,Q⟩:=org y G;obtain⟨v,M,Zh⟩:=rr Q;obtain⟨z,hz,hw⟩:=p.r5 v (L M).1 j Zh;exact⟨z,hz,oi M hw F G⟩
 have wa:∀x:Nat,Rc (core u) (c:Int) (x:Int)->∀y∈(nd (core u) (x:Int)).E2,∃e∈E,Wk (core u) (c:Int) e.1 (x:Int)/\y.D9=e.2:=fun x A y G=>by
  obtain⟨x0,mW,rfl⟩:=frc x A;obtain⟨h0,h0',j,B,F,Q⟩:=org x0 mW;obtain⟨b,hb,q,e1,W,rfl⟩:=((K.oF x0 mW).2 y).1 G;obtain⟨z,hz⟩:∃z,(qG C I Nu.length).D6[x0]? = some z:=fJ (by rw[U.qg.len,jI];exact h0');have e2:nd (qG C I Nu.length) (x0:Int)=z:=by simp[nd,hz]
  rw[e2]at hb;obtain⟨j2,y2,a0,q1,q2,q3,q4,q5⟩:=U.qg.snd _ z b hz h0 hb;obtain⟨y0,O2,rfl⟩:=Ly q1;have r2:=U.cls Pi B (oT O2) (by rw[F,q2]) Q;obtain⟨v,M,Zh⟩:=rr r2;obtain⟨e,he,hw,Y⟩:=p.O9 v (L M).1 j2 Zh a0 (by rw[H7 O2];exact q3);exact⟨e,he,oi M hw q2 mW,by show b.D9=_;rw[q4,Y]⟩
 have Zn:∀b'∈P.roots,∀x:Nat,Rc (core u) (c:Int) (x:Int)->Rc (core u) (b':Int) (x:Int)->∃p,Wk (core u) (c:Int) p (x:Int)/\Wk (core u) (b':Int) p (x:Int):=fun b' bU x A ⟨q,W⟩=>by
  have L3:=p.rt b' bU;have W:=GK L3 W;have O4:=Jw L3 W;obtain⟨y,G,e⟩:=frc x A;have qT:=K.low y G ag;obtain⟨h0,h0',j,B,F,Q⟩:=org y G;have r2:=U.cls Pi B h0' (by rw[F,h0]) Q;obtain⟨v,M,Zh⟩:=rr r2;have exy:x=y:=by omega
  subst exy;obtain⟨q2,w1,w2⟩:=p.shr v (L M).1 b' bU x Zh ⟨q,W⟩;have:=oi M w1 h0 G;rw[qT]at this;exact⟨q2,this,MQ L3 w2⟩
 have G2:bX (core u) (c:Int)=bX (qG C I Nu.length) (I O:Int):=K.can;have FY:out.length<=(bX (qG C I Nu.length) (I O:Int)).D6.length:=by have:=K.ord;simp only[bX,yA];exact this
 have hk:=K.k;have hlen3:=K.len;refine⟨some<|bX (qG C I Nu.length) (I O:Int),⟨P.H,u,P.roots++[c],P.size+(k:Int),P.gen+1⟩,?_,⟨nofun,fun f e=>⟨I,_,U,by cases e;rfl⟩⟩,?_,rfl,by show P.N.length<=u.length;omega,nofun,fun f e=>by cases e;show u.length<=_;omega⟩;rw[DK,g1,aN];simp only;rw[k1,aN,aE,kh hR];rfl;have Gn:Ex P.N.length P.N u:=⟨by omega,fun i x hi A=>by obtain⟨x',B,F,Q⟩:=g3.st i x A;obtain⟨x2,h4,h5,h6⟩:=qU.st i x' ag B;exact⟨x2,h4,h5.trans F,h6.trans Q⟩⟩;refine⟨⟨K.co,by simp[p.has.len],fun i f Y=>?_⟩,p.hH,K.wf,by show 1<=P.gen+1;omega,K.W3,K.kr,K.ft,by show P.size+(k:Int)=(u.length:Int);omega,fun r hr=>?_,?_,?_,?_,?_⟩;by_cases hi:i<g.length;rw[kl hi]at Y;obtain⟨r,B,F,Q⟩:=p.has.at_ i f Y;exact⟨r,by show(P.roots++[c])[i]? = _;rw[kl (by rw[p.has.len];exact hi)];exact B,by show r<u.length;omega,by rw[<-Q];exact qrn Pi K.co Gn F⟩;have hi2:=(zG.1 Y).1;simp at hi2;have:i=g.length:=by omega
 subst this;simp at Y;subst Y;exact⟨c,by show(P.roots++[c])[_]? = _;rw[<-p.has.len];simp,cN3,G2⟩;show r<u.length;obtain hr |hr:=yD.1 hr;have:=p.rt r hr;omega;simp at hr;subst hr;exact cN3;intro a' Z b' bU x A G;have Z:a'∈P.roots++[c]:=Z;have bU:b'∈P.roots++[c]:=bU;obtain t |t:=yD.1 Z<;>obtain J |J:=yD.1 bU;obtain⟨q1,w6⟩:=A;obtain⟨q2,sH⟩:=G;obtain⟨q,w1,w2⟩:=p.shr a' t b' J x ⟨q1,GK (p.rt _ t) w6⟩ ⟨q2,GK (p.rt _ J) sH⟩;exact⟨q,MQ (p.rt _ t) w1,MQ (p.rt _ J) w2⟩;simp at J;subst J;obtain⟨q,w1,w2⟩:=Zn a' t x G A;exact⟨q,w2,w1⟩;simp at t;subst t;exact Zn b' J x A G;simp at t J;subst t;subst J;obtain⟨q,W⟩:=A;exact⟨q,W,W⟩;intro a' Z x A;have Z:a'∈P.roots++[c]:=Z;obtain t |t:=yD.1 Z;obtain⟨q1,w6⟩:=A;obtain⟨z,hz,w⟩:=p.r5 a' t x ⟨q1,GK (p.rt _ t) w6⟩;exact⟨z,hz,MQ (p.rt _ t) w⟩;simp at t;subst t;exact hspn x A;intro a' Z x A y G;have Z:a'∈P.roots++[c]:=Z;obtain t |t:=yD.1 Z;obtain⟨q1,w6⟩:=A;have w6:=GK (p.rt _ t) w6;have G:y∈(nd (core u) (x:Int)).E2:=G;rw[yx Gn<|Jw (p.rt _ t) w6]at G;obtain⟨e,he,w,Y⟩:=p.O9 a' t x ⟨q1,w6⟩ y G;exact⟨e,he,MQ (p.rt _ t) w,Y⟩;simp at t;subst t;exact wa x A y G;show pB u<=T+E.length;have B:pB (u.take P.N.length)=pB P.N:=by
  have:(u.take P.N.length).map (fun x=>x.D8.length)=P.N.map fun x=>x.D8.length:=by apply me;intro i;rw[vz,vz,l8];by_cases hi:i<P.N.length;obtain⟨x,A⟩:=fJ hi;obtain⟨x',B,F,Q⟩:=Gn.st i x hi A;rw[kh hi,A,B];simp only[zM,Q];rw[iy hi,Xi ag]
  rw[pB,this];rfl
 have F:pB (u.drop P.N.length)<=E.length:=by
  rw[z7e _ P.N.length];have W8:∀(j:Nat)(x:PN),(u.drop P.N.length)[j]? = some x->u[P.N.length+j]? = some x:=fun j x h=>by rw[na]at h;exact h
  refine Ol (R:=fun(e:Jn) (z:Nat×Int)=>Wk (core u) (c:Int) e.1 (z.1:Int)/\z.2=e.2) (fun e x y B F=>?_) E _ (z8w fun l hl=>?_) fun z hz=>?_;have:=Wk.CZ K.co.M6 B.1 ⟨by omega,by rw[jI];omega⟩ F.1;exact Prod.ext ag<|B.2.trans F.2.symm;obtain⟨x,A,rfl⟩:=mem_map.1 hl;obtain⟨j,hj⟩:=mc A;have:=K.co.wJ x<|zX<|W8 j x hj;unfold Nodup;rw[XN];exact this.imp fun{a b} h e=>by omega
  obtain⟨j,l,q1,q2,q3⟩:=quj hz;rw[vz]at q1;rcases A:(u.drop P.N.length)[j]? with _|x;rw[A]at q1;cases q1;rw[A]at q1;cases q1;have hx3:=W8 j x A;obtain⟨a,ha,e⟩:=mem_map.1 q3;obtain⟨y,G,hy2⟩:=K.new (P.N.length+j) ag<|oT hx3;obtain⟨_,_,i,i1,i2,i3⟩:=org y G;obtain⟨v,M,⟨q,hvq⟩⟩:=rr i3;have hw:=oi M hvq i2 G;rw[hy2]at hw;obtain⟨e',BO,w,Y⟩:=wa (P.N.length+j) ⟨q,hw⟩ (gA a) (by rw[H7 hx3];exact W2 ha);exact⟨e',BO,by rw[q2];exact w,by rw[<-Y,<-e];rfl⟩
 have Q:=z3u u P.N.length;have h4:=p.M5;omega
end
def AV.new{H:dK}{ws:X Nat}:AV H ws (uT H) [] [] [] 0:=by refine⟨Has.new H,rfl,nofun,yv _,nofun,nofun,nofun,rfl,nofun,nofun,nofun,nofun,zF _⟩
def qwu(f:cb){K:Nat}(j:∀x∈f.D6,x.E2.length<=K):∀m,m<=f.D6.length->∃(b:X (X Int))(E:X Jn),b.length<=m/\E.length<=K*m/\∀i:Nat,i<m->Rc f 0 (i:Int)->(∃z∈b,Wk f 0 z (i:Int))/\∀y∈(nd f (i:Int)).E2,∃e∈E,Wk f 0 e.1 (i:Int)/\y.D9=e.2
 |0,_=>⟨[],[],zF _,qq _,fun i c=>ag⟩|m+1,hm=>by
  obtain⟨b,E,F,G,h⟩:=qwu f j m ag;by_cases k:Rc f 0 (m:Int);obtain⟨z,q⟩:=k;obtain⟨x,n⟩:=fJ (l:=f.D6) (i:=m) ag;have e:nd f (m:Int)=x:=by simp[nd,n]
  have D:=j x<|zX n;refine⟨z::b,x.E2.map (fun a=>(z,a.D9))++E,by simp;omega,by simp[mul_succ];omega,fun i c g=>?_⟩;obtain c |rfl:=Nat.lt_succ_iff_lt_or_eq.1 c;obtain⟨⟨C,u,A⟩,B⟩:=h i c g;exact⟨⟨C,by simp[u],A⟩,fun y d=>by obtain⟨r,s,t⟩:=B y d;exact⟨r,qa _ s,t⟩⟩;exact⟨⟨z,by simp,q⟩,fun y d=>by rw[e]at d;exact⟨(z,y.D9),vt _<|mem_map.2 ⟨y,d,rfl⟩,q,rfl⟩⟩;refine⟨b,E,by omega,by rw[mul_succ];omega,fun i c g=>?_⟩;obtain c |rfl:=Nat.lt_succ_iff_lt_or_eq.1 c;exact h i c g;exact absurd g k
section
variable{N:X PN}{f:cb}
def i?(e:m7 f){i:Nat}(g:i<f.D6.length):nd (core<|N++f.D6.map (nR N.length)) ((N.length+i:Nat):Int)=⟨(nd f (i:Int)).R,(nd f (i:Int)).E2.map (oA N.length)⟩:=by
 obtain⟨x,b⟩:=fJ g;have c:(N++f.D6.map (nR N.length))[N.length+i]? = some (nR N.length x):=by rw[kq ag,nv,vz,b];rfl
 rw[H7 c,cN,pn fun a d=>((e x<|zX b).O9 a d).2.1];simp[nd,b,nR,gX]
def YC(g:m7 f){v w:Int}{p:X Int}(h:Wk f v p w):fU f v->Wk (core<|N++f.D6.map (nR N.length)) (v+(N.length:Int)) p (w+(N.length:Int)):=by induction h with|nil v=>intro _;exact .nil _| @cons v w a p d m j=>intro b;have c:=(g _ (xZ b).2).O9 a d;have k:=b.1;have l:=b.2;have e:=i? (N:=N) g (i:=v.toNat) ag;rw[show((N.length+v.toNat:Nat):Int)=v+(N.length:Int) by omega,show((v.toNat:Nat):Int)=v by omega]at e;exact Wk.cons (a:=oA N.length a) (by rw[e];exact W2 d) (j ⟨c.2.1,c.2.2⟩)
def OS(l:m7 f){v w:Int}{p:X Int}(h:Wk (core<|N++f.D6.map (nR N.length)) v p w):∀{u:Int},v=u+(N.length:Int)->fU f u->∃d,w=d+(N.length:Int)/\fU f d/\Wk f u p d:=by induction h with|nil v=>intro u e c;exact⟨u,e,c,.nil _⟩| @cons v w a p j x m=>intro u e c;subst e;have s:=c.1;have t:=c.2;have e:=i? (N:=N) l (i:=u.toNat) ag;rw[show((N.length+u.toNat:Nat):Int)=u+(N.length:Int) by omega,show((u.toNat:Nat):Int)=u by omega]at e;rw[e]at j;obtain⟨b,k,rfl⟩:=mem_map.1 j;have g:=(l _ (xZ c).2).O9 b k;obtain⟨d,n,q,r⟩:=m (u:=b.To) rfl ⟨g.2.1,g.2.2⟩;exact⟨d,n,q,Wk.cons (a:=b) k r⟩
end
def z7d(a b:X PN):pB (a++b)=pB a+pB b:=by simp[pB]
def z3v{K:Nat}:∀{M:X PN},(∀x∈M,x.D8.length<=K)->pB M<=K*M.length
 |[],_=>by simp[pB]
 |x::M,h=>by have c:=h x ca;have a:=z3v (M:=M) fun y b=>h y (by simp[b]);simp only[pB,zQ,Ga,zO,Nat.mul_add,Nat.mul_one]at a ⊢;omega
def zaz{H:dK}{G:X Nat}{P:PP}{V:X cb}{n:X (X Int)}{E:X Jn}{T:Nat}(hh:oE H G)(p:AV H G P V n E T){f:cb}(l:tH H f)(hN:P.N.length+f.D6.length<=1000000)(Z:P.roots.length<=1000000):
  ∃A U S,xV P f=some ((P.roots.length:Int),A)/\AV H G A (V++[f]) U S (T+12*f.D6.length)/\U.length<=n.length+f.D6.length/\S.length<=E.length+12*f.D6.length/\A.gen=P.gen/\A.N.length=P.N.length+f.D6.length:=by
 have hh1:=hh.tl;have hh2:=hh.fl;have L:=l.M6;have co:=p.has.co;have hs:=l.sm;have R8:=p.gen;have dV:=p.size;obtain⟨A,q1,q2,q3,q4,q5⟩:=p.has.put l hN Z;have C:=z2e l.sm cg l.ne l.M6 Z;rw[C]at q1;cases q1;have co':CO (P.N++f.D6.map (nR P.N.length)):=q2.co;have R:=z8x P.N f;obtain⟨Zf,Ef,z1,z2,z3⟩:=qwu f hs.D8 f.D6.length<|zF _;have B:∀{v:Nat}{q:X Int}{w:Int},v<P.N.length->Wk (core P.N) v q w->Wk (core<|P.N++f.D6.map (nR P.N.length)) v q w:=fun{v q w} hv h=>T0 co R h ⟨by omega,by rw[jI];omega⟩;have r:∀{v:Nat}{q:X Int}{w:Int},v<P.N.length->Wk (core<|P.N++f.D6.map (nR P.N.length)) v q w->Wk (core P.N) v q w:=fun{v q w} hv h=>I7 co R h ⟨by omega,by rw[jI];omega⟩;have I:∀{v x:Nat}{q:X Int},v<P.N.length->Wk (core P.N) v q x->x<P.N.length:=fun{v x q} hv h=>by have:=(h.W4 co.M6 ⟨by omega,by rw[jI];omega⟩).2;rw[jI]at this;omega
 have i0:fU f 0:=⟨yv _,by have:=l.ne;omega⟩;have F:∀{x:Nat}{q:X Int},Wk (core<|P.N++f.D6.map (nR P.N.length)) (P.N.length:Int) q x->∃i:Nat,x=P.N.length+i/\i<f.D6.length/\Wk f 0 q (i:Int):=fun{x q} h=>by obtain⟨u,W,Y,h3⟩:=OS L h (u:=0) ag i0;have a1:=Y.1;have a2:=Y.2;exact⟨u.toNat,by omega,by omega,by rw[show((u.toNat:Nat):Int)=u by omega];exact h3⟩
 have nu:∀{i:Nat}{q:X Int},Wk f 0 q (i:Int)->Wk (core<|P.N++f.D6.map (nR P.N.length)) (P.N.length:Int) q ((P.N.length+i:Nat):Int):=fun{i q} h=>by have:=YC (N:=P.N) L h i0;rw[show(0:Int)+(P.N.length:Int)=(P.N.length:Int) by omega,show(i:Int)+(P.N.length:Int)=((P.N.length+i:Nat):Int) by omega]at this;exact this
 have mem:∀x∈P.N++f.D6.map (nR P.N.length),x∈P.N\/∃y∈f.D6,x=nR P.N.length y:=fun x d=>by obtain d |d:=yD.1 d;exact .inl d;obtain⟨y,j,e⟩:=mem_map.1 d;exact .inr ⟨y,j,e.symm⟩
 have Zm:i64.wrap (P.size+f.D6.length)=P.size+f.D6.length:=wrap_i64 ag ag;refine⟨_,n++Zf,E++Ef,C,⟨q2,p.hH,(qud C p.wf p.rt).1,R8,fun x d=>?_,fun x d=>?_,fun x d=>?_,?_,(qud C p.wf p.rt).2.1,?_,?_,?_,?_⟩,by simp;omega,by simp;omega,rfl,by simp⟩;obtain d |⟨y,j,rfl⟩:=mem x d;exact p.W3 x d;exact⟨by show(0:Int)<P.gen+1;omega,by show(0:Int)<P.gen+1;omega,by show(0:Int)<P.gen+1;omega,by show(0:Int)<P.gen+1;omega,by show(0:Int)<P.gen+1;omega⟩;obtain d |⟨y,j,rfl⟩:=mem x d;exact p.kr x d;have:=(l.p9 y j).1;show 0<=y.R/\y.R<(G.length:Int);omega;obtain d |⟨y,j,rfl⟩:=mem x d;exact p.ft x d;intro a c;obtain⟨b,g,rfl⟩:=mem_map.1 (show a∈y.E2.map (Xu P.N.length)from c);have:=(l.p9 y j).2.ok b g;show 0<=b.D9/\b.D9<1000;omega;show i64.wrap (P.size+f.D6.length)=_;rw[Zm,zU,yA];omega;intro a c b g x d j;have c:a∈P.roots++[P.N.length]:=c;have g:b∈P.roots++[P.N.length]:=g;obtain⟨s,m⟩:=d;obtain⟨s2,t⟩:=j;obtain c |c:=yD.1 c<;>obtain g |g:=yD.1 g;obtain⟨q,k1,k2⟩:=p.shr a c b g x ⟨s,r (p.rt _ c) m⟩ ⟨s2,r (p.rt _ g) t⟩;exact⟨q,B (p.rt _ c) k1,B (p.rt _ g) k2⟩;simp at g;subst g;obtain⟨i,e,_,_⟩:=F t;have:=I (p.rt _ c)<|r (p.rt _ c) m;omega;simp at c;subst c;obtain⟨i,e,_,_⟩:=F m;have:=I (p.rt _ g)<|r (p.rt _ g) t;omega;simp at c g;subst c;subst g;exact⟨s,m,m⟩;intro a c x d;have c:a∈P.roots++[P.N.length]:=c;obtain⟨s,m⟩:=d;obtain c |c:=yD.1 c;obtain⟨z,Q,k⟩:=p.r5 a c x ⟨s,r (p.rt _ c) m⟩;exact⟨z,vt _ Q,B (p.rt _ c) k⟩;simp at c;subst c;obtain⟨i,rfl,D,O⟩:=F m;obtain⟨z,Q,k⟩:=(z3 i D ⟨_,O⟩).1;exact⟨z,qa _ Q,nu k⟩;intro a c x d y j;have c:a∈P.roots++[P.N.length]:=c;obtain⟨s,m⟩:=d;have j:y∈(nd (core<|P.N++f.D6.map (nR P.N.length)) (x:Int)).E2:=j;obtain c |c:=yD.1 c;have t:=r (p.rt _ c) m;rw[yx R<|I (p.rt _ c) t]at j;obtain⟨e,J,k,l⟩:=p.O9 a c x ⟨s,t⟩ y j;exact⟨e,vt _ J,B (p.rt _ c) k,l⟩;simp at c;subst c;obtain⟨i,rfl,D,O⟩:=F m;rw[i? L D]at j;obtain⟨b,g,rfl⟩:=mem_map.1 j;obtain⟨e,J,k,l⟩:=(z3 i D ⟨_,O⟩).2 b g;exact⟨e,qa _ J,nu k,l⟩;show pB (P.N++f.D6.map (nR P.N.length))<=_;rw[z7d];have W:=z3v (K:=12) (M:=f.D6.map<|nR P.N.length) fun x d=>by obtain⟨y,j,rfl⟩:=mem_map.1 d;simp only[nR,gX,yA];exact hs.D8 y j
 rw[yA]at W;have:=p.M5;omega
structure Hm(ws:X Nat)(L' L:X aU)(φ:Nat->Nat):Prop where
 lt:∀i,i<L'.length->φ i<L.length
 fw:∀(i:Nat)(c:aU)(a:aL),L'[i]? = some c->a∈c.E2->∃y b,L[φ i]? = some y/\b∈y.E2/\b.D9=a.D9/\b.To=(φ a.To.toNat:Int)
 bw:∀(i:Nat)(y:aU)(b:aL),i<L'.length->L[φ i]? = some y->b∈y.E2->∃(j:Nat)(c:aU)(a:aL),L'[j]? = some c/\φ j=φ i/\a∈c.E2/\b.D9=a.D9/\b.To=(φ a.To.toNat:Int)
 ty:∀(i:Nat)(y:aU),i<L'.length->L[φ i]? = some y->∀k:Nat,(iY ws y.R).testBit k=true↔∀(j:Nat)(c:aU),L'[j]? = some c->φ j=φ i->(iY ws c.R).testBit k=true
structure LG(ws:X Nat)(L:X aU):Prop where
 ds:∀c∈L,m8 c.E2
 to:∀c∈L,∀a∈c.E2,0<=a.To/\a.To<(L.length:Int)
 ty:∀c∈L,0<=c.R/\c.R<(ws.length:Int)
def GB(q:Nat->Nat)(W:X (Nat×Nat)):Prop:=∀p∈W,q p.1=q p.2
structure UY(ws:X Nat)(L:X aU)(W:X (Nat×Nat))(Z:Nat->Nat)(Q:cb):Prop where
 hm:Hm ws L Q.D6 Z
 M6:m7 Q
 ty:∀(i:Nat)(y:aU),i<L.length->Q.D6[Z i]? = some y->0<=y.R/\y.R<(ws.length:Int)
 eq:GB Z W
 low:∀q,u7 L q->GB q W->∀i j,i<L.length->j<L.length->Z i=Z j->q i=q j
structure UA(ws:X Nat)(L:X aU)(W:X (Nat×Nat))(r:Nat)(res:A cb):Prop where
 no:res=none->∀q,u7 L q->GB q W->Ju ws L q
 yes:∀f,res=some f->∃Z Q,UY ws L W Z Q/\f=bX Q ((Z r:Nat):Int)
def QG.hm{f:X Nat}{L:X aU}{r:Nat->Nat}{g:cb}(h:QG f L r g):Hm f L g.D6 r :=
 ⟨fun i d=>by rw[h.len];exact(h.rt i d).1,fun i c a d j=>h.nZ i c a d j,fun i y b d e k=>by have:=h.snd (r i) y b e (h.rt i d).2 k;simpa[(h.rt i d).2]using this,fun i y d e=>(h.kd (r i) y e (h.rt i d).2).2⟩
section
variable{ws:X Nat}{L:X aU}{W:X (Nat×Nat)}
def UY.W7{Z:Nat->Nat}{Q:cb}(h:UY ws L W Z Q):u7 L Z:=fun i j c e a b n q m k l z=>by
 obtain⟨y,x,d,g,t,u⟩:=h.hm.fw i c a n k;obtain⟨C,s,f,r,A,B⟩:=h.hm.fw j e b q l;rw[m,f]at d;cases d;have:=(h.M6 _<|zX f).aR.eq x g s r ag;subst this;omega
def UY.nW{Z:Nat->Nat}{Q:cb}(e:∀w∈ws,w≠0)(h:UY ws L W Z Q):¬ Ju ws L Z:=fun⟨i,a,c⟩=>by
 obtain⟨y,b⟩:=fJ<|h.hm.lt i a;have d:=h.ty i y a b;obtain⟨k,f⟩:=N!<|e _<|zX<|As d;obtain⟨j,x,q1,q2,q3⟩:=c k;have:=(h.hm.ty i y a b k).1 f j x q1 q2;rw[q3]at this;cases this
def UA.uniq(hn:ws.Nodup)(hw:∀w∈ws,w≠0)(hg:LG ws L){r:Nat}(x:r<L.length){E l:A cb}(h:UA ws L W r E)(Y:UA ws L W r l):E=l:=by
 classical
 cases E with
 |none=>obtain _|f:=l;rfl;obtain⟨Z,Q,u,_⟩:=Y.yes f rfl;exact absurd (h.no rfl Z u.W7 u.eq) (u.nW hw)
 |some f=>
  obtain⟨Z,Q,u,rfl⟩:=h.yes f rfl;obtain _|f':=l;exact absurd (Y.no rfl Z u.W7 u.eq)<|u.nW hw;obtain⟨m,O,s,rfl⟩:=Y.yes f' rfl;have P:∀i j,i<L.length->j<L.length->Z i=Z j->m i=m j:=u.low m s.W7 s.eq;have R:∀i j,i<L.length->j<L.length->m i=m j->Z i=Z j:=s.low Z u.W7 u.eq
  let V:Int->Int:=fun v=>if h:∃i,i<L.length/\v=(Z i:Int)then(m h.choose:Int)else 0
  have C:∀i,i<L.length->V (Z i:Int)=(m i:Int):=fun i d=>by have qU:∃j,j<L.length/\(Z i:Int)=(Z j:Int):=⟨i,d,rfl⟩;show(if h:∃j,j<L.length/\(Z i:Int)=(Z j:Int)then(m h.choose:Int)else 0)=_;rw[dif_pos qU];have hc:=qU.choose_spec;rw[P i _ d hc.1 ag]
  have nq:∀i,i<L.length->∃y,Q.D6[Z i]? = some y/\nd Q (Z i:Int)=y:=fun i d=>by obtain⟨y,g⟩:=fJ<|u.hm.lt i d;exact⟨y,g,by simp[nd,g]⟩
  have K:∀i,i<L.length->∃y,O.D6[m i]? = some y/\nd O (m i:Int)=y:=fun i d=>by obtain⟨y,g⟩:=fJ<|s.hm.lt i d;exact⟨y,g,by simp[nd,g]⟩
  have iff_:∀i j,i<L.length->j<L.length->(Z i=Z j↔m i=m j):=fun i j d n=>⟨P i j d n,R i j d n⟩;have B:∀{j:Nat}{c:aU},L[j]? = some c->j<L.length:=fun h=>(zG.1 h).1;have F:∀{j:Nat}{c:aU}{a:aL},L[j]? = some c->a∈c.E2->a.To.toNat<L.length:=fun h ha=>by have:=hg.to _ (zX h) _ ha;omega
  have hS:oZ Q O V (fun v=>∃i,i<L.length/\v=(Z i:Int)):=by
   refine⟨?_,?_,?_,?_⟩;rintro v ⟨i,d,rfl⟩ b G;obtain⟨y,g,D⟩:=nq i d;have G:=tI.1 G;rw[D]at G;obtain⟨j,c,a,q1,q2,q3,q4,q5⟩:=u.hm.bw i y b d g G;exact⟨a.To.toNat,F q1 q3,q5⟩;rintro v w ⟨i,d,rfl⟩ ⟨j,n,rfl⟩ e;rw[C i d,C j n]at e;rw[R i j d n ag];rintro v ⟨i,d,rfl⟩;obtain⟨y,g,D⟩:=nq i d;obtain⟨U,H,t⟩:=K i d;rw[C i d,D,t];refine z9r hn (s.ty i U d H) (u.ty i y d g)<|SY fun k=>?_;rw[ve,s.hm.ty i U d H k,u.hm.ty i y d g k];exact⟨fun q j c n x=>q j c n<|P j i (B n) d x,fun q j c n x=>q j c n<|R j i (B n) d x⟩;rintro v ⟨i,d,rfl⟩;obtain⟨y,g,D⟩:=nq i d;obtain⟨U,H,t⟩:=K i d;rw[C i d];have x?:gZ (R5 O (m i:Int)):=by rw[R5,t];exact U5 (s.M6 _<|zX H).aR
   have w?:gZ ((R5 Q (Z i:Int)).map fun a=>(⟨a.D9,V a.To⟩:aL)):=by
    have:gZ (R5 Q (Z i:Int)):=by rw[R5,D];exact U5 (u.M6 _<|zX g).aR
    unfold gZ at*;rw[XN];exact this
   refine qv1 x? w? fun b=>?_;rw[tI,t,gf];constructor;intro G;obtain⟨j,c,a,q1,q2,q3,q4,q5⟩:=s.hm.bw i U b d H G;have mY:=R j i (B q1) d q2;obtain⟨z,I,M,p2,S,T⟩:=u.hm.fw j c a q1 q3;rw[mY,g]at M;cases M;refine⟨I,by rw[tI,D];exact p2,?_⟩;rw[T,C _<|F q1 q3,<-q5,S,<-q4];rintro⟨I,J,rfl⟩;rw[tI,D]at J;obtain⟨j,c,a,q1,q2,q3,q4,q5⟩:=u.hm.bw i y I d g J;have mY:=P j i (B q1) d q2;obtain⟨z,b3,M,p2,S,T⟩:=s.hm.fw j c a q1 q3;rw[mY,H]at M;cases M;have:(⟨I.D9,V I.To⟩:aL)=b3:=by rw[q5,C _<|F q1 q3];cases b3;simp only[aL.mk.injEq];simp only at S T;exact⟨by rw[q4,S],T.symm⟩
   rw[this];exact p2
  have i1:=u.hm.lt r x;have i2:=s.hm.lt r x;have:=(hS.canon u.M6 s.M6 (r:=(Z r:Int)) ⟨by omega,by omega⟩ ⟨r,x,rfl⟩ (by rw[C r x];exact⟨by omega,by omega⟩)).2;rw[C r x]at this;rw[this]
def UA.tr(hw:∀w∈ws,w≠0)(hg:LG ws L){g:X aU}{φ:Nat->Nat}(hm:Hm ws g L φ)(tR:LG ws g){V:X (Nat×Nat)}(S:∀q,u7 g q->GB q V->∀i j,i<g.length->j<g.length->φ i=φ j->q i=q j)
  (w1:∀Z:Nat->Nat,GB Z W->∀p∈V,Z (φ p.1)=Z (φ p.2)) (w2:∀p∈W,∃x y,p=(φ x,φ y)/\x<g.length/\y<g.length/\∀q,u7 g q->GB q V->q x=q y) {r':Nat} (BJ:r'<g.length) {res:A cb} (h:UA ws L W (φ r') res):UA ws g V r' res:=by
 classical
 have C:∀{j:Nat}{c:aU},g[j]? = some c->j<g.length:=fun h=>(zG.1 h).1;have F:∀{j:Nat}{c:aU}{a:aL},g[j]? = some c->a∈c.E2->a.To.toNat<g.length:=fun h R=>by have:=tR.to _ (zX h) _ R;omega
 let J:(Nat->Nat)->Nat->Nat:=fun q x=>if h:∃i,i<g.length/\x=φ i then 2*q h.choose else 2*x+1
 have H:∀q,u7 g q->GB q V->∀i,i<g.length->J q (φ i)=2*q i:=fun q m D i l=>by have qU:∃j,j<g.length/\φ i=φ j:=⟨i,l,rfl⟩;show(if h:∃j,j<g.length/\φ i=φ j then 2*q h.choose else 2*φ i+1)=_;rw[dif_pos qU];have hc:=qU.choose_spec;rw[S q m D _ _ l hc.1 hc.2]
 have Y:∀q x,(¬ ∃i,i<g.length/\x=φ i)->J q x=2*x+1:=fun q x s=>by show(if h:∃j,j<g.length/\x=φ j then 2*q h.choose else 2*x+1)=_;rw[dif_neg s]
 have hc:∀q,u7 g q->GB q V->u7 L (J q):=fun q m D x y c e a b s t B R P hf=>by
  by_cases G:∃i,i<g.length/\x=φ i;obtain⟨i,l,rfl⟩:=G;by_cases r:∃i,i<g.length/\y=φ i;obtain⟨j,n,rfl⟩:=r;rw[H q m D i l,H q m D j n]at B;obtain⟨i',T,a',U,p2,p3,p4,p5⟩:=hm.bw i c a l s R;obtain⟨M,d',b',E,I,K,k4,k5⟩:=hm.bw j e b n t P;have e1:=S q m D i' i (C U) l p2;have e2:=S q m D M j (C E) n I;have:=m i' M T d' a' b' U E ag p3 K ag;rw[p5,k5,zZ,zZ,H q m D _<|F U p3,H q m D _<|F E K,this];rw[H q m D i l,Y q y r]at B;omega;by_cases r:∃i,i<g.length/\y=φ i;obtain⟨j,n,rfl⟩:=r;rw[H q m D j n,Y q x G]at B;omega;rw[Y q x G,Y q y r]at B;have:x=y:=by omega
  subst this;rw[s]at t;cases t;rw[(hg.ds c<|zX s).eq a R b P hf]
 have D:∀q,u7 g q->GB q V->GB (J q) W:=fun q m D p Zx=>by obtain⟨x,y,rfl,s,t,o6⟩:=w2 p Zx;show J q (φ x)=J q (φ y);rw[H q m D x s,H q m D y t,o6 q m D]
 refine⟨fun yM q m O=>?_,fun f hf=>?_⟩;obtain⟨x,s,P⟩:=h.no yM _ (hc q m O)<|D q m O;by_cases G:∃i,i<g.length/\x=φ i;obtain⟨i,l,rfl⟩:=G;refine⟨i,l,fun k=>?_⟩;obtain⟨y,c,E,I,K⟩:=P k;rw[H q m O i l]at I;by_cases r:∃j,j<g.length/\y=φ j;obtain⟨j,n,rfl⟩:=r;rw[H q m O j n]at I;refine zg fun fS=>?_;have:=(hm.ty j c n E k).2 fun M T vG B=>by rcases hbit:(iY ws T.R).testBit k with _|_;exact absurd ⟨M,T,vG,by rw[S q m O M j (C vG) n B];omega,hbit⟩ fS;rfl
 rw[K]at this;cases this;rw[Y q y r]at I;omega;obtain⟨c,ny⟩:=fJ s;have hk:=hg.ty c<|zX ny;obtain⟨k,nI⟩:=N!<|hw _<|zX<|As hk;obtain⟨y,e,E,I,K⟩:=P k;rw[Y q x G]at I;by_cases r:∃j,j<g.length/\y=φ j;obtain⟨j,n,rfl⟩:=r;rw[H q m O j n]at I;omega;rw[Y q y r]at I;have:y=x:=by omega
 subst this;rw[ny]at E;cases E;rw[nI]at K;cases K;obtain⟨Z,Q,u,rfl⟩:=h.yes f hf;have cls:∀x y,x<L.length->y<L.length->Z x=Z y->(∃i,i<g.length/\x=φ i)->∃i,i<g.length/\y=φ i:=fun x y s t B hxi=>by
  have hq0:u7 L (fun x=>if ∃i,i<g.length/\x=φ i then L.length else x):=fun x y c e a b s t B R P hf=>by have e0:(if ∃i,i<g.length/\x=φ i then L.length else x)=if ∃i,i<g.length/\y=φ i then L.length else y:=B;have O4:=(zG.1 s).1;have hyl:=(zG.1 t).1;show(if _ then _ else _)=if _ then _ else _;by_cases G:∃i,i<g.length/\x=φ i;by_cases r:∃i,i<g.length/\y=φ i;obtain⟨i,l,rfl⟩:=G;obtain⟨j,n,rfl⟩:=r;obtain⟨_,_,a',U,_,p3,_,p5⟩:=hm.bw i c a l s R;obtain⟨_,_,b',E,_,K,_,k5⟩:=hm.bw j e b n t P;rw[kh ⟨_,F U p3,by rw[p5,zZ]⟩,kh ⟨_,F E K,by rw[k5,zZ]⟩];rw[kh G,iy r]at e0;omega;by_cases r:∃i,i<g.length/\y=φ i;rw[iy G,kh r]at e0;omega;rw[iy G,iy r]at e0;subst e0;rw[s]at t;cases t;rw[(hg.ds c<|zX s).eq a R b P hf]
  have:=u.low _ hq0 (fun p Zx=>by obtain⟨x,y,rfl,s,t,_⟩:=w2 p Zx;show(if _ then _ else _)=if _ then _ else _;rw[kh ⟨x,s,rfl⟩,kh ⟨y,t,rfl⟩]) x y s t B;have this:(if ∃i,i<g.length/\x=φ i then L.length else x)=if ∃i,i<g.length/\y=φ i then L.length else y:=this;by_cases r:∃i,i<g.length/\y=φ i;exact r;rw[kh hxi,iy r]at this;omega
 have inL:∀{j:Nat}{c:aU},L[j]? = some c->j<L.length:=fun h=>(zG.1 h).1;refine⟨fun i=>Z<|φ i,Q,⟨⟨fun i l=>u.hm.lt _<|hm.lt i l,fun i c a l R=>?_,fun i y b l t P=>?_,fun i y l t k=>?_⟩,u.M6,fun i y l t=>u.ty _ y (hm.lt i l) t,fun p Zx=>w1 Z u.eq p Zx,fun q m O i j l n B=>?_⟩,rfl⟩;obtain⟨y,b,G,r,h3,h4⟩:=hm.fw i c a l R;obtain⟨z,d,E,I,K,k4⟩:=u.hm.fw (φ i) y b G r;exact⟨z,d,E,I,by omega,by rw[k4,h4,zZ]⟩;obtain⟨x,c,a,U,p2,p3,p4,p5⟩:=u.hm.bw (φ i) y b (hm.lt i l) t P;obtain⟨j,n,rfl⟩:=cls _ _ (hm.lt i l) (inL U) p2.symm ⟨i,l,rfl⟩;obtain⟨M,T,a',E,I,K,k4,k5⟩:=hm.bw j c a n U p3;exact⟨M,T,a',E,by show Z (φ M)=_;rw[I,p2],K,by omega,by rw[p5,k5,zZ]⟩;rw[u.hm.ty (φ i) y (hm.lt i l) t k];constructor;intro q j c n B;obtain⟨z,hz⟩:=fJ<|hm.lt j<|C n;exact(hm.ty j z (C n) hz k).1 (q (φ j) z hz B) j c n rfl;intro q x c s B;obtain⟨j,n,rfl⟩:=cls _ _ (hm.lt i l) (inL s) B.symm ⟨i,l,rfl⟩;refine(hm.ty j c n s k).2 fun M T vG BO=>q M T vG ?_;show Z (φ M)=_;rw[BO,B];have B:Z (φ i)=Z (φ j):=B;have:=u.low _ (hc q m O) (D q m O) _ _ (hm.lt i l) (hm.lt j n) B;rw[H q m O i l,H q m O j n]at this;omega
end
end Go.Proofs
namespace Go.Proofs
open Go Go.Rx Go.Vx Go.Shelf Go.Sort
inductive EM(f:cb):Int->Int->Prop
 |one {u:Int} {a:aL}:a∈(nd f u).E2->EM f u a.To
 |snoc {u v:Int} {a:aL}:EM f u v->a∈(nd f v).E2->EM f u a.To
def EM.trans{f:cb}{u v w:Int}(h:EM f u v)(h':EM f v w):EM f u w:=by induction h' with|one a=>exact .snoc h a|snoc _ a b=>exact .snoc b a
def AD(f:cb)(s t:X Int):Prop:=∀t1 u t2,t=t1++u::t2->∃w∈s++t1,∃a∈(nd f w).E2,a.To=u
def AD.nil(f:cb)(s:X Int):AD f s []:=fun t1 u t2 h=>by simp at h
def AD.cons{f:cb}{s t:X Int}{x:Int}(c:∃w∈s,∃a∈(nd f w).E2,a.To=x)(h:AD f (s++[x]) t):AD f s (x::t):=fun t1 u t2 e=>by
 cases t1 with
 |nil=>simp only[eY,List.cons.injEq]at e;obtain⟨rfl,rfl⟩:=e;simpa using c
 |cons y t1=>simp only[fV,List.cons.injEq]at e;obtain⟨rfl,rfl⟩:=e;obtain⟨w,b,g⟩:=h t1 u t2 rfl;exact⟨w,by simpa using b,g⟩
def AD.app{f:cb}:∀{t s a:X Int},AD f s t->AD f (s++t) a->AD f s (t++a)
 |[],s,a,_,b=>by simpa using b
 |x::t,s,a,h,b=>by have c:=h [] x t rfl;rw[il]at c;refine AD.cons c (AD.app (t:=t) (fun t1 u t2 e=>?_)<|by simpa using b);obtain⟨w,d,g⟩:=h (x::t1) u t2 (by rw[e];rfl);exact⟨w,by simpa using d,g⟩
def qzn{f:cb}(j:m7 f):∀(k:Nat)(o:X Int)(v:Int),Seen f o->fU f v->v ∉ o->f.D6.length-o.length<=k->
  ∃t,O5 f k o v=o++v::t/\AD f (o++[v]) t/\∀u∈t,EM f v u
 |0,o,v,p,i,m,B=>by have c:=(p.snoc i m).len;simp only[zU,zO,zS]at c;omega
 |k+1,o,v,p,i,m,B=>by
  have x:=p.snoc i m;have C:=x.len;simp only[zU,zO,zS]at C;have key:∀(l:X aL),(∀a∈l,a∈(nd f v).E2/\fU f a.To)->∀(t0:X Int),Seen f (o++v::t0)->AD f (o++[v]) t0->(∀u∈t0,EM f v u)->
    ∃t,l.foldl (jH<|O5 f k) (o++v::t0)=o++v::t/\AD f (o++[v]) t/\∀u∈t,EM f v u:=by
   intro l;induction l with
   |nil=>intro _ t0 _ c h;exact⟨t0,rfl,c,h⟩|cons a l s=>
    intro r t0 n c h;have g:=r a ca;have w:=fun b A=>r b<|kj a A;simp only[oe];by_cases hm:a.To∈o++v::t0;have e:jH (O5 f k) (o++v::t0) a=o++v::t0:=by simp only[jH,hm,It]
    rw[e];exact s w t0 n c h;have e:jH (O5 f k) (o++v::t0) a=O5 f k (o++v::t0) a.To:=by simp only[jH,hm,LX]
    have D:(o++v::t0).length=o.length+1+t0.length:=by simp;omega
    obtain⟨t1,d1,d2,d3⟩:=qzn j k (o++v::t0) a.To n g.2 hm ag;obtain⟨q1,_⟩:=Lk j k (o++v::t0) a.To n g.2 hm ag;rw[e,d1];rw[d1]at q1;have y:o++v::t0++a.To::t1=o++v::(t0++a.To::t1):=by simp
    rw[y]at q1 ⊢;refine s w (t0++a.To::t1) q1 (c.app<|AD.cons ⟨v,by simp,a,g.1,rfl⟩<|by simpa using d2) fun u d=>?_;obtain d |d:=yD.1 d
    exact h u d;obtain rfl |d:=zI.1 d;exact .one g.1;exact(EM.one g.1).trans (d3 u d)
  obtain⟨t,g1,g2,z⟩:=key (R5 f v) (fun a q=>⟨tI.1 q,by have c:=(j _ (xZ i).2).O9 a (tI.1 q);exact⟨c.2.1,c.2.2⟩⟩) [] x (AD.nil _ _) ca;exact⟨t,g1,g2,z⟩
def z6h{f:cb}(d:m7 f){r:Int}(e:fU f r):∃t,bQ f r=r::t/\AD f [r] t/\∀u∈t,EM f r u:=by obtain⟨t,a,b,c⟩:=qzn d f.D6.length [] r (Seen.nil f) e ca ca;exact⟨t,a,b,c⟩
end Go.Proofs
namespace Go.Proofs
open Go Go.Rx Go.Vx
def Lj(f g:cb):X aU:=f.D6++g.D6.map (Rk f.D6.length)
def Sl(f g:cb):(Lj f g).length=f.D6.length+g.D6.length:=by simp[Lj]
variable{f:cb}{g:cb}{i:Nat}
def yj(h:i<f.D6.length):(Lj f g)[i]? = f.D6[i]?:=by rw[Lj,kl h]
def yi:(Lj f g)[f.D6.length+i]? = (g.D6[i]?).map (Rk f.D6.length):=by rw[Lj,kq ag,nv,vz]
variable{v:Int}
def U6{o:X Int}(k:o.Nodup)(h:o[i]? = some v):o.idxOf v=i:=by obtain⟨b,c⟩:=zG.1 h;have hm:v∈o:=c ▸ kG b;have a:=idxOf_lt_length_iff.2 hm;have d:=zc a;have j:=pairwise_iff_getElem.1 k;obtain e |e |e:=Nat.lt_trichotomy (o.idxOf v) i;exact absurd (d.trans c.symm)<|j _ _ a b e;exact e;exact absurd (c.trans d.symm) (j _ _ b a e)
def EM.rc{u:Int}(h:EM f u v):Rc f u v:=by induction h with|one a=>exact(Rc.refl f _).snoc a|snoc _ a b=>exact b.snoc a
def ud(b:m7 f){r:Int}(c:fU f r):∀v∈bQ f r,Rc f r v:=fun v a=>by
 obtain⟨t,e,_,h⟩:=z6h b c;rw[e]at a;obtain rfl |a:=zI.1 a;exact Rc.refl f _;exact(h v a).rc
structure yn(g:cb)(r:Int):Prop where
 nd:(bQ g r).Nodup
 W4:∀v∈bQ g r,fU g v
 hd:(bQ g r)[0]? = some r
 pos:0<(bQ g r).length
 at_:∀(i:Nat)(v:Int),(bQ g r)[i]? = some v->(bX g r).D6[i]? = some (gQ g (bQ g r) v)
 W7:∀v∈bQ g r,∀a∈(Go.Proofs.nd g v).E2,a.To∈bQ g r
 O9:∀v∈bQ g r,∀a,a∈(gQ g (bQ g r) v).E2↔∃b∈(Go.Proofs.nd g v).E2,a=⟨b.D9,((bQ g r).idxOf b.To:Int)⟩
def L_(e:m7 g){r:Int}(j:fU g r):yn g r:=by obtain⟨o,_⟩:=H6 e j;obtain⟨t,d⟩:=o.head;refine⟨o.seen.nd,o.seen.W4,by rw[d];rfl,by rw[d];simp,fun i v h=>by simp[bX,h],o.W7,fun v k a=>?_⟩;simp only[gQ,gf];constructor;rintro⟨b,c,rfl⟩;exact⟨b,tI.1 c,rfl⟩;rintro⟨b,c,rfl⟩;exact⟨b,tI.2 c,rfl⟩
def Io{L:X aU}{q:Nat->Nat}(z:u7 L q)(t:∀(j:Nat)(c:aU)(a:aL),L[j]? = some c->a∈c.E2->0<=a.To/\a.To<(L.length:Int)){s:Int}{p:X Int}(h:Wk ⟨L⟩ v p s):∀{w k:Int},(0<=v/\v<(L.length:Int))->(0<=w/\w<(L.length:Int))->Wk ⟨L⟩ w p k->q v.toNat=q w.toNat->q s.toNat=q k.toNat:=by
 induction h with
 |nil v=>intro w k _ _ h e;cases h;exact e| @cons v s a p m D A=>
  intro w k C E h e;obtain⟨b,n,y,B⟩:=h.inv rfl;obtain⟨c,o⟩:=fJ (l:=L) (i:=v.toNat) ag;obtain⟨d,r⟩:=fJ (l:=L) (i:=w.toNat) ag;have u:nd ⟨L⟩ v=c:=by simp[nd,o]
  have x:nd ⟨L⟩ w=d:=by simp[nd,r]
  rw[u]at m;rw[x]at n;exact A (t _ c a o m) (t _ d b r n) B (z _ _ c d a b o r e m n y.symm)
def KG(a:X Nat)(f:cb):Prop:=∀x∈f.D6,0<=x.R/\x.R<(a.length:Int)
def yy{ws:X Nat}(n:m7 f)(o:m7 g)(k:KG ws f)(l:KG ws g):LG ws (Lj f g):=by
 have key:∀c∈Lj f g,m8 c.E2/\(∀a∈c.E2,0<=a.To/\a.To<((Lj f g).length:Int))/\0<=c.R/\c.R<(ws.length:Int):=fun c d=>by rw[Sl];obtain d |d:=yD.1 d;have:=n c d;exact⟨this.aR,fun a e=>by have:=this.O9 a e;omega,k c d⟩;obtain⟨x,j,rfl⟩:=mem_map.1 d;have:=o x j;refine⟨?_,fun a e=>?_,l x j⟩;have h:=this.aR;unfold m8 at h ⊢;simp only[Rk];rw[XN];exact h;obtain⟨b,m,rfl⟩:=mem_map.1 e;have:=this.O9 b m;simp only[oA];omega
 exact⟨fun c d=>(key c d).1,fun c d=>(key c d).2.1,fun c d=>(key c d).2.2⟩
def SL.ua{m:X Nat}{L:X aU}{b d:Nat}{j:A cb}(h:SL m L b d j):UA m L [(b,d)] b j:=by have l:∀q:Nat->Nat,GB q [(b,d)]->q b=q d:=fun q c=>c (b,d) ca;refine⟨fun e q c a=>h.no e q c<|l q a,fun f e=>?_⟩;obtain⟨k,Q,u,rfl⟩:=h.yes f e;exact⟨k,Q,⟨u.qg.hm,u.M6,fun i y n o=>(u.qg.kd (k i) y o (u.qg.rt i n).2).1,fun p a=>by simp at a;subst a;exact u.eq,fun q c a=>u.low q c<|l q a⟩,rfl⟩
section
variable{ws:X Nat}{N:X PN}{f g:Nat}
def CH(o1 a:X Int)(i:Nat):Nat:=if i<o1.length then((o1[i]?).getD 0).toNat else((a[i-o1.length]?).getD 0).toNat
def Kl{a b:X Int}(h:a[i]? = some v):CH a b i=v.toNat:=by rw[CH,kh (zG.1 h).1,h];rfl
def Kk{o1 a:X Int}(h:a[i]? = some v):CH o1 a (o1.length+i)=v.toNat:=by rw[CH,iy ag,nv,h];rfl
def zau(co:CO N)(hk:∀x∈N,0<=x.kind/\x.kind<(ws.length:Int))(hw:∀w∈ws,w≠0)(HI:f<N.length)(Fi:g<N.length)(shr:∀x:Nat,Rc (core N) f x->Rc (core N) g x->∃p,Wk (core N) f p x/\Wk (core N) g p x){R:A cb}(h:SL ws (core N).D6 f g R):
  UA ws (Lj (bX (core N) f)<|bX (core N) g) [(0,(bX (core N) f).D6.length)] 0 R:=by
 have G:=co.M6;have fB:=jI N;have ia:fU (core N) (f:Int):=⟨by omega,by omega⟩;have ib:fU (core N) (g:Int):=⟨by omega,by omega⟩;have v11:=L_ G ia;have B:=L_ G ib;have CA:=Bd G ia;have CB:=Bd G ib;have Q:(bX (core N) f).D6.length=(bQ (core N) f).length:=CA.len;have lb:(bX (core N) g).D6.length=(bQ (core N) g).length:=CB.len;have P:∀v,fU (core N) v->0<=(nd (core N) v).R/\(nd (core N) v).R<(ws.length:Int):=fun v m=>by obtain⟨x,F,e⟩:=mem_map.1 (xZ m).2;rw[<-e];exact hk x F
 have ka:KG ws (bX (core N) f):=fun x F=>by simp only[bX]at F;obtain⟨v,m,rfl⟩:=mem_map.1 F;exact P v (v11.W4 v m)
 have kb:KG ws (bX (core N) g):=fun x F=>by simp only[bX]at F;obtain⟨v,m,rfl⟩:=mem_map.1 F;exact P v (B.W4 v m)
 have hlg:LG ws (core N).D6:=⟨fun c O=>(G c O).aR,fun c O a r=>((G c O).O9 a r).2,fun c O=>by obtain⟨x,F,rfl⟩:=mem_map.1 O;exact hk x F⟩;have ot:=yy (ws:=ws) CA.ok CB.ok ka kb;have iV:(Lj (bX (core N) f)<|bX (core N) g).length=(bQ (core N) f).length+(bQ (core N) g).length:=by rw[Sl,Q,lb]
 have kR:∀(j:Nat)(c:aU)(a:aL),(Lj (bX (core N) f)<|bX (core N) g)[j]? = some c->a∈c.E2->0<=a.To/\a.To<((Lj (bX (core N) f)<|bX (core N) g).length:Int):=fun j c a I r=>ot.to c (zX I) a r;have at_:∀i,i<(bQ (core N) f).length+(bQ (core N) g).length->∃(v:Int)(c:aU),fU (core N) v/\CH (bQ (core N) f) (bQ (core N) g) i=v.toNat/\(Lj (bX (core N) f)<|bX (core N) g)[i]? = some c/\c.R=(nd (core N) v).R/\
   (∀a∈c.E2,∃b∈(nd (core N) v).E2,a.D9=b.D9/\b.To=(CH (bQ (core N) f) (bQ (core N) g) a.To.toNat:Int))/\(∀b∈(nd (core N) v).E2,∃a∈c.E2,a.D9=b.D9/\b.To=(CH (bQ (core N) f) (bQ (core N) g) a.To.toNat:Int)):=fun i C=>by
  by_cases n:i<(bQ (core N) f).length;obtain⟨v,m⟩:=fJ n;have t:=zX m;have key:∀b∈(nd (core N) v).E2,b.To=(CH (bQ (core N) f) (bQ (core N) g) ((((bQ (core N) f).idxOf b.To:Nat):Int)).toNat:Int):=fun b o=>by have hm:=v11.W7 v t b o;have:=(v11.W4 _ hm).1;rw[zZ,Kl<|Bo hm];omega
  refine⟨v,gQ (core N) (bQ (core N) f) v,v11.W4 v t,Kl m,by rw[yj ag];exact v11.at_ i v m,rfl,fun a r=>?_,fun b o=>?_⟩;obtain⟨b,o,rfl⟩:=(v11.O9 v t a).1 r;exact⟨b,o,rfl,key b o⟩;exact⟨_,(v11.O9 v t _).2 ⟨b,o,rfl⟩,rfl,key b o⟩;obtain⟨v,m⟩:=fJ (l:=bQ (core N) g) (i:=i-(bQ (core N) f).length) ag;have t:=zX m;have J:i=(bQ (core N) f).length+(i-(bQ (core N) f).length):=by omega
  have key:∀b∈(nd (core N) v).E2,b.To=(CH (bQ (core N) f) (bQ (core N) g) ((((bQ (core N) g).idxOf b.To:Nat):Int)+((bX (core N) f).D6.length:Int)).toNat:Int):=fun b o=>by have hm:=B.W7 v t b o;have:=(B.W4 _ hm).1;rw[show((((bQ (core N) g).idxOf b.To:Nat):Int)+((bX (core N) f).D6.length:Int)).toNat=(bQ (core N) f).length+(bQ (core N) g).idxOf b.To by omega,Kk<|Bo hm];omega
  refine⟨v,Rk (bX (core N) f).D6.length (gQ (core N) (bQ (core N) g) v),B.W4 v t,by rw[J];exact Kk m,by rw[J,<-Q,yi,Q,B.at_ _ v m];rfl,rfl,fun a r=>?_,fun b o=>?_⟩;obtain⟨a0,xO,rfl⟩:=mem_map.1 r;obtain⟨b,o,rfl⟩:=(B.O9 v t a0).1 xO;exact⟨b,o,rfl,key b o⟩;exact⟨_,W2<|(B.O9 v t _).2 ⟨b,o,rfl⟩,rfl,key b o⟩
 have inl:∀{j:Nat}{c:aU},(Lj (bX (core N) f)<|bX (core N) g)[j]? = some c->j<(bQ (core N) f).length+(bQ (core N) g).length:=fun h=>by have:=(zG.1 h).1;omega
 have H:∀(v:Int)(y:aU),fU (core N) v->(core N).D6[v.toNat]? = some y->y=nd (core N) v:=fun v y m E=>by simp[nd,E]
 have hm:Hm ws (Lj (bX (core N) f)<|bX (core N) g) (core N).D6 (CH (bQ (core N) f)<|bQ (core N) g):=by
  refine⟨fun i C=>?_,fun i c a C r=>?_,fun i y b C E o=>?_,fun i y C E k=>?_⟩;obtain⟨v,c,n,s,_⟩:=at_ i ag;rw[s];have:=n.1;have:=n.2;omega;obtain⟨v,c',n,s,K,h4,h5,h6⟩:=at_ i<|inl C;rw[C]at K;cases K;obtain⟨b,o,U,V⟩:=h5 a r;have:=n.1;have:=n.2;obtain⟨y,E⟩:=fJ (l:=(core N).D6) (i:=v.toNat) ag;have e:=H v y n E;exact⟨y,b,by rw[s];exact E,by rw[e];exact o,U.symm,V⟩;obtain⟨v,c,n,s,K,h4,h5,h6⟩:=at_ i ag;rw[s]at E;rw[H v y n E]at o;obtain⟨a,r,U,V⟩:=h6 b o;exact⟨i,c,a,K,rfl,r,U.symm,V⟩;obtain⟨v,c,n,s,K,h4,_⟩:=at_ i ag;rw[s]at E;rw[H v y n E];constructor;intro q j d I z;obtain⟨v',d',S,T,k3,k4,_⟩:=at_ j<|inl I;rw[I]at k3;cases k3;have:v'=v:=by rw[s,T]at z;have:=n.1;have:=S.1;omega
  rw[k4,this];exact q;intro q;rw[<-h4];exact q i c K rfl
 have wl:∀{v w:Int}{p:X Int},Wk (core N) v p w->v∈bQ (core N) f->w∈bQ (core N) f/\Wk ⟨Lj (bX (core N) f)<|bX (core N) g⟩ ((bQ (core N) f).idxOf v:Int) p ((bQ (core N) f).idxOf w:Int):=fun{v w p} h=>by
  induction h with
  |nil v=>intro m;exact⟨m,.nil _⟩| @cons v w a p r hw ih=>
   intro m;obtain⟨n,s⟩:=ih<|v11.W7 v m a r;refine⟨n,Wk.cons (a:=⟨a.D9,((bQ (core N) f).idxOf a.To:Int)⟩) ?_ s⟩;have C:=idxOf_lt_length_iff.2 m;have:(Lj (bX (core N) f)<|bX (core N) g)[(bQ (core N) f).idxOf v]? = some (gQ (core N) (bQ (core N) f) v):=by rw[yj ag];exact v11.at_ _ v (Bo m)
   rw[nd,zZ];simp only[this,gK];exact(v11.O9 v m _).2 ⟨a,r,rfl⟩
 have wr:∀{v w:Int}{p:X Int},Wk (core N) v p w->v∈bQ (core N) g->w∈bQ (core N) g/\Wk ⟨Lj (bX (core N) f)<|bX (core N) g⟩ ((bQ (core N) g).idxOf v+(bX (core N) f).D6.length:Int) p ((bQ (core N) g).idxOf w+(bX (core N) f).D6.length:Int):=fun{v w p} h=>by
  induction h with
  |nil v=>intro m;exact⟨m,.nil _⟩| @cons v w a p r hw ih=>
   intro m;obtain⟨n,s⟩:=ih<|B.W7 v m a r;refine⟨n,Wk.cons (a:=oA (bX (core N) f).D6.length ⟨a.D9,((bQ (core N) g).idxOf a.To:Int)⟩) ?_ s⟩;have:(Lj (bX (core N) f)<|bX (core N) g)[(bX (core N) f).D6.length+(bQ (core N) g).idxOf v]? = some (Rk (bX (core N) f).D6.length (gQ (core N) (bQ (core N) g) v)):=by rw[yi,B.at_ _ v<|Bo m];rfl
   rw[nd,show((bQ (core N) g).idxOf v+(bX (core N) f).D6.length:Int).toNat=(bX (core N) f).D6.length+(bQ (core N) g).idxOf v by omega];simp only[this,gK];exact W2 ((B.O9 v m _).2 ⟨a,r,rfl⟩)
 have za:(bQ (core N) f).idxOf (f:Int)=0:=U6 v11.nd v11.hd;have zb:(bQ (core N) g).idxOf (g:Int)=0:=U6 B.nd B.hd;have ma:(f:Int)∈bQ (core N) f:=zX v11.hd;have mb:(g:Int)∈bQ (core N) g:=zX B.hd;have p0:CH (bQ (core N) f) (bQ (core N) g) 0=f:=by rw[Kl v11.hd];omega
 have p1:CH (bQ (core N) f) (bQ (core N) g) (bX (core N) f).D6.length=g:=by have:=Kk (o1:=bQ (core N) f) B.hd;rw[ek]at this;rw[Q,this];omega
 have two:∀q,u7 (Lj (bX (core N) f)<|bX (core N) g) q->GB q [(0,(bX (core N) f).D6.length)]->∀i j,i<(bQ (core N) f).length->j<(bQ (core N) g).length->CH (bQ (core N) f) (bQ (core N) g) i=CH (bQ (core N) f) (bQ (core N) g) ((bQ (core N) f).length+j)->q i=q ((bQ (core N) f).length+j):=fun q M D i j C I z=>by
  obtain⟨v,m⟩:=fJ C;obtain⟨w,u⟩:=fJ I;have t:=zX m;have KC:=zX u;rw[Kl m,Kk u]at z;have v0:=(v11.W4 v t).1;have w0:=(B.W4 w KC).1;have e:v=w:=by omega
  subst e;have r1:=ud G ia v t;have r2:=ud G ib v KC;have ev:((v.toNat:Nat):Int)=v:=by omega
  obtain⟨p,S,T⟩:=shr v.toNat (by rw[ev];exact r1) (by rw[ev];exact r2);rw[ev]at S T;have g1:=(wl S ma).2;have g2:=(wr T mb).2;have:=Io M kR g1 (by rw[za];have:=v11.pos;omega) (by rw[zb];have:=B.pos;omega) g2 (by rw[za,zb];have:=D (0,(bX (core N) f).D6.length) ca;simpa using this);rw[U6 v11.nd m,U6 B.nd u,Q]at this;rw[show((j:Int)+((bQ (core N) f).length:Int)).toNat=(bQ (core N) f).length+j by omega,zZ]at this;exact this
 refine UA.tr (L:=(core N).D6) (W:=[(f,g)]) (φ:=CH (bQ (core N) f)<|bQ (core N) g) hw hlg hm ot (fun q M D i j C I z=>?_) (fun Z iL p D=>?_) (fun p D=>?_) (by have:=v11.pos;omega) (by rw[p0];exact h.ua);by_cases n:i<(bQ (core N) f).length<;>by_cases s:j<(bQ (core N) f).length;obtain⟨v,m⟩:=fJ n;obtain⟨w,u⟩:=fJ s;rw[Kl m,Kl u]at z;have v0:=(v11.W4 v<|zX m).1;have w0:=(v11.W4 w<|zX u).1;have e:v=w:=by omega
 subst e;rw[<-U6 v11.nd m,<-U6 v11.nd u];have Y:j=(bQ (core N) f).length+(j-(bQ (core N) f).length):=by omega
 rw[Y]at z ⊢;exact two q M D i _ n ag z;have J:i=(bQ (core N) f).length+(i-(bQ (core N) f).length):=by omega
 rw[J]at z ⊢;exact(two q M D j _ s ag z.symm).symm;have J:i=(bQ (core N) f).length+(i-(bQ (core N) f).length):=by omega
 have Y:j=(bQ (core N) f).length+(j-(bQ (core N) f).length):=by omega
 obtain⟨v,m⟩:=fJ (l:=bQ (core N) g) (i:=i-(bQ (core N) f).length) ag;obtain⟨w,u⟩:=fJ (l:=bQ (core N) g) (i:=j-(bQ (core N) f).length) ag;rw[J,Y,Kk m,Kk u]at z;have v0:=(B.W4 v<|zX m).1;have w0:=(B.W4 w<|zX u).1;have e:v=w:=by omega
 subst e;have g1:=U6 B.nd m;have g2:=U6 B.nd u;rw[show i=j by omega];simp at D;subst D;rw[p0,p1];exact iL (f,g) ca;simp at D;subst D;exact⟨0,(bX (core N) f).D6.length,by rw[p0,p1],by have:=v11.pos;omega,by have:=B.pos;omega,fun q _ M=>M (0,(bX (core N) f).D6.length) ca⟩
end
section
variable{ws:X Nat}
structure IJ(ws:X Nat)(f:cb):Prop where
 M6:m7 f
 kg:KG ws f
 ne:0<f.D6.length
 can:bX f 0=f
def UY.oF{L:X aU}{W:X (Nat×Nat)}{Z:Nat->Nat}{Q:cb}(y:UY ws L W Z Q)(l:∀(j:Nat)(c:aU)(a:aL),L[j]? = some c->a∈c.E2->0<=a.To/\a.To<(L.length:Int)){v w:Int}{p:X Int}(h:Wk Q v p w):(∃i,i<L.length/\v=(Z i:Int))->∃i,i<L.length/\w=(Z i:Int):=by
 induction h with
 |nil v=>exact id| @cons v w a p b n m=>
  rintro⟨i,d,rfl⟩;obtain⟨z,k⟩:=fJ<|y.hm.lt i d;have e:nd Q (Z i:Int)=z:=by simp[nd,k]
  rw[e]at b;obtain⟨j,c,a0,q1,q2,q3,q4,q5⟩:=y.hm.bw i z a d k b;have:=l j c a0 q1 q3;exact m ⟨a0.To.toNat,by omega,q5⟩
def ZM{L:X aU}(d:LG ws L){W:X (Nat×Nat)}{r:Nat}(l:r<L.length){u:cb}(h:UA ws L W r (some u)):IJ ws u:=by
 obtain⟨Z,Q,y,rfl⟩:=h.yes u rfl;have b:fU Q (Z r:Int):=⟨by omega,by have:=y.hm.lt r l;omega⟩;have C:=Bd y.M6 b;refine⟨C.ok,fun x m=>?_,C.pos,(qnv y.M6 b).1⟩;simp only[bX]at m;obtain⟨v,t,rfl⟩:=mem_map.1 m;obtain⟨p,s⟩:=ud y.M6 b v t;obtain⟨i,k,rfl⟩:=y.oF (fun j c a q o=>d.to c (zX q) a o) s ⟨r,l,rfl⟩;obtain⟨z,n⟩:=fJ<|y.hm.lt i k;have e:nd Q (Z i:Int)=z:=by simp[nd,n]
 simp only[gQ,e];exact y.ty i z k n
end
section
variable{H:dK}{ws:X Nat}{P:PP}{c:X cb}
def z7h{l:X aL}(d:m8 l)(h:∀a∈l,0<=a.D9/\a.D9<1000):l.length<=1000:=by
 have:=Ol (R:=fun(i:Nat) (x:Int)=>x=(i:Int)) (fun i x y j k=>ag) (List.range 1000) (l.map aL.D9) (by
  unfold Nodup;rw[XN];exact d) fun x e=>by
  obtain⟨a,b,rfl⟩:=mem_map.1 e;have:=h a b;exact⟨a.D9.toNat,mem_range.2 ag,by omega⟩
 simpa using this
structure yf(ws:X Nat)(z e:Nat)(f:cb):Prop where
 ok:IJ ws f
 nl:f.D6.length<=z
 al:∀x∈f.D6,x.E2.length<=1000
 ft:∀x∈f.D6,∀a∈x.E2,a.D9<1000
variable{f:cb}
def AV.rd{l:X (X Int)}{E:X Jn}{T:Nat}(p:AV H ws P c l E T){k:Nat}(h:c[k]? = some f):yf ws l.length E.length f:=by
 obtain⟨r,o,z,rfl⟩:=p.has.at_ k f h;have co:=p.has.co;have m:fU (core P.N) (r:Int):=⟨by omega,by rw[jI];omega⟩;have C:=Bd co.M6 m;have v11:=L_ co.M6 m;have u:=zX o;have d:∀x∈(bX (core P.N) r).D6,(0<=x.R/\x.R<(ws.length:Int))/\m8 x.E2/\∀a∈x.E2,0<=a.D9/\a.D9<1000:=fun x j=>by
  refine⟨?_,(C.ok x j).aR,fun a s=>?_⟩
  all_goals
   simp only[bX]at j;obtain⟨v,n,rfl⟩:=mem_map.1 j;obtain⟨y,B,e⟩:=mem_map.1 (xZ<|v11.W4 v n).2
  rw[show(gQ (core P.N) (bQ (core P.N) r) v).R=(nd (core P.N) v).R from rfl,<-e];exact p.kr y B;obtain⟨b,A,rfl⟩:=(v11.O9 v n a).1 s;rw[<-e]at A;obtain⟨a0,t,rfl⟩:=mem_map.1 A;exact p.ft y B a0 t
 refine⟨⟨C.ok,fun x j=>(d x j).1,C.pos,(qnv co.M6 m).1⟩,?_,fun x j=>z7h (d x j).2.1 (d x j).2.2,fun x j a s=>((d x j).2.2 a s).2⟩;rw[C.len];refine Ol (R:=fun(q:X Int) (v:Int)=>Wk (core P.N) (r:Int) q v) (fun q v w o z=>Wk.CZ co.M6 z m o) l _ v11.nd fun v n=>?_;have F:=(v11.W4 v n).1;have e:((v.toNat:Nat):Int)=v:=by omega
 have:=ud co.M6 m v n;rw[<-e]at this;obtain⟨q,D,w⟩:=p.r5 r u v.toNat this;exact⟨q,D,by rw[e]at w;exact w⟩
structure PB(H:dK)(ws:X Nat)(P:PP)(c:X cb)(z e j:Nat):Prop where
 ex:∃v08 E T,AV H ws P c v08 E T/\v08.length<=z/\E.length<=e/\T<=1152*j
 gen:P.gen<=(j:Int)+1
 nl:P.N.length<=96*j
 rl:c.length<=j
def PB.new:PB H ws (uT H) [] 0 0 0:=⟨⟨[],[],0,AV.new,zF _,zF _,zF _⟩,yv _,zF _,zF _⟩
variable{z e j:Nat}
def PB.has(p:PB H ws P c z e j):Has P c:=by obtain⟨_,_,_,h,_⟩:=p.ex;exact h.has
def PB.rd(p:PB H ws P c z e j){k:Nat}{f:cb}(h:c[k]? = some f):yf ws z e f:=by obtain⟨b,E,T,q,a,d,_⟩:=p.ex;have:=q.rd h;exact⟨this.ok,eb this.nl a,this.al,this.ft⟩
def PB.put(m:oE H ws)(p:PB H ws P c z e j)(B:j<=200)(b:tH H f):∃a,xV P f=some ((c.length:Int),a)/\PB H ws a (c++[f]) (z+f.D6.length) (e+12*f.D6.length) (j+1)/\a.N.length=P.N.length+f.D6.length:=by obtain⟨n,E,T,q,s,t,u⟩:=p.ex;have w:=p.gen;have x:=p.nl;have y:=p.rl;have A:=b.sm.nodes;obtain⟨a,h,d,g1,g2,o,r,k,l⟩:=zaz m q b ag (by rw[q.has.len];omega);rw[q.has.len]at g1;exact⟨a,g1,⟨⟨h,d,_,g2,by omega,by omega,by omega⟩,by rw[k];omega,by omega,by simp;omega⟩,l⟩
def PB.unify(t:oE H ws)(p:PB H ws P c z e j)(Z:j<=200)(hz:z<=96)(Y:e<=1152){n:Nat}(J:3000000<=n){a b:Nat}{l:cb}(G:c[a]? = some f)(I:c[b]? = some l):
  ∃d h,DK n P (a:Int) (b:Int)=some ((if d.isSome then(c.length:Int)else 0,d.isSome),h)/\UA ws (Lj f l) [(0,f.D6.length)] 0 d/\PB H ws h (c++d.toList) z e (j+1)/\P.N.length<=h.N.length/\(d=none->h.N.length=P.N.length)/\∀f,d=some f->h.N.length<=P.N.length+f.D6.length:=by
 obtain⟨m,E,T,q,C,D,R⟩:=p.ex;have S:=p.gen;have U:=p.nl;have V:=p.rl;obtain⟨O,u,L,rfl⟩:=q.has.at_ a f G;obtain⟨Q,y,M,rfl⟩:=q.has.at_ b l I;obtain⟨d,h,g1,g2,o,A,B,r,s⟩:=z41 t q ag ag ag (by rw[q.has.len];omega) J u y;rw[q.has.len]at g1;have F:=zau q.has.co q.kr (fun w K=>(t.ok w K).1) L M (fun x=>q.shr O (zX u) Q (zX y) x) g2;have hk:h.N.length<=P.N.length+96:=by obtain _|f:=d;have:=r rfl;omega;have W:=s f rfl;have:=(o.rd (k:=c.length) (f:=f) ca).nl;omega
 exact⟨d,h,g1,F,⟨⟨m,E,_,o,C,D,by omega⟩,by rw[A];omega,by omega,by cases d<;>simp<;>omega⟩,B,r,s⟩
def PB.read(p:PB H ws P c z e j){n:Nat}(a:j<=200)(b:3000000<=n){k:Nat}{f:cb}(h:c[k]? = some f):GW n P (k:Int)=some (f,true):=p.has.read (by have:=p.nl;omega) h
def PB.eq(p:PB H ws P c z e j)(d:z<=1000){n:Nat}(b:3000000<=n){k:Nat}(h:c[k]? = some f):UM n f f=some true:=by have:=p.rd h;have a:dC f 1000:=⟨eb this.nl d,this.al⟩;rw[qwz a a b,qvf.2 rfl];rfl
def tH.BN(b:oE H ws)(a:tH H f):IJ ws f:=⟨a.M6,fun x d=>by have:=(a.p9 x d).1;have:=b.tl;omega,a.ne,a.can⟩
end
def vf(y:aU):aY:=⟨-1,y.R,y.E2⟩
def Iq{L:X aU}{i:Nat}{y:aU}(h:L[i]? = some y):E5 (L.map vf) i=vf y:=by simp[E5,h]
def tcL{ws:X Nat}{L:X aU}{N:Nat}(o:L.length=N)(W:X (Int×Int)):TC ws N L W (L.map vf) id:=by subst o;refine⟨fun j c a l p=>⟨a,by rw[id,Iq l];exact p,rfl,fun _ _ _=>rfl⟩,fun i b m _ n=>?_,fun i m _ k=>?_⟩;obtain⟨y,d⟩:=fJ m;rw[Iq d]at n;exact⟨i,y,d,rfl,n⟩;obtain⟨y,d⟩:=fJ m;rw[Iq d];refine⟨fun h j c l e=>?_,fun h=>h i y d rfl⟩;have e:j=i:=e;subst e;rw[d]at l;cases l;exact h
variable{f:cb}
def ZU{g:cb}:vR f g.D6=(Lj f g).map vf:=by
 simp only[vR,Lj,LY,dT];congr 1;refine Wu fun y _=>?_;have:y.E2.map (oA 0)=y.E2:=by rw[show oA 0=id from funext fun a=>by simp[oA],Fh]
 simp[jX,vf,this]
variable{n:Nat}
def Qx{h:dK}{ws:X Nat}(o:oE h ws){g:cb}(K:m7 f)(L:m7 g)(kf:KG ws f)(N:KG ws g)(T:0<f.D6.length)(U:0<g.D6.length){B:Int}(b:lK (f.D6.length+g.D6.length) 0 B ws.length (vR f g.D6) id (fun _=>0))(S:M5 (vR f g.D6)+1<n)(Q:2000+f.D6.length+g.D6.length<n)
  {R:Rl×X aY×(Nat->Nat)×(Nat->Nat)} (H:kK (DT n h) n [((0:Int),(f.D6.length:Int))] (vR f g.D6) id (fun _=>0)=R):
  UA ws (Lj f g) [(0,f.D6.length)] 0 (if R.1=true then some (bX (cG R.2.1 R.2.2.1) ((R.2.2.1 0:Nat):Int))else none):=by
 have O:=yy K L kf N;have s:=Sl f g;have C:HW (f.D6.length+g.D6.length) ws (Lj f g):=⟨s,fun j c a E I=>by have:=O.to c (zX E) a I;rw[s]at this;exact this⟩;have u:fE (f.D6.length+g.D6.length) 0 B ws.length [((0:Int),(f.D6.length:Int))] (vR f g.D6) id (fun _=>0):=⟨b,fun p b=>by rw[mq]at b;subst b;exact⟨⟨by simp,by show(0:Int)<_;omega⟩,⟨by simp,by show(f.D6.length:Int)<_;omega⟩⟩⟩;have G:=tcL (ws:=ws) s [((0:Int),(f.D6.length:Int))];rw[<-ZU]at G;have m:[((0:Int),(f.D6.length:Int))].length+M5 (vR f g.D6)<n:=by simp only[zO,zS];omega
 obtain⟨F,z⟩:=OW (Xp o (n:=n) ag) C n _ _ _ _ 0 u G m;obtain⟨P,_,A⟩:=Sp (qu2 o (n:=n) ag) n _ _ _ _ 0 u m;have d:∀q,GB q [(0,f.D6.length)]->OD (f.D6.length+g.D6.length) [((0:Int),(f.D6.length:Int))] id q:=fun q b=>⟨fun i j _ _ e=>by cases e;rfl,fun p h=>by rw[mq]at h;subst h;exact b (0,f.D6.length)<|mem_singleton.2 rfl⟩;have l:=Oo (qu2 o (n:=n) ag) n _ _ _ _ 0 u m;rw[H]at F z A l;rcases k:R.1 with _|_;exact⟨fun _ q t b=>(z q t<|d q b).2 k,fun x w=>nomatch w⟩;have qg:=(F k).qg C A;have l:=l k ((0:Int),(f.D6.length:Int))<|mem_singleton.2 rfl;refine⟨(fun e=>nomatch e),fun x w=>?_⟩;cases w;refine⟨_,cG _ _,⟨qg.hm,A.M6,fun i y D M=>(qg.kd _ y M (qg.rt i D).2).1,fun p b=>?_,fun q t b i j D E J=>((z q t<|d q b).1 k).r i j ag ag J⟩,rfl⟩;rw[mq]at b;subst b;simpa using l
structure HT(H:dK)(ws:X Nat)(k:Nat)(c:X aY)(tl:X dN)(F:cb):Prop where
 ex:∃aA d D,lK c.length D (H.E3.length:Int) (ws.length:Int) c aA d/\D+M5 c<=150*k/\F=bX (cG c aA) ((aA 0:Nat):Int)
 pos:0<c.length
 nl:c.length<=12*k
 tl:tl.length<=2000*k
 ok:IJ ws F
def zbh(a b:X aY):M5 (a++b)=M5 a+M5 b:=by simp[M5]
def z97{H:dK}(a:tH H f)(k:Nat):M5 (f.D6.map<|jX k)<=144:=by
 have b:=S_ (cells:=f.D6.map<|jX k) fun c d=>by obtain⟨x,e,rfl⟩:=mem_map.1 d;simpa[jX]using a.sm.D8 x e
 have h:=a.sm.nodes;rw[yA]at b;omega
section
variable{H:dK}{ws:X Nat}{k:Nat}{c:X aY}{tl:X dN}{F f:cb}
def HT.new(h:oE H ws)(b:tH H f):HT H ws 1 (f.D6.map<|jX 0) [] f:=by
 have p:∀x∈f.D6.map (jX 0),Flat f.D6.length (H.E3.length:Int) (ws.length:Int) x:=fun x d=>by rw[<-h.tl];exact b.flat ag d
 have o:=lK.init (N:=f.D6.length) ca p;have j:=b.sm.nodes;have q:=z97 b 0;have e:cG (f.D6.map<|jX 0) id=f:=by
  have:∀x∈f.D6,CK id (jX 0 x)=x:=fun x d=>by
   have:(x.E2.map<|oA 0).map (nY id)=x.E2:=by
    rw[dT]
    conv=>rhs;rw[<-Jf x.E2]
    refine Wu fun a m=>?_;have:=b.to x d a m;cases a with
    |mk u v=>have r:0<=v:=this.1;simp only[Function.comp,nY,oA,rI,id,aL.mk.injEq,di];omega
   simp only[CK,jX,this]
  cases f with
  |mk l=>
   simp only[cG,dT,cb.mk.injEq]
   conv=>rhs;rw[<-Jf l]
   exact Wu fun x d=>this x d
 refine⟨⟨id,fun _=>0,0,by rw[yA];exact o,by omega,?_⟩,by simpa using b.ne,by simpa using j,qq _,b.BN h⟩;rw[e];exact b.can.symm
def HT.read(p:HT H ws k c tl F)(q:k<=5)(e:30000<=n)(m:X nP):Wo n 0 H.Types H.E3 c tl m=some (F,true):=by obtain⟨h,d,D,a,j,b⟩:=p.ex;have l:=p.pos;have o:=p.nl;rw[z5r a ag ag ag e (v:=0) ag H.Types H.E3 tl m,z6u a (n:=n) ag (v:=0) ag,b];rfl
def Xs(x:oE H ws){N D:Nat}{e d:Nat->Nat}(o:lK N D (H.E3.length:Int) (ws.length:Int) c e d)(u:0<N)(w:tH H f):
  bX (cG (c++f.D6.map (jX N))<|ext N e) ((ext N e 0:Nat):Int)=bX (cG c e) ((e 0:Nat):Int)/\Fr N (c++f.D6.map (jX N)) (c++f.D6.map (jX N)) (ext N e):=by
 have y:=z0h x o w;have z:=o.len;have p:∀{i:Nat},i<N->ext N e i=e i:=fun b=>kh b;have q:∀{i:Nat},i<N->E5 (c++f.D6.map (jX N)) i=E5 c i:=fun{i} b=>by rw[E5,kl ag];rfl
 have s:∀{i:Nat},i<N->∀a∈(E5 c i).D8,0<=a.To/\a.To<(N:Int):=fun{i} b a m=>by have:=((o.ar i (E5 c i)<|o.E5 b).ok a m);omega
 constructor;have B:Bi N c e (c++f.D6.map (jX N)) (ext N e) id:=by
  refine⟨fun i j b t=>by simp only[id];rw[p b,p t],fun i b r=>by simp only[id];rw[p b,r,q b],fun i b r=>?_⟩;simp only[id];rw[p b,r,q b];have:=nA.xN (R:=BR N (ext N e) id) (g:=id) (h:=id) (l:=(E5 c i).D8) fun a m=>⟨rfl,⟨s b a m,rfl⟩⟩
  rwa [Fh]at this
 have:=B.canon o y (fun i b=>by simp only[id];omega) (v:=0) u;exact this;refine⟨fun i b=>by rw[p b];exact o.b6.lt i b,fun i b a m=>?_,fun j t=>⟨iy ag,rfl⟩⟩;rw[q b]at m;exact(s b a m).2
def HT.step(I:oE H ws)(p:HT H ws k c tl F)(hk:k<=4)(r:tH H f)(hn:3000000<=n)(m:X nP)(t:Nat):
  ∃u c' iH M,UA ws (Lj F f) [(0,F.D6.length)] 0 u/\Wq n 0 (c.length:Int) H.Types H.E3 (c++f.D6.map (jX c.length)) tl t m=some (u.isSome,c',iH,M)/\HT H ws (k+1) c' iH (u.getD F):=by
 obtain⟨aA,d,D,hp,hD,O⟩:=p.ex;have S:=p.pos;have xI:=p.nl;have eT:=p.tl;have O8:=r.sm.nodes;have hfp:=r.ne;have L:=z0h I hp r;obtain⟨G2,eP⟩:=Xs I hp S r;have Q:=I;generalize WD:c++f.D6.map (jX c.length)=l at*;generalize vJ:ext c.length aA=e at*;generalize hd1:(fun i=>if i<c.length then d i else 0)=d1 at*;generalize hN:c.length=N at*;have E:l.length=N+f.D6.length:=L.len;have DC:M5 l<=M5 c+144:=by rw[<-WD,zbh];have:=z97 r N;omega
 have er:rI e 0=((e 0:Nat):Int):=rfl;have hC:∀(j:Nat)(y:aU),f.D6[j]? = some y->E5 l (N+j)=jX N y:=fun j y hy=>by rw[E5,<-WD,kq ag,vz,show N+j-c.length=j by omega,hy];rfl
 have kR:∀y∈f.D6,∀a∈y.E2,0<=a.To/\a.To<(f.D6.length:Int):=fun y hy a ha=>((r.M6 y hy).O9 a ha).2;obtain⟨o,ho⟩:∃o,o=bQ (cG l e) (rI e 0):=⟨_,rfl⟩;obtain⟨B,Yv,Yu,sK,_,FY⟩:=z9g L eP S (x:=f.D6) (zF _) hC kR ho;obtain⟨P,hts,s,_⟩:=Rj I L eP S (jG _ _) r ho;rw[er]at B P hts s;generalize Y:bX (cG l e) ((e 0:Nat):Int)=G at*;have eG:F=G:=O.trans G2.symm;subst eG;have Zl:fE (o.length+f.D6.length) 0 (H.E3.length:Int) (ws.length:Int) [((0:Int),(F.D6.length:Int))] (vR F f.D6) id (fun _=>0):=⟨P,fun q J=>by rw[mq]at J;subst J;exact⟨⟨by simp,by show(0:Int)<_;omega⟩,⟨by simp,by show(F.D6.length:Int)<_;omega⟩⟩⟩;have sU:fE (N+f.D6.length) D (H.E3.length:Int) (ws.length:Int) [((0:Int),(N:Int))] l e d1:=⟨L,fun q J=>by rw[mq]at J;subst J;exact⟨⟨by simp,by show(0:Int)<_;omega⟩,⟨by simp,by show(N:Int)<_;omega⟩⟩⟩;have Z:AE (BR (o.length+f.D6.length) e<|nr o N) [((0:Int),(F.D6.length:Int))] [((0:Int),(N:Int))]:=by refine⟨⟨⟨⟨by simp,by show(0:Int)<_;omega⟩,by simpa using Yu⟩,⟨⟨by simp,by show(F.D6.length:Int)<_;omega⟩,?_⟩⟩,trivial⟩;show e (nr o N (F.D6.length:Int).toNat)=e (N:Int).toNat;rw[s,zZ,zZ,nr,iy ag];congr 1;omega
 have vC:=qu2 I (n:=n) ag;obtain⟨R,V⟩:=Y? vC n _ _ _ _ _ _ _ _ 0 D Zl sU B Z;have w1:[((0:Int),(N:Int))].length+M5 l<n:=by simp only[zO,zS];omega
 have w2:[((0:Int),(F.D6.length:Int))].length+M5 (vR F f.D6)<n:=by simp only[zO,zS];omega
 obtain⟨D1,k1,z⟩:=Sp vC n _ _ _ _ D sU w1;obtain⟨D2,k2,hpS⟩:=Sp vC n _ _ _ _ 0 Zl w2;have w:=p.ok;have A:=r.BN Q;rw[<-s]at P;have U:=Qx Q w.M6 r.M6 w.kg A.kg w.ne hfp (n:=n) P ag ag rfl;have yW:=Q.fl;obtain⟨H1,H2⟩:=p? Q ag (n:=n) ag (p7:=tl) ag m l n [((0:Int),(N:Int))] l e d1 D [] t sU w1 (by simp only[zO,zS];omega) (fun x hx=>nomatch hx) rfl (by simp only[zO,zS];omega);rw[il]at H1 H2;have K:=z7f (h:=H) (tl:=tl) (m:=m) (n:=n) (t:=t) (c:=l) (a:=0) (b:=(N:Int)) ag ag;simp only[zO,zS]at k1;cases C:(kK (DT n H) n [((0:Int),(N:Int))] l e d1).1 with
 |false=>obtain⟨M,T⟩:=H2 C;rw[R,C,iy ca]at U;refine⟨none,l,tl,M,U,by rw[K,T];rfl,⟨⟨e,d1,D,by rw[E];exact L,by omega,Y.symm⟩,by omega,by omega,by omega,w⟩⟩
 |true=>obtain⟨iH,M,T,_,_,h4⟩:=H1 C;rw[R,C,kh rfl]at U;have W:=V (by rw[R,C]);have HM:=W.canon hpS z Yv (v:=0) ag;have Ft:=Tr (mt:=DT n H) n [((0:Int),(N:Int))] l e d1 Yu;rw[Ft]at HM;refine⟨_,_,_,M,U,by rw[K,T];rfl,⟨⟨_,_,D1,by rw[z.len];exact z,by omega,HM.symm⟩,by rw[z.len];omega,by rw[z.len];omega,by rw[zU];simp only[zO,zS]at h4;omega,ZM (yy w.M6 r.M6 w.kg A.kg) (by rw[Sl];omega) U⟩⟩
end
end Go.Proofs
namespace Go.Proofs
open Go Go.Rx Go.Vx Tryz
structure ExR(n:Nat)(H:dK)(a0 b0 a1 b1 a2 b2:aU)(f0 f1 f2:cb)(r0 r1 r2:Int×PP)(u v w:(Int×Rl)×PP)(g x:cb×Rl)(t1 t2:Rl×PP):Prop where
 hH:ct n=some H
 xO:NH n 0 [0,1]=some a0
 xU:NH n 1 []=some b0
 yE:Mc n [a0,b0]=some f0
 yI:xV (uT H) f0=some r0
 A0:r0.1=0
 BT:NH n 0 [0,1]=some a1
 yQ:NH n 0 []=some b1
 A3:Mc n [a1,b1]=some f1
 vJ:xV r0.2 f1=some r1
 A6:r1.1=1
 BY:NH n 0 [0,1]=some a2
 BZ:NH n 2 []=some b2
 B4:Mc n [a2,b2]=some f2
 C1:xV r1.2 f2=some r2
 vO:r2.1=2
 hu:DK n r2.2 0 1=some u
 x4:u.1.1=3/\u.1.2=true
 hg:GW n u.2 3=some g
 C2:g.2=true
 hv:DK n u.2 0 2=some v
 x5:v.1.1=0/\v.1.2=false
 he:UM n g.1 f0=some true
 DC:Af n v.2 1 2=some t1
 x6:t1.1=true
 D4:Af n t1.2 0 2=some t2
 x7:t2.1=false
 hw:DK n t2.2 1 2=some w
 x8:w.1.1=4/\w.1.2=true
 hx:GW n w.2 5=some x
 u4:x.2=false/\w.2.size>=2/\w.2.size<=10
def exR{n:Nat}(K:200<=n):∃H a0 i f j h k f0 f1 f2 B C D u v w g x t1 t2,ExR n H a0 i f j h k f0 f1 f2 B C D u v w g x t1 t2:=by have a:=De K;obtain⟨H,I,a⟩:=aK a;obtain⟨f0,b,a⟩:=aK a;obtain⟨B,s,a⟩:=aK a;obtain⟨v0,a⟩:=bY a;obtain⟨f1,c,a⟩:=aK a;obtain⟨C,t,a⟩:=aK a;obtain⟨v1,a⟩:=bY a;obtain⟨f2,d,a⟩:=aK a;obtain⟨D,y,a⟩:=aK a;obtain⟨P,a⟩:=bY a;obtain⟨u,L,a⟩:=aK a;obtain⟨S,a⟩:=bY a;obtain⟨g,J,a⟩:=aK a;obtain⟨R,a⟩:=bY a;obtain⟨v,M,a⟩:=aK a;obtain⟨T,a⟩:=bY a;obtain⟨e,G,a⟩:=aK a;obtain⟨Q,a⟩:=bY a;obtain⟨t1,z,a⟩:=aK a;obtain⟨E,a⟩:=bY a;obtain⟨t2,A,a⟩:=aK a;obtain⟨F,a⟩:=bY a;obtain⟨w,N,a⟩:=aK a;obtain⟨vw,a⟩:=bY a;obtain⟨x,O,a⟩:=aK a;obtain⟨U,a⟩:=bY a;obtain⟨a0,l,b⟩:=aK b;obtain⟨i,p,b⟩:=aK b;obtain⟨f,m,c⟩:=aK c;obtain⟨j,q,c⟩:=aK c;obtain⟨h,o,d⟩:=aK d;obtain⟨k,r,d⟩:=aK d;exact⟨H,a0,i,f,j,h,k,f0,f1,f2,B,C,D,u,v,w,g,x,t1,t2,I,l,p,b,s,v0,m,q,c,t,v1,o,r,d,y,P,L,S,J,R,M,T,by rw[Q]at G;exact G,z,E,A,F,N,vw,O,U⟩
def uu{m:Nat}:∀{a b:X U},aG m a->aG m b->aG m (a++b):=fun{a b} ha hb=>by
 rw[DS];intro u c;obtain c |c:=yD.1 c;exact(DS _ _).1 ha u c;exact(DS _ _).1 hb u c
def PL.live{b kp:Nat}{a:X (Nat×B)}{P:PP}{h:X (Nat×B)}{nx:Nat}(p:PL b a kp P h nx):Go.Vx.live ⟨h,nx⟩ kp 0=true:=by obtain⟨c,st,nm,q,_⟩:=p.ex;simp[Go.Vx.live,q.b5];rfl
def jx{n:Nat}(y:200<=n)(c:X (Nat×B))(b:Nat):aT prog 11 [] ⟨c,b⟩ (fun u s=>u=.bool true/\s=⟨c,b⟩):=by
 refine aT.wf fun J _=>?_;obtain⟨H,a0,a,e,i,f,j,f0,f1,f2,T,U,V,u,v,w,g,x,t1,t2,E⟩:=exR y;refine bg0 131 LS ?_;refine goN ?_;refine aM rfl (pC (qph n H E.hH) _) jq (lT rfl (iE rfl Hz rfl).2 (z8m H c b) rfl rfl ?_);rintro _ _ ⟨rfl,rfl⟩;have p0:PL b c (b+1) (uT H) (C5 H b c) (b+3):=z8n H (zF _) fun _ _=>rfl;refine goN ?_;refine RS.w rfl (Dg rfl rfl rfl (Xo G?.h p0.live rfl)) ?_;refine goN ?_;refine lT rfl (iE rfl SC rfl).2 (quz p0) rfl rfl ?_;rintro _ _ ⟨rfl,rfl⟩;refine goN ?_;refine EP rfl (fI.sV (cs:=[.i6 0,.i6 1]) (rs:=List.map (cI .i64) [0,1]) cf rfl iB.h nE.h rfl rfl rfl rfl rfl rfl rfl rfl rfl rfl rfl (by simp[aG,aS])) ?_;rintro _ _ ⟨rfl,rfl⟩;refine goN ?_;refine aM rfl (pC (UP n 0 [0,1] a0 E.xO) _) wH ?_;refine goN ?_;refine aM rfl (HZ (args':=[.i6 1,.O false []]) (.cons (.refl _)<|.cons (.nil false) .nil) (pC<|UP n 1 [] a E.xU) _) wH ?_;refine goN ?_;refine EP rfl (fI.sV (cs:=bL a0++bL a) (rs:=List.map bL [a0,a]) cf rfl rN.h sD.h rfl rfl rfl rfl rfl rfl rfl rfl rfl rfl rfl (uu (y7 0 _)<|y7 0 _)) ?_;rintro _ _ ⟨rfl,rfl⟩;refine goN ?_;refine aM rfl (pC (bn n [a0,a] f0 E.yE) _) LB ?_;refine goN ?_;refine lT rfl (iE rfl G6 rfl).2 (U_ (p0.up (nx':=b+5) ag) E.yI) rfl rfl ?_;rintro _ _ ⟨K,z,rfl,rfl,C⟩;rw[E.A0];refine goN ?_;refine EP rfl (fI.sV (cs:=[.i6 0,.i6 1]) (rs:=List.map (cI .i64) [0,1]) cf rfl iB.h nE.h rfl rfl rfl rfl rfl rfl rfl rfl rfl rfl rfl (by simp[aG,aS])) ?_;rintro _ _ ⟨rfl,rfl⟩;refine goN ?_;refine aM rfl (pC (UP n 0 [0,1] e E.BT) _) wH ?_;refine goN ?_;refine aM rfl (HZ (args':=[.i6 0,.O false []]) (.cons (.refl _)<|.cons (.nil false) .nil) (pC<|UP n 0 [] i E.yQ) _) wH ?_;refine goN ?_;refine EP rfl (fI.sV (cs:=bL e++bL i) (rs:=List.map bL [e,i]) cf rfl rN.h sD.h rfl rfl rfl rfl rfl rfl rfl rfl rfl rfl rfl (uu (y7 0 _)<|y7 0 _)) ?_;rintro _ _ ⟨rfl,rfl⟩;refine goN ?_;refine aM rfl (pC (bn n [e,i] f1 E.A3) _) LB ?_;refine goN ?_;refine lT rfl (iE rfl G6 rfl).2 (U_ (C.pl.up (nx':=z+2) ag) E.vJ) rfl rfl ?_;rintro _ _ ⟨L,A,rfl,rfl,D⟩;rw[E.A6];refine goN ?_;refine EP rfl (fI.sV (cs:=[.i6 0,.i6 1]) (rs:=List.map (cI .i64) [0,1]) cf rfl iB.h nE.h rfl rfl rfl rfl rfl rfl rfl rfl rfl rfl rfl (by simp[aG,aS])) ?_;rintro _ _ ⟨rfl,rfl⟩;refine goN ?_;refine aM rfl (pC (UP n 0 [0,1] f E.BY) _) wH ?_;refine goN ?_;refine aM rfl (HZ (args':=[.i6 2,.O false []]) (.cons (.refl _)<|.cons (.nil false) .nil) (pC<|UP n 2 [] j E.BZ) _) wH ?_;refine goN ?_;refine EP rfl (fI.sV (cs:=bL f++bL j) (rs:=List.map bL [f,j]) cf rfl rN.h sD.h rfl rfl rfl rfl rfl rfl rfl rfl rfl rfl rfl (uu (y7 0 _)<|y7 0 _)) ?_;rintro _ _ ⟨rfl,rfl⟩;refine goN ?_;refine aM rfl (pC (bn n [f,j] f2 E.B4) _) LB ?_;refine goN ?_;refine lT rfl (iE rfl G6 rfl).2 (U_ (D.pl.up (nx':=A+2) ag) E.C1) rfl rfl ?_;rintro _ _ ⟨M,R,rfl,rfl,F⟩;rw[E.vO];refine goN ?_;refine eD rfl (fun q=>absurd q cg) (fun _=>?_);refine goN ?_;refine lT rfl (iE rfl LC rfl).2 (su F.pl n E.hu) rfl rfl ?_;rintro _ _ ⟨N,k,rfl,rfl,p⟩;rw[E.x4.1,E.x4.2]
 haveI:ck k (k+1):=⟨rfl⟩
 refine goN ?_;refine lT rfl (iE rfl SB rfl).2 (E' p.pl n E.hg) rfl rfl ?_;rintro _ _ ⟨rfl,rfl⟩;rw[E.C2];refine goN ?_;refine lT rfl (iE rfl LC rfl).2 (su (p.pl.more _) n E.hv) rfl rfl ?_;rintro _ _ ⟨t,S,rfl,rfl,r⟩;rw[E.x5.1,E.x5.2]
 haveI:fP t k (.row [.iM bL g.1.D6] 39):=⟨r.np _ _ (zN _) (by rw[aV,kh rfl];rfl) ⟨nofun,nofun,nofun⟩⟩
 refine goN ?_;obtain⟨O,l,G⟩:=qxe r.pl n E.DC;obtain⟨P,m,I⟩:=qxe G.pl n E.D4;rw[E.x6]at l;rw[E.x7]at m
 haveI:i8 0 (bL a0++bL a):=⟨uu (y7 0 _)<|y7 0 _⟩
 refine dE [] ?_;refine cX ?_;refine RD.l_ (u:=.O false<|List.map (cI .i64) [0,1]) (by exact Go.Vx.wA) (uY.bs (cs:=[.i6 0,.i6 1]) iB.h nE.h rfl rfl rfl rfl rfl rfl rfl rfl rfl) rfl rfl ?_;refine cX ?_;refine eA rfl (pC<|UP n 0 [0,1] a0 E.xO) wH ?_;refine cX ?_;refine eA rfl (HZ (args':=[.i6 1,.O false []]) (.cons (.refl _)<|.cons (.nil false) .nil)<|pC<|UP n 1 [] a E.xU) wH ?_;refine cX ?_;refine RD.l_ (u:=.O false<|List.map bL [a0,a]) (by exact Go.Vx.wA) (uY.bs (cs:=bL a0++bL a) rN.h sD.h rfl rfl rfl rfl rfl rfl rfl rfl rfl) rfl rfl ?_;refine cX ?_;refine eA rfl (pC<|bn n [a0,a] f0 E.yE) LB ?_;refine cX ?_;refine eA rfl (pC<|Yx n g.1 f0 true E.he) SA ?_;refine cX ?_;refine D7 (by exact Go.Vx.wA) (iE rfl Hy rfl).2 l rfl rfl ?_;refine cX ?_;refine D7 (by exact Go.Vx.wA) (iE rfl Hy rfl).2 m rfl rfl ?_;refine cX ?_;refine bC ⟨by kernel_rfl,trivial,?_⟩;refine goN ?_;refine eD rfl (fun q=>absurd q cg) (fun _=>?_);refine goN ?_;refine lT rfl (iE rfl LC rfl).2 (su I.pl n E.hw) rfl rfl ?_;rintro _ _ ⟨Q,o,rfl,rfl,d⟩;rw[E.x8.1,E.x8.2]
 haveI:ck o (o+1):=⟨rfl⟩
 refine goN ?_;refine lT rfl (iE rfl SB rfl).2 (E' d.pl n E.hx) rfl rfl ?_;rintro _ _ ⟨rfl,rfl⟩;rw[E.u4.1];refine goN ?_;refine lT rfl (iE rfl SC rfl).2 (quz<|d.pl.more _) rfl rfl ?_;rintro _ _ ⟨rfl,rfl⟩;refine goN ?_;rw[jl E.u4.2.1];refine goN ?_;refine lT rfl (iE rfl SC rfl).2 (quz<|d.pl.more _) rfl rfl ?_;rintro _ _ ⟨rfl,rfl⟩;refine goN ?_;rw[jl E.u4.2.2];refine goN ?_;exact I_ J rfl rfl rfl (d.pl.more _).lo (d.pl.more<|.row (jQ x.1) 39).le (by simp[aS]) ⟨rfl,rfl⟩
def Kb(K:Nat)(H:dK)(t1 t2 t3 a b c:Nat):B:=.row [.iM jV H.Types,.iM mQ H.E3,.vl (K+1) t1 0 a,.vl (K+2) t2 0 b,.vl (K+3) t3 0 c] 124
def MG(H:dK)(nx:Nat)(h:X (Nat×B)):X (Nat×B):=(nx+4,.bv B7 [] 284 2 0)::(nx+3,.bv mU [] 171 4 0)::(nx+2,.bv g9 [] 126 3 0)::(nx+1,Kb (nx+1) H 0 0 0 0 0 0)::(nx,.row (kO H) 27)::h
def zbg(H:dK)(h:X (Nat×B))(nx:Nat):aT prog 28 [.agg<|kO H] ⟨h,nx⟩ (fun u b=>u=.ptr (nx+1) 0 0/\b=⟨MG H nx h,nx+5⟩):=by
 haveI:ck nx (nx+1):=⟨rfl⟩
 haveI:ck (nx+1) (nx+2):=⟨rfl⟩
 refine m6 6 ju ?_;refine goN ?_;refine RS.w (u:=.agg [.iM jV H.Types,.iM mQ H.E3,.J,.J,.J]) rfl (d? vm.h rfl rfl rfl) ?_;refine goN ?_;have a:nx<=nx+2:=by omega
 refine Pn (w:=.ptr (nx+1) 0 0) (Y2:=⟨MG H nx h,nx+5⟩) rfl rfl rfl (by show nx<=nx+5;omega)
  (Gh.trans (AG (Y:=⟨(nx+1,.row [.iM jV H.Types,.iM mQ H.E3,.J,.J,.J] 124)::(nx,.row (kO H) 27)::h,nx+2⟩) (nx+1) 2 126 3 cg a (by rw[aV,kh rfl]) rfl)
  (Gh.trans (AG (nx+1) 3 171 4 cg (XK a) (by simp[cc,aV,bT,ug,beq_eq];exact⟨rfl,rfl⟩) rfl)
  (Gh.trans (AG (nx+1) 4 284 2 cg (XK<|XK a) (by simp[cc,aV,bT,ug,beq_eq];exact⟨rfl,rfl⟩) rfl)<|Gh.eqv rfl ?_))) ⟨rfl,rfl⟩
 simp[cc,ug,beq_eq,MG,Kb];rw[show decide (nx+2+1=nx)=false from eJ ag];rfl
structure AT(n0:Nat)(h0:X (Nat×B))(kp:Nat)(P:PP)(h:X (Nat×B))(nx K:Nat)(H:dK)(c:X aY)(tl:X dN):Prop where
 pl:PL n0 h0 kp P h nx
 ge:n0<=K
 lt:K+3<nx
 ex:∃t1 t2 t3,gt h K=some (Kb K H t1 t2 t3 c.length tl.length 0)/\gt h (K+1)=some (.bv g9 c 126 3 t1)/\gt h (K+2)=some (.bv mU tl 171 4 t2)/\gt h (K+3)=some (.bv B7 [] 284 2 t3)
section
variable{n0:Nat}{h0:X (Nat×B)}{kp:Nat}{P d:PP}{h h':X (Nat×B)}{nx nx' K:Nat}{H:dK}{c c':X aY}{tl g:X dN}
def z8p{l:X U}:NP (.row l 124):=⟨nofun,nofun,nofun⟩
def Lb{l:X U}{e:TypeId}{s t:Nat}(a:e≠92):NP (.vec l e s t):=⟨nofun,nofun,fun _ _ _ h=>a<|by injection h⟩
def AT.move(a:AT n0 h0 kp P h nx K H c tl)(s:PS n0 h0 kp d h nx h' nx'):AT n0 h0 kp d h' nx' K H c tl:=by obtain⟨t1,t2,t3,b,g1,g2,e⟩:=a.ex;have:=a.lt;have:=s.le;exact⟨s.pl,a.ge,by omega,t1,t2,t3,s.np _ _ ag b z8p,s.np _ _ ag g1<|Lb cg,s.np _ _ ag g2<|Lb cg,s.np _ _ ag e<|Lb cg⟩
def AT.more(a:AT n0 h0 kp P h nx K H c tl)(b:B):AT n0 h0 kp P ((nx,b)::h) (nx+1) K H c tl:=by obtain⟨t1,t2,t3,e,g1,g2,f⟩:=a.ex;have:=a.lt;exact⟨a.pl.more b,a.ge,by omega,t1,t2,t3,by rw[jU ag];exact e,by rw[jU ag];exact g1,by rw[jU ag];exact g2,by rw[jU ag];exact f⟩
def okN4(b:K+3<nx):Om [K,K+1,K+2,K+3] nx=true:=by
 have a:∀i,i<nx->blt i nx=true:=fun i e=>by rw[tp];exact e
 simp only[Om,MJ,beq_eq,a K ag,a (K+1) ag,a (K+2) ag,a (K+3) b,zC,zD];simp
def Y4(K:Nat)(H:dK)(c:X aY)(tl:X dN)(t1 t2 t3:Nat)(h:X (Nat×B)):X (Nat×B):=
 ug (ug (ug (ug h (K+3)<|.bv B7 [] 284 2 t3) (K+2)<|.bv mU tl 171 4 t2) (K+1)<|.bv g9 c 126 3 t1) K (Kb K H t1 t2 t3 c.length tl.length 0)
def AT.fin(a:AT n0 h0 kp P h nx K H c tl)(c':X aY)(g:X dN)(t1 t2 t3:Nat):AT n0 h0 kp P (Y4 K H c' g t1 t2 t3 h) nx K H c' g:=by
 obtain⟨i,l,o,m,g1,g2,n⟩:=a.ex;have f:=a.ge;have e:∀{h:X (Nat×B)}{k j:Nat}{b:B},j≠k->gt (ug h k b) j=gt h j:=fun p=>by rw[bT,iy<|Wv p]
 have gs:∀{h:X (Nat×B)}{k:Nat}{b b0:B},gt h k=some b0->gt (ug h k b) k=some b:=fun q=>by rw[bT,kh rfl,q];rfl
 have r:=a.pl.rQ (K:=K+3) ag n (Lb cg) (h':=ug h (K+3)<|.bv B7 [] 284 2 t3) fun k f=>e f;have s:=r.rQ (K:=K+2) ag (b:=.bv mU tl 171 4 l) (by rw[e ag];exact g2) (Lb cg) (h':=ug (ug h (K+3)<|.bv B7 [] 284 2 t3) (K+2)<|.bv mU g 171 4 t2) fun k f=>e f;have t:=s.rQ (K:=K+1) ag (b:=.bv g9 c 126 3 i) (by rw[e ag,e ag];exact g1) (Lb cg) (h':=ug (ug (ug h (K+3)<|.bv B7 [] 284 2 t3) (K+2)<|.bv mU g 171 4 t2) (K+1)<|.bv g9 c' 126 3 t1) fun k f=>e f;have u:=t.rQ (K:=K) f (b:=Kb K H i l o c.length tl.length 0) (by rw[e ag,e ag,e ag];exact m) z8p (h':=Y4 K H c' g t1 t2 t3 h) fun k f=>e f;refine⟨u,f,a.lt,t1,t2,t3,?_,?_,?_,?_⟩;exact gs (b0:=Kb K H i l o c.length tl.length 0) (by rw[e ag,e ag,e ag];exact m);rw[Y4,e ag];exact gs (b0:=.bv g9 c 126 3 i) (by rw[e ag,e ag];exact g1);rw[Y4,e ag,e ag];exact gs (b0:=.bv mU tl 171 4 l) (by rw[e ag];exact g2);rw[Y4,e ag,e ag,e ag];exact gs n
def AT.call(a:AT n0 h0 kp P h nx K H c tl){f:FuncId}{args:X U}{R:U->X aY->X dN->Prop}(m:aG 0 args)
  (e:∀t1 t2 t3:Nat,∃(u:U)(c':X aY)(g:X dN)(i k l:Nat),aS 0 u/\R u c' g/\aT prog f (.ptr 0 0 0::args) ⟨fK H.Types H.E3 t1 t2 t3 c tl [],4⟩ (fun v b=>∃t:Nat->Nat,v=u/\b=⟨fK H.Types H.E3 i k l c' g [],4⟩)):
  ∃u c' g h',R u c' g/\AT n0 h0 kp P h' nx K H c' g/\(∀j,K+3<j->gt h' j=gt h j)/\aT prog f (.ptr K 0 0::args) ⟨h,nx⟩ (fun v b=>v=u/\b=⟨h',nx⟩):=by
 obtain⟨t1,t2,t3,p,g1,g2,q⟩:=a.ex;obtain⟨u,c',g,i,k,l,s,r,e⟩:=e t1 t2 t3
 haveI:i8 4 (.ptr 0 0 0::args):=⟨⟨by simp[aS],aG.le (qq _) _ m⟩⟩
 have key:=aT.st (Y:=⟨h,nx⟩) (args:=.ptr K 0 0::args) (U1:=fun _=>u) (S1:=fun _=>⟨Y4 K H c' g i k l h,nx⟩) [K,K+1,K+2,K+3] e (hn:=okN4 a.lt)
  (hh:=by simp only[GD,nm,rB,TT,eR,rU,N9,Kz,X1,di];exact⟨p,g1,g2,q⟩) (o:=by rw[eR,JD _ _ m];rfl) (W:=fun _=>sa _ _ s) (J:=by intro t;simp only[IT,blt,ble,mr,ek,zC,zD,nm,rB,TT,eR,rU,N9,Kz];rfl)
 exact⟨u,c',g,_,r,a.fin c' g _ _ _,fun j w=>by rw[Y4,bT,iy ag,bT,iy ag,bT,iy ag,bT,iy ag],key.mono fun v b ⟨t,n,o⟩=>⟨n,o⟩⟩
variable{ws:X Nat}{k n:Nat}{F f:cb}
def AT.load(a:AT n0 h0 kp P h nx K H c tl)(b:tH H f)(l:c.length<=1000)(m:20<=n):
  ∃h',AT n0 h0 kp P h' nx K H (c++f.D6.map (jX c.length)) tl/\aT prog 29 [.ptr K 0 0,.agg<|jQ f] ⟨h,nx⟩ (fun v e=>v=.i6 c.length/\e=⟨h',nx⟩):=by obtain⟨u,c',g,h',⟨rfl,rfl,rfl⟩,i,o,j⟩:=a.call (R:=fun v c' g=>v=.i6 c.length/\c'=c++f.D6.map (jX c.length)/\g=tl) (args:=[.agg<|jQ f]) ⟨gc 0 f,trivial⟩ fun t1 t2 t3=>⟨.i6 c.length,_,_,_,_,_,trivial,⟨rfl,rfl,rfl⟩,qgg n f H.Types H.E3 c t1 tl [] _ (sr b.sm b.to l m t1 H.Types H.E3 tl []) t2 t3⟩;exact⟨h',i,j⟩
def AT.read(a:AT n0 h0 kp P h nx K H c tl)(p:HT H ws k c tl F)(m:k<=5)(o:30000<=n):
  ∃h',AT n0 h0 kp P h' nx K H c tl/\(∀j,K+3<j->gt h' j=gt h j)/\aT prog 31 [.ptr K 0 0,.i6 0] ⟨h,nx⟩ (fun v b=>v=.a7 [.agg<|jQ F,.bool true]/\b=⟨h',nx⟩):=by obtain⟨u,c',g,h',⟨rfl,rfl,rfl⟩,e,l,i⟩:=a.call (R:=fun v c' g=>v=.a7 [.agg<|jQ F,.bool true]/\c'=c/\g=tl) (args:=[.i6 0]) ⟨trivial,trivial⟩ fun t1 t2 t3=>⟨.a7 [.agg<|jQ F,.bool true],_,_,_,_,_,⟨gc 0 F,trivial,trivial⟩,⟨rfl,rfl,rfl⟩,qgh n 0 H.Types H.E3 c tl [] _ (p.read m o []) t1 t2 t3⟩;exact⟨h',e,l,i⟩
def AT.II(r:oE H ws)(a:AT n0 h0 kp P h nx K H (c++f.D6.map (jX c.length)) tl)(p:HT H ws k c tl F)(s:k<=4)(q:tH H f)(t:3000000<=n):
  ∃b c' g h',UA ws (Lj F f) [(0,F.D6.length)] 0 b/\HT H ws (k+1) c' g (b.getD F)/\AT n0 h0 kp P h' nx K H c' g/\aT prog 30 [.ptr K 0 0,.i6 0,.i6 c.length] ⟨h,nx⟩ (fun v j=>v=.bool b.isSome/\j=⟨h',nx⟩):=by
 obtain⟨u,c',g,h',⟨b,e,rfl,i⟩,m,x,o⟩:=a.call (R:=fun v c' g=>∃b,UA ws (Lj F f) [(0,F.D6.length)] 0 b/\v=.bool b.isSome/\HT H ws (k+1) c' g (b.getD F)) (args:=[.i6 0,.i6 c.length]) ⟨trivial,trivial,trivial⟩ fun t1 t2 t3=>by obtain⟨b,c',g,w,e,l,i⟩:=p.step r s q t [] t2;exact⟨.bool b.isSome,c',g,t1,w,t3,trivial,⟨b,e,rfl,i⟩,qfi n 0 _ H.Types H.E3 _ tl t2 [] _ l t1 t3⟩
 exact⟨b,c',g,h',e,i,m,o⟩
def AT.new(H:dK)(p:PL n0 h0 kp P h nx)(a:n0<=nx):AT n0 h0 kp P (MG H nx h) (nx+5) (nx+1) H [] []:=
 ⟨((((p.more _).more _).more _).more _).more _,by omega,by omega,0,0,0,by simp[MG,aV],by simp[MG,aV],by simp[MG,aV],by simp[MG,aV]⟩
end
def vn(a:Rl):g2 (u6 tb .neq 4) (.bool a) (.bool a)=some (.bool false):=by cases a<;>kernel_rfl
def PB.wide{H:dK}{f:X Nat}{P:PP}{c:X cb}{z e j g b d:Nat}(p:PB H f P c z e j)(s:z<=g)(o:e<=b)(r:j<=d):PB H f P c g b d:=by obtain⟨a,E,T,q,h,i,k⟩:=p.ex;have l:=p.gen;have m:=p.nl;have n:=p.rl;exact⟨⟨a,E,T,q,by omega,by omega,by omega⟩,by omega,by omega,by omega⟩
def za6{n:Nat}(A:3000000<=n)(d:X bE)(l:X cb):dL prog 8 [.iM bO d,.iM jQ l] (.bool true):=by
 obtain⟨g,ws,hg,r⟩:=za7 d (n:=n) ag;refine eO 96 fn8 ?_;refine goN ?_;refine aM rfl (pC (qjh n d g hg) _) fn9 ?_;refine goN ?_;have fin:∀(h:X (Nat×B))(nx:Nat),aT prog 11 [] ⟨h,nx⟩ (fun u t=>u=.bool true/\t=⟨h,nx⟩):=fun h nx=>jx (n:=n) ag h nx;cases V:((l.length:Int)==0)with
 |true=>refine goN ?_;refine eD rfl (fun _=>?_) (fun q=>by cases q);refine goN ?_;refine aM rfl (fin _ _) LS ?_;refine goN ?_;exact jO rfl rfl rfl rfl|false=>
 refine goN ?_;by_cases I:(l.length:Int)>4;rw[jl I];refine goN ?_;refine eD rfl (fun _=>?_) (fun q=>by cases q);refine goN ?_;refine aM rfl (fin _ _) LS ?_;refine goN ?_;exact jO rfl rfl rfl rfl;rw[eJ I];obtain⟨b,hb,dH⟩:=za3 g (l:=l) ag (n:=n) ag;refine goN ?_;refine aM rfl (pC (qrx n g l b hb) _) jv ?_;refine goN ?_;cases b with
 |false=>refine eD rfl (fun _=>?_) (fun q=>by cases q);refine goN ?_;refine aM rfl (fin _ _) LS ?_;refine goN ?_;exact jO rfl rfl rfl rfl|true=>
 refine eD rfl (fun q=>by cases q) (fun _=>?_);have W:=dH rfl;have Z:0<l.length:=by obtain h |h:=Fz l.length;rw[h]at V;cases V;exact h
 obtain⟨f0,x⟩:=fJ Z;have L:aC l 0=some f0:=by rw[show(0:Int)=((0:Nat):Int)from rfl,cZ,x]
 have v:=W f0<|zX x;refine goN ?_;have p0:PL 1 [(0,.row (kO g) 27)] 2 (uT g) (C5 g 1 [(0,.row (kO g) 27)]) 4:=z8n g (zF _) fun _ _=>rfl
 haveI:fP (C5 g 1 [(0,.row (kO g) 27)]) 0 (.row (kO g) 27):=⟨by rw[p0.lo 0 ag];rfl⟩
 have e1:aT prog 12 [.agg<|kO g] ⟨[(0,.row (kO g) 27)],1⟩ (fun u t=>u=.ptr 2 0 0/\t=⟨C5 g 1 [(0,.row (kO g) 27)],4⟩):=z8m g _ 1;have e2:aT prog 28 [.agg<|kO g] ⟨C5 g 1 [(0,.row (kO g) 27)],4⟩ (fun u t=>u=.ptr 5 0 0/\t=⟨MG g 4<|C5 g 1 [(0,.row (kO g) 27)],9⟩):=zbg g _ 4;refine dE [(2,1)] ?_;refine cX ?_;refine D7 (by exact Go.Vx.wA) (iE rfl Hz rfl).2 e1 rfl rfl ?_;refine cX ?_;refine D7 (by exact Go.Vx.wA) (iE rfl ju rfl).2 e2 rfl rfl ?_;refine cX ?_;refine bC ⟨by kernel_rfl,⟨oP,trivial⟩,?_⟩;have O:AT 1 [(0,.row (kO g) 27)] 2 (uT g) (MG g 4<|C5 g 1 [(0,.row (kO g) 27)]) 9 5 g [] []:=AT.new g p0 ag;obtain⟨P1,q1,b1,_⟩:=(PB.new (H:=g) (ws:=ws)).put r ag v;have q1:xV (uT g) f0=some ((0:Int),P1):=q1;obtain⟨G,n1,e3,s1⟩:=z2u O.pl q1;have A1:=O.move s1;obtain⟨h2,A2,e4⟩:=A1.load v ca (n:=n) ag;have T2:=HT.new r v;refine goN ?_;refine dE [(5,4),(6,4),(7,4),(8,4)] ?_;refine cX ?_;refine iR L ?_;refine cX ?_;refine D7 (by exact Go.Vx.wA) (iE rfl G6 rfl).2 e3 rfl rfl ?_;refine cX ?_;refine iR L ?_;refine cX ?_;refine D7 (by exact Go.Vx.wA) (iE rfl Hx rfl).2 e4 rfl rfl ?_;refine cX ?_;refine bC ⟨by kernel_rfl,⟨kN rfl,kN rfl,Go.Vx.AI rfl rfl rfl L,oP,trivial⟩,?_⟩;refine goN ?_;have K:∀w∈ws,w≠0:=fun w K=>(r.ok w K).1;refine gL (fun m y Y=>∃(i k:Nat)(P:PP)(o:X cb)(F:cb)(c:X aY)(tl:X dN)(h:X (Nat×B))(nx:Nat),m=l.length-i/\1<=i/\i<=l.length/\PB g ws P o (12*i) (144*i) (2*i)/\o[k]? = some F/\HT g ws i c tl F/\AT 1 [(0,.row (kO g) 27)] 2 P h nx 5 g c tl/\y=fr 96 [(1,.iM jQ l),(6,.ptr 2 0 0),(7,.ptr 5 0 0),(8,.i6 k),(9,.i6 0),(10,.i6 i)]/\Y=⟨h,nx⟩)
  (fun y Y=>∃(h:X (Nat×B))(nx:Nat),y=fr 96 []/\Y=⟨h,nx⟩) (l.length-1)
  ⟨1,0,P1,[f0],f0,_,[],h2,n1,rfl,zF _,Z,b1.wide (by have:=v.sm.nodes;omega) (by have:=v.sm.nodes;omega) ag,rfl,T2,A2,rfl,rfl⟩ ?_ ?_
 rintro _ _ ⟨h,nx,rfl,rfl⟩;refine goN ?_;refine aM rfl (fin _ _) LS ?_;refine goN ?_;exact jO rfl rfl rfl rfl;rintro m _ _ ⟨i,k,P,o,F,c,tl,h,nx,rfl,Gf,hi,hP,z,J,v11,rfl,rfl⟩;refine goN ?_;refine eD rfl (fun G=>?_) (fun G=>?_)
 ·have nJ:i<l.length:=by simpa using G
  obtain⟨f,R⟩:=fJ nJ;have m5:aC l (i:Int)=some f:=by rw[cZ,R]
  have p:=W f<|zX R;refine goN ?_;apply eX;refine goN ?_;refine dO m5 ?_;refine goN ?_;obtain⟨P2,q2,b2,_⟩:=hP.put r ag p;obtain⟨res,S,u1,u2,B3,_⟩:=b2.unify r ag (by have:=p.sm.nodes;omega) (by have:=p.sm.nodes;omega) A (a:=k) (b:=o.length) (f:=F) (l:=f) (by rw[kl (zG.1 z).1];exact z) ca;refine lT rfl (iE rfl G6 rfl).2 (z2v v11.pl q2) rfl rfl ?_;rintro _ _ ⟨h3,n3,rfl,rfl,s3⟩;have Q:=v11.move s3;refine goN ?_;refine lT rfl (iE rfl LC rfl).2 (z3z Q.pl n u1) rfl rfl ?_;rintro _ _ ⟨I,j,rfl,rfl,s4⟩;have A4:=Q.move s4;refine goN ?_;refine dO m5 ?_;refine goN ?_;obtain⟨h5,A5,e5⟩:=A4.load p (by have:=J.nl;omega) (n:=n) ag;refine lT rfl (iE rfl Hx rfl).2 e5 rfl rfl ?_;rintro _ _ ⟨rfl,rfl⟩;refine goN ?_;obtain⟨e,c',iH,h6,w1,U,C,e6⟩:=A5.II r J ag p A;refine lT rfl (iE rfl jt rfl).2 e6 rfl rfl ?_;rintro _ _ ⟨rfl,rfl⟩;have N:=J.ok;have of:=p.BN r;have same:=UA.uniq r.iX K (yy N.M6 of.M6 N.kg of.kg) (by rw[Sl];have:=N.ne;omega) w1 u2;subst same;refine goN ?_;refine aX (u:=.bool false) rfl (e? rfl rfl (vn _)) ?_;refine goN ?_;refine eD rfl (fun q=>absurd q cg) (fun _=>?_);refine goN ?_;obtain⟨s,T,M⟩:∃s:Nat,(if e.isSome=true then((if e.isSome=true then((o++[f]).length:Int)else 0))else(k:Int))=(s:Int)/\((o++[f])++e.toList)[s]? = some (e.getD F):=by obtain _|q:=e;exact⟨k,rfl,by rw[zT,kl (zG.1 z).1];exact z⟩;exact⟨(o++[f]).length,rfl,by simp⟩
  have mG:i64.wrap ((i:Int)+1)=((i+1:Nat):Int):=by rw[wrap_i64 ag ag];rfl
  have D:PB g ws S ((o++[f])++e.toList) (12*(i+1)) (144*(i+1)) (2*(i+1)):=B3.wide (by have:=p.sm.nodes;omega) (by have:=p.sm.nodes;omega) ag;have rd:=D.read ag A M;have E:=D.eq ag A M;have A7:=C.more<|.row (jQ<|e.getD F) 39;refine OG (fun y Y=>y=fr 96 [(1,.iM jQ l),(6,.ptr 2 0 0),(7,.ptr 5 0 0),(8,.i6 s),(9,.i6 0),(10,.i6 i)]/\Y=⟨h6,j⟩) ?_ ?_
  ·rintro _ _ ⟨rfl,rfl⟩
   haveI:ck j (j+1):=⟨rfl⟩
   haveI:ck (j+1) (j+2):=⟨rfl⟩
   haveI:Nq (j+1) j:=⟨by rw[beq_eq];simp⟩
   refine goN ?_;refine lT rfl (iE rfl SB rfl).2 (z6w C.pl n rd) rfl rfl ?_;rintro _ _ ⟨rfl,rfl⟩;refine goN ?_;obtain⟨h8,A8,k8,e8⟩:=A7.read U ag (n:=n) ag;have l6:=C.lt
   haveI:fP ((j+1,.row (jQ<|e.getD F) 39)::h8) j (.row (jQ<|e.getD F) 39):=⟨by rw[aV,iy ag,k8 j ag,aV,kh rfl]⟩
   refine lT rfl (iE rfl js rfl).2 e8 rfl rfl ?_;rintro _ _ ⟨rfl,rfl⟩;refine goN ?_;refine aM rfl (pC (Yx n (e.getD F) (e.getD F) true E) _) SA ?_;refine goN ?_;refine eD rfl (fun q=>absurd q cg) (fun _=>?_);refine goN ?_;refine⟨l.length-(i+1),_,_,by omega,⟨i+1,s,S,_,e.getD F,c',iH,_,_,rfl,by omega,nJ,D,M,U,A8.more<|.row (jQ<|e.getD F) 39,rfl,rfl⟩,qq _,Gh.sub ?_⟩;rw[<-mG];(repeat refine⟨rfl,?_⟩);exact trivial
  ·cases e with
   |none=>refine eD rfl (fun q=>by cases q) (fun _=>?_);refine goN ?_;refine⟨_,_,⟨rfl,rfl⟩,qq _,Gh.sub ?_⟩;rw[<-show(k:Int)=s from T];(repeat refine⟨rfl,?_⟩);exact trivial|some q=>refine eD rfl (fun _=>?_) (fun q=>by cases q);refine goN ?_;refine⟨_,_,⟨rfl,rfl⟩,qq _,Gh.sub ?_⟩;rw[<-show((o++[f]).length:Int)=s from T];(repeat refine⟨rfl,?_⟩);exact trivial
 ·refine goN ?_;exact⟨_,_,⟨h,nx,rfl,rfl⟩,qq _,Gh.sub<|by((repeat refine⟨rfl,?_⟩);exact trivial)⟩
def qeh(n:Nat)(a:X bE)(b:X cb):A Rl:=aE (3000000<=n) (some true)
def qi3(n:Nat)(a:X bE)(b:X cb)(r:Rl)(O:qeh n a b=some r):dL prog 8 [.O false<|a.map bO,.O false<|b.map jQ] (.bool r):=by obtain⟨c,O⟩:=bY O;obtain rfl:=sI O;exact za6 c a b
def z0e(b:X bE)(c:X cb){n:Nat}(a:3000000<=n):qeh n b c=some true:=kh a
end Go.Proofs
