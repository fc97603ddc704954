import Derived.Test.YtldlchbgolpkaaaGreatP19
set_option linter.all false
namespace Go.Proofs
open Go Go.Rx Go.Vx
set_option maxRecDepth 10000
def Fy(N:Nat)(r:Nat->Nat)(W:List (Int×Int))(x y:Nat):Prop:=∀q:Nat->Nat,(∀i j,i<N->j<N->r i=r j->q i=q j)->(∀p∈W,q p.1.toNat=q p.2.toNat)->q x=q y
structure v01(N:Nat)(ws:List Nat)(L:List aT):Prop where
 len:L.length=N
 ar:∀(j:Nat)(c:aT)(a:aF),L[j]? = some c->a∈c.Arcs->0<=a.To/\a.To<(N:Int)
structure TC(ws:List Nat)(N:Nat)(L:List aT)(W:List (Int×Int))(cells:List aS)(a9:Nat->Nat):Prop where
 cov:∀(j:Nat)(c:aT)(a:aF),L[j]? = some c->a∈c.Arcs->∃b∈(celN cells (a9 j)).arcs,b.Feat=a.Feat/\Fy N a9 W b.To.toNat a.To.toNat
 snd:∀(i:Nat)(b:aF),i<N->a9 i=i->b∈(celN cells i).arcs->∃(j:Nat)(c:aT),L[j]? = some c/\a9 j=i/\b∈c.Arcs
 kd:∀(i:Nat),i<N->a9 i=i->∀k:Nat,(kG ws (celN cells i).kind).testBit k=true↔∀(j:Nat)(c:aT),L[j]? = some c->a9 j=i->(kG ws c.Typex).testBit k=true
def O4(L:List aT)(q:Nat->Nat):Prop:=∀(i j:Nat)(c e:aT)(a b:aF),L[i]? = some c->L[j]? = some e->q i=q j->a∈c.Arcs->b∈e.Arcs->a.Feat=b.Feat->q a.To.toNat=q b.To.toNat
def rh(ws:List Nat)(L:List aT)(q:Nat->Nat):Prop:=∃i,i<L.length/\∀k:Nat,∃(j:Nat)(c:aT),L[j]? = some c/\q j=q i/\(kG ws c.Typex).testBit k=false
structure KC(N:Nat)(W:List (Int×Int))(a9 q:Nat->Nat):Prop where
 r:∀i j,i<N->j<N->a9 i=a9 j->q i=q j
 w:∀p∈W,q p.1.toNat=q p.2.toNat
variable{c:List aS}
variable{m:Nat}
variable{n:Nat}
theorem VH(hm:m<c.length)(hn:n<c.length)(oG:m≠n)(t:Int)(o:List aF)(i:Nat):
  celN (vE c m n t o) i=if i=n then⟨(m:Int),0,[]⟩else if i=m then⟨-1,t,o⟩else celN c i:=by
 simp only[celN,vE,List.getElem?_set,List.length_set];by_cases e:i=n;subst e;simp[hn];rw[if_neg (fun q=>e q.symm),if_neg e];by_cases e2:i=m;subst e2;simp[hm];rw[if_neg (fun q=>e2 q.symm),if_neg e2]
variable{ws:List Nat}
variable{N:Nat}
variable{L:List aT}
variable{W:List (Int×Int)}
variable{p:Int×Int}
variable{a9:Nat->Nat}
theorem TC.skip(h:TC ws N L (p::W) c a9)(hp:Wh N p)(e:a9 p.1.toNat=a9 p.2.toNat):TC ws N L W c a9 where
 cov j x a hj ha:=by obtain⟨b,h1,h2,h3⟩:=h.cov j x a hj ha;refine⟨b,h1,h2,fun q q1 q2=>h3 q q1 fun z hz=>?_⟩;rcases zI.1 hz with rfl |hz;exact q1 _ _ (by have:=hp.1;omega) (by have:=hp.2;omega) e;exact q2 z hz
 snd:=h.snd
 kd:=h.kd
structure Mg(N:Nat)(p:Int×Int)(c:List aS)(a9:Nat->Nat)(m n:Nat):Prop where
 len:c.length=N
 hm:m<N
 hn:n<N
 em:a9 m=m
 en:a9 n=n
 ne:m≠n
 lt:∀i,i<N->a9 i<N
 idem:∀i,i<N->a9 (a9 i)=a9 i
 pi:Wh N p
 pp:(a9 p.1.toNat=m/\a9 p.2.toNat=n)\/(a9 p.1.toNat=n/\a9 p.2.toNat=m)
 dm:sL (celN c m).arcs
variable{D:Nat}
variable{FB:Int}
variable{d:Nat->Nat}
theorem Rnd.mg{TB:Int}(hr:Rnd N D FB TB (p::W) c a9 d)(cW:a9 p.1.toNat≠a9 p.2.toNat):Mg N p c a9 (a9 p.1.toNat) (a9 p.2.toNat):=
 have T:=hr.two
 ⟨hr.hp.len,T.hm,T.hn,T.em,T.en,cW,hr.hp.rok.lt,hr.hp.rok.idem,hr.wi p (by simp),.inl ⟨rfl,rfl⟩,T.am.up.dis⟩
theorem TC.mrg(hL:v01 N ws L){W':List (Int×Int)}(T:Mg N p c a9 m n)(h:TC ws N L (p::W) c a9){t:Int}{o:List aF}
  (ht:kG ws t=kG ws (celN c m).kind&&&kG ws (celN c n).kind) (hM:o.Perm ((celN c m).arcs++sR (celN c m).arcs (celN c n).arcs)) (w1:∀z∈prs (celN c m).arcs (celN c n).arcs,z∈W') (w2:∀z∈W,z∈W'):
  TC ws N L W' (vE c m n t o) (fO a9 m n):=by
 obtain⟨BD,xY⟩:=T.pi;have cW:=T.ne;have aU:=T.len;have hmc:m<c.length:=by have:=T.hm;omega
 have tF:n<c.length:=by have:=T.hn;omega
 have HH:=VH hmc tF cW t o;have ida:∀j,j<N->a9 (a9 j)=a9 j:=T.idem;have jlt:∀{j:Nat}{x:aT},L[j]? = some x->j<N:=fun hj=>by have:=(zG.1 hj).1;rw[hL.len]at this;exact this
 have mono:∀i j,a9 i=a9 j->fO a9 m n i=fO a9 m n j:=fun i j e=>sx e;have lnk:∀{x y:Nat},Fy N a9 (p::W) x y->Fy N (fO a9 m n) W' x y:=fun{x y} hl q q1 q2=>by
  refine hl q (fun i j hi hj e=>q1 i j hi hj (mono i j e)) fun z hz=>?_;rcases zI.1 hz with rfl |hz
  refine q1 _ _ (by omega) (by omega) ?_;unfold fO;rcases T.pp with⟨e1,e2⟩|⟨e1,e2⟩;rw[e1,e2,if_neg cW,if_pos rfl];rw[e1,e2,if_neg cW,if_pos rfl];exact q2 z (w2 z hz)
 refine⟨fun j x a hj ha=>?_,fun i b hi uO hb=>?_,fun i hi uO k=>?_⟩;obtain⟨b,h1,h2,h3⟩:=h.cov j x a hj ha;by_cases en:a9 j=n;have e1:fO a9 m n j=m:=by unfold fO;rw[if_pos en]
 rw[e1,HH,if_neg cW,if_pos rfl];rw[en]at h1;show ∃b∈o,_;by_cases hf:AR (celN c m).arcs b.Feat=true;obtain⟨z,hz,ez⟩:=VG.1 hf;refine⟨z,hM.mem_iff.2 (List.mem_append_left _ hz),by omega,fun q q1 q2=>?_⟩;have hpz:(z.To,b.To)∈prs (celN c m).arcs (celN c n).arcs:=List.mem_filterMap.2 ⟨b,h1,by rw[Q? T.dm hz ez];rfl⟩;have:=q2 (z.To,b.To) (w1 _ hpz);rw[this];exact lnk h3 q q1 q2;refine⟨b,hM.mem_iff.2 (List.mem_append_right _ (List.mem_filter.2 ⟨h1,by simpa using hf⟩)),h2,lnk h3⟩;have e1:fO a9 m n j=a9 j:=by unfold fO;rw[if_neg en]
 rw[e1,HH,if_neg en];by_cases em:a9 j=m;rw[if_pos em];rw[em]at h1;exact⟨b,hM.mem_iff.2 (List.mem_append_left _ h1),h2,lnk h3⟩;rw[if_neg em];exact⟨b,h1,h2,lnk h3⟩;by_cases ein:i=n;subst ein
 rw[HH,if_pos rfl]at hb;cases hb;rw[HH,if_neg ein]at hb;by_cases eim:i=m;subst eim;rw[if_pos rfl]at hb;rcases yD.1 (hM.mem_iff.1 hb)with hb |hb;obtain⟨j,x,q1,q2,q3⟩:=h.snd _ b T.hm T.em hb;exact⟨j,x,q1,by unfold fO;rw[q2,if_neg cW],q3⟩;obtain⟨j,x,q1,q2,q3⟩:=h.snd _ b T.hn T.en (List.mem_filter.1 hb).1;exact⟨j,x,q1,by unfold fO;rw[q2,if_pos rfl],q3⟩;rw[if_neg eim]at hb;have XZ:a9 i=i:=by unfold fO at uO;split at uO;exact absurd uO.symm eim;exact uO
 obtain⟨j,x,q1,q2,q3⟩:=h.snd i b hi XZ hb;exact⟨j,x,q1,by unfold fO;rw[q2,if_neg ein],q3⟩;by_cases ein:i=n;subst ein
 unfold fO at uO;rw[T.en,if_pos rfl]at uO;exact absurd uO cW;rw[HH,if_neg ein];by_cases eim:i=m;subst eim;rw[if_pos rfl];show(kG ws t).testBit k=true↔_;rw[ht,Nat.testBit_and,Bool.and_eq_true,h.kd _ T.hm T.em,h.kd _ T.hn T.en];constructor;rintro⟨g1,g2⟩ j x hj Qa;unfold fO at Qa;by_cases e:a9 j=n;exact g2 j x hj e;rw[if_neg e]at Qa;exact g1 j x hj Qa;intro g;exact⟨fun j x hj e=>g j x hj (by unfold fO;rw[e,if_neg cW]),fun j x hj e=>g j x hj (by unfold fO;rw[if_pos e])⟩;rw[if_neg eim];have XZ:a9 i=i:=by unfold fO at uO;split at uO;exact absurd uO.symm eim;exact uO
 rw[h.kd i hi XZ];constructor;intro g j x hj e;refine g j x hj ?_;unfold fO at e;split at e;exact absurd e.symm eim;exact e;intro g j x hj e;exact g j x hj (by unfold fO;rw[e,if_neg ein])
theorem KC.mrg(hL:v01 N ws L){W':List (Int×Int)}{q:Nat->Nat}(T:Mg N p c a9 m n)(h:TC ws N L (p::W) c a9)(hq:O4 L q)(hu:KC N (p::W) a9 q)(w:∀z∈W',z∈prs (celN c m).arcs (celN c n).arcs\/z∈W):
  q m=q n/\KC N W' (fO a9 m n) q:=by
 obtain⟨BD,xY⟩:=T.pi;have Qf:=hu.w p (by simp);have e3:q m=q n:=by rcases T.pp with⟨e1,e2⟩|⟨e1,e2⟩;have a1:q m=q p.1.toNat:=hu.r _ _ T.hm (by omega) (by rw[T.em,e1]);have a2:q n=q p.2.toNat:=hu.r _ _ T.hn (by omega) (by rw[T.en,e2]);rw[a1,a2,Qf];have a1:q n=q p.1.toNat:=hu.r _ _ T.hn (by omega) (by rw[T.en,e1]);have a2:q m=q p.2.toNat:=hu.r _ _ T.hm (by omega) (by rw[T.em,e2]);rw[a1,a2,Qf]
 refine⟨e3,fun i j hi hj e=>?_,fun z hz=>?_⟩
 ·have ri:q (a9 i)=q i:=hu.r _ _ (T.lt i hi) hi (T.idem i hi);have rj:q (a9 j)=q j:=hu.r _ _ (T.lt j hj) hj (T.idem j hj);rw[<-ri,<-rj];unfold fO at e;split at e
  ·next h1=>
   split at e
   ·next h2=>rw[h1,h2]
   ·next h2=>rw[h1,<-e3,e]
  ·next h1=>
   split at e
   ·next h2=>rw[h2,<-e3,e]
   ·next h2=>rw[e]
 rcases w z hz with hz |hz;obtain⟨x,hx,y,hy,hf,rfl⟩:=mf hz;obtain⟨j,xc,q1,q2,q3⟩:=h.snd _ x T.hm T.em hx;obtain⟨j',yc,r1,r2,r3⟩:=h.snd _ y T.hn T.en hy;have jl:=(zG.1 q1).1;have jl':=(zG.1 r1).1;rw[hL.len]at jl jl';refine hq j j' xc yc x y q1 r1 ?_ q3 r3 hf;have a1:q j=q m:=hu.r _ _ jl T.hm (by rw[T.em,q2]);have a2:q j'=q n:=hu.r _ _ jl' T.hn (by rw[T.en,r2]);rw[a1,a2,e3];exact hu.w z (List.mem_cons_of_mem _ hz)
structure Uq(ws:List Nat)(mt:Int->Int->Option Int):Prop where
 no:∀s t,(0<=s/\s<(ws.length:Int))->(0<=t/\t<(ws.length:Int))->mt s t=none->kG ws s&&&kG ws t=0
 yes:∀s t r,(0<=s/\s<(ws.length:Int))->(0<=t/\t<(ws.length:Int))->mt s t=some r->(0<=r/\r<(ws.length:Int))/\kG ws r=kG ws s&&&kG ws t
theorem uj{ws:List Nat}{mt:Int->Int->Option Int}(pP:Uq ws mt){N:Nat}{FB:Int}{L:List aT}(hL:v01 N ws L):∀(k:Nat)(W:List (Int×Int))(c:List aS)(a9 d:Nat->Nat)(D:Nat),Rnd N D FB ws.length W c a9 d->TC ws N L W c a9->W.length+tot c<k->
  ((dU mt k W c a9 d).1=true->TC ws N L [] (dU mt k W c a9 d).2.1 (dU mt k W c a9 d).2.2.1)/\
  ∀q,O4 L q->KC N W a9 q->((dU mt k W c a9 d).1=true->KC N [] (dU mt k W c a9 d).2.2.1 q)/\((dU mt k W c a9 d).1=false->rh ws L q)
 |0,W,c,a9,d,D,hr,h,hk=>by omega
 |k+1,[],c,a9,d,D,hr,h,hk=>⟨fun _=>h,fun q _ hu=>⟨fun _=>hu,fun e=>(by cases e)⟩⟩|k+1,p::W,c,a9,d,D,hr,h,hk=>by
  simp only[zO]at hk;unfold dU;by_cases e:a9 p.1.toNat=a9 p.2.toNat;rw[if_pos e];obtain⟨g1,g2⟩:=uj pP hL k W c a9 d D hr.skip (h.skip (hr.wi p (by simp)) e) (by omega);exact⟨g1,fun q hq hu=>g2 q hq ⟨hu.r,fun z hz=>hu.w z (List.mem_cons_of_mem _ hz)⟩⟩;rw[if_neg e];have T:=hr.two;cases hm:mt (celN c (a9 p.1.toNat)).kind (celN c (a9 p.2.toNat)).kind with
  |none=>
   refine⟨fun q=>(by cases q),fun q hq hu=>⟨fun q=>(by cases q),fun _=>?_⟩⟩;obtain⟨e3,_⟩:=hu.mrg hL (hr.mg e) h hq (W':=W) fun z hz=>.inr hz;have h0:=pP.no _ _ T.km T.kn hm;refine⟨a9 p.1.toNat,by rw[hL.len];exact T.hm,fun b=>?_⟩;have hb:(kG ws (celN c (a9 p.1.toNat)).kind).testBit b=false\/(kG ws (celN c (a9 p.2.toNat)).kind).testBit b=false:=by have:=congrArg (fun x=>x.testBit b) h0;simp only[Nat.testBit_and,Nat.zero_testBit,Bool.and_eq_false_iff]at this;exact this
   have find:∀i,i<N->a9 i=i->(kG ws (celN c i).kind).testBit b=false->∃(j:Nat)(x:aT),L[j]? = some x/\a9 j=i/\(kG ws x.Typex).testBit b=false:=fun i hi uO hf=>by
    refine Classical.byContradiction fun hJ=>?_;have:=(h.kd i hi uO b).2 fun j x hj Qa=>by rcases hx:(kG ws x.Typex).testBit b with _|_;exact absurd ⟨j,x,hj,Qa,hx⟩ hJ;rfl
    rw[hf]at this;cases this
   rcases hb with hb |hb;obtain⟨j,x,q1,q2,q3⟩:=find _ T.hm T.em hb;have jl:=(zG.1 q1).1;rw[hL.len]at jl;exact⟨j,x,q1,hu.r _ _ jl T.hm (by rw[T.em,q2]),q3⟩;obtain⟨j,x,q1,q2,q3⟩:=find _ T.hn T.en hb;have jl:=(zG.1 q1).1;rw[hL.len]at jl;exact⟨j,x,q1,by rw[e3];exact hu.r _ _ jl T.hn (by rw[T.en,q2]),q3⟩
  |some t=>obtain⟨ht,hc⟩:=pP.yes _ _ _ T.km T.kn hm;have hT:=T.tot e t W;obtain⟨g1,g2⟩:=uj pP hL k _ _ _ (AS a9 d (a9 p.2.toNat)) (D+1) (hr.next e ht) (h.mrg hL (hr.mg e) hc (PP _ _ T.am.up T.an.up).pm (fun z hz=>List.mem_append_left _ (List.mem_reverse.2 hz)) fun z hz=>List.mem_append_right _ hz) (by omega);exact⟨g1,fun q hq hu=>g2 q hq (hu.mrg hL (hr.mg e) h hq fun z hz=>by rcases yD.1 hz with hz |hz;exact .inl (List.mem_reverse.1 hz);exact .inr hz).2⟩
theorem TC.qg(hL:v01 N ws L)(hp:iP N D FB ws.length c a9 d)(h:TC ws N L [] c a9):QG ws L a9 (cG c a9):=by
 have hN:=hL.len;have fF:=hp.len;have node:∀{i:Nat}{x:aT},(cG c a9).Nodes[i]? = some x->i<N/\c[i]? = some (celN c i)/\x=Eu a9 (celN c i):=fun{i x} hx=>by
  simp only[cG,List.getElem?_map]at hx;rcases hc:c[i]? with _|y;rw[hc]at hx;cases hx;have hi:i<N:=by have:=(zG.1 hc).1;omega
  have:=hp.celN hi;rw[hc]at this;cases this;rw[hc]at hx;exact⟨hi,rfl,(Option.some.inj hx).symm⟩
 refine⟨by simp[cG,fF,hN],fun i hi=>?_,fun i x hx hr=>?_,fun i x hx hr=>?_,fun j y a hj ha=>?_,fun i x b hx hr hb=>?_⟩;rw[hN]at hi ⊢;exact⟨hp.rok.lt i hi,hp.rok.idem i hi⟩;obtain⟨hi,hc,rfl⟩:=node hx;exact⟨hp.kd i _ hc,h.kd i hi hr⟩;obtain⟨hi,hc,rfl⟩:=node hx;exact(TF (hp.ar i _ hc).up).dis;obtain⟨b,h1,h2,h3⟩:=h.cov j y a hj ha;have jl:=(zG.1 hj).1;rw[hN]at jl;have hc:=hp.celN (hp.rok.lt j jl);refine⟨Eu a9 (celN c (a9 j)),rN a9 b,by simp only[cG,List.getElem?_map,hc,zM],List.mem_map_of_mem h1,h2,?_⟩;simp only[rN,rI];rw[h3 a9 (fun _ _ _ _ e=>e) (fun _ hz=>by cases hz)];obtain⟨hi,hc,rfl⟩:=node hx;obtain⟨b0,fk,rfl⟩:=List.mem_map.1 hb;obtain⟨j,y,q1,q2,q3⟩:=h.snd i b0 hi hr fk;exact⟨j,y,b0,q1,q2,q3,rfl,rfl⟩
theorem TC.clo(hL:v01 N ws L)(hp:iP N D FB ws.length c a9 d)(h:TC ws N L [] c a9):O4 L a9:=fun i j x y a b hi hj e ha hb hf=>by
 obtain⟨a',p1,p2,p3⟩:=h.cov i x a hi ha;obtain⟨b',q1,q2,q3⟩:=h.cov j y b hj hb;have il:=(zG.1 hi).1;rw[hL.len]at il;have hc:=hp.celN (hp.rok.lt i il);rw[<-e]at q1;have hd:=(hp.ar _ _ hc).up.dis;have:a'=b':=hd.eq a' p1 b' q1 (by omega);subst this;have e1:=p3 a9 (fun _ _ _ _ e=>e) (fun _ hz=>by cases hz);have e2:=q3 a9 (fun _ _ _ _ e=>e) (fun _ hz=>by cases hz);omega
theorem TC.good(hL:v01 N ws L)(hw:∀w∈ws,w≠0)(hp:iP N D FB ws.length c a9 d)(h:TC ws N L [] c a9):¬ rh ws L a9:=fun⟨i,hi,hb⟩=>by
 rw[hL.len]at hi;have hr:=hp.rok.lt i hi;have N2:=hp.rok.idem i hi;have hc:=hp.celN hr;have hk:=hp.kd _ _ hc;have cW:=hw _ (zX (Iy hk));obtain⟨k,ay⟩:=Nat.exists_testBit_of_ne_zero cW;obtain⟨j,x,q1,q2,q3⟩:=hb k;have:=(h.kd _ hr N2 k).1 ay j x q1 q2;rw[q3]at this;cases this
def AL(R:Int->Int->Prop):List aF->List aF->Prop
 |[],[]=>True|x::a,y::b=>x.Feat=y.Feat/\R x.To y.To/\AL R a b
 |_,_=>False
def PL(R:Int->Int->Prop):List (Int×Int)->List (Int×Int)->Prop
 |[],[]=>True|p::a,q::b=>(R p.1 q.1/\R p.2 q.2)/\PL R a b
 |_,_=>False
theorem AL.mono{R R':Int->Int->Prop}(h:∀x y,R x y->R' x y):∀{a b:List aF},AL R a b->AL R' a b
 |[],[],_=>trivial|x::a,y::b,q=>⟨q.1,h _ _ q.2.1,AL.mono h q.2.2⟩
 |[],_::_,q=>q.elim|_::_,[],q=>q.elim
theorem PL.mono{R R':Int->Int->Prop}(h:∀x y,R x y->R' x y):∀{a b:List (Int×Int)},PL R a b->PL R' a b
 |[],[],_=>trivial|x::a,y::b,q=>⟨⟨h _ _ q.1.1,h _ _ q.1.2⟩,PL.mono h q.2⟩
 |[],_::_,q=>q.elim|_::_,[],q=>q.elim
theorem PL.app{R:Int->Int->Prop}:∀{a b c e:List (Int×Int)},PL R a b->PL R c e->PL R (a++c) (b++e)
 |[],[],_,_,_,h=>h|x::a,y::b,_,_,q,h=>⟨q.1,PL.app q.2 h⟩
 |[],_::_,_,_,q,_=>q.elim|_::_,[],_,_,q,_=>q.elim
theorem PL.rev{R:Int->Int->Prop}:∀{a b:List (Int×Int)},PL R a b->PL R a.reverse b.reverse
 |[],[],_=>trivial|x::a,y::b,q=>by rw[List.reverse_cons,List.reverse_cons];exact(PL.rev q.2).app ⟨q.1,trivial⟩
 |[],_::_,q=>q.elim|_::_,[],q=>q.elim
theorem AL.find{R:Int->Int->Prop}(f:Int):∀{a b:List aF},AL R a b->(a.find? (fun x=>x.Feat==f)=none/\b.find? (fun x=>x.Feat==f)=none)\/∃x y,a.find? (fun x=>x.Feat==f)=some x/\b.find? (fun x=>x.Feat==f)=some y/\R x.To y.To
 |[],[],_=>.inl ⟨rfl,rfl⟩|x::a,y::b,q=>by simp only[List.find?_cons,<-q.1];rcases h:x.Feat==f with _|_;exact AL.find f q.2.2;exact .inr ⟨x,y,rfl,rfl,q.2.1⟩
 |[],_::_,q=>q.elim|_::_,[],q=>q.elim
theorem AL.prs{R:Int->Int->Prop}{a b:List aF}(h:AL R a b):∀{c e:List aF},AL R c e->PL R (Go.Proofs.prs a c) (Go.Proofs.prs b e)
 |[],[],_=>trivial|x::c,y::e,q=>by rw[Cf,Cf,<-q.1];rcases h.find x.Feat with⟨h1,h2⟩|⟨u,v,h1,h2,h3⟩;rw[h1,h2];exact AL.prs h q.2.2;rw[h1,h2];exact⟨⟨h3,q.2.1⟩,AL.prs h q.2.2⟩
 |[],_::_,q=>q.elim|_::_,[],q=>q.elim
theorem qp6(x:aF)(a:List aF):nP (x::a) []=x::a:=by rw[nP];intro h;cases h
theorem AL.merge{R:Int->Int->Prop}:∀(a b c e:List aF),AL R a b->AL R c e->AL R (nP a c) (nP b e)
 |[],[],c,e,_,h=>by rw[nP,nP];exact h
 |x::a,y::b,[],[],h,_=>by rw[qp6,qp6];exact h
 |x::a,y::b,z::c,w::e,h,g=>by rw[nP,nP,<-h.1,<-g.1];by_cases e1:x.Feat<z.Feat;rw[if_pos e1,if_pos e1];exact⟨h.1,h.2.1,AL.merge a b (z::c) (w::e) h.2.2 g⟩;rw[if_neg e1,if_neg e1];by_cases e2:z.Feat<x.Feat;rw[if_pos e2,if_pos e2];exact⟨g.1,g.2.1,AL.merge (x::a) (y::b) c e h g.2.2⟩;rw[if_neg e2,if_neg e2];exact⟨h.1,h.2.1,AL.merge a b c e h.2.2 g.2.2⟩
 |[],_::_,_,_,q,_=>q.elim|_::_,[],_,_,q,_=>q.elim
 |_::_,_::_,[],_::_,_,q=>q.elim|_::_,_::_,_::_,[],_,q=>q.elim
termination_by a b c e=>a.length+c.length
theorem AL.of2{R:Int->Int->Prop}{g h:aF->aF}:∀{l:List aF},(∀a∈l,(g a).Feat=(h a).Feat/\R (g a).To (h a).To)->AL R (l.map g) (l.map h)
 |[],_=>trivial|x::l,q=>⟨(q x (by simp)).1,(q x (by simp)).2,AL.of2 fun a ha=>q a (List.mem_cons_of_mem _ ha)⟩
def BR(N':Nat)(a9 φ:Nat->Nat)(u v:Int):Prop:=(0<=u/\u<(N':Int))/\a9 (φ u.toNat)=a9 v.toNat
variable{a9:Nat->Nat}
theorem BR.mrg{N':Nat}{φ:Nat->Nat}{m n:Nat}{u v:Int}(h:BR N' a9 φ u v):BR N' (fO a9 m n) φ u v:=⟨h.1,sx h.2⟩
structure Bi(N':Nat)(c':List aS)(cN:Nat->Nat)(c:List aS)(a9 φ:Nat->Nat):Prop where
 inj:∀i j,i<N'->j<N'->(cN i=cN j↔a9 (φ i)=a9 (φ j))
 kd:∀i,i<N'->cN i=i->(celN c' i).kind=(celN c (a9 (φ i))).kind
 ar:∀i,i<N'->cN i=i->AL (BR N' a9 φ) (celN c' i).arcs (celN c (a9 (φ i))).arcs
theorem Bi.mrg{N' N:Nat}{FB TB:Int}{c' c:List aS}{cN a9 φ:Nat->Nat}(B:Bi N' c' cN c a9 φ){m' n' m n:Nat}(T':Two N' FB TB c' cN m' n')(T:Two N FB TB c a9 m n)(y3:c'.length=N')(hl:c.length=N)(em:a9 (φ m')=m)(en:a9 (φ n')=n)(A0:m'≠n')(cW:m≠n)(t:Int){o' o:List aF}(ho:AL (BR N' a9 φ) o' o):
  Bi N' (vE c' m' n' t o') (fO cN m' n') (vE c m n t o) (fO a9 m n) φ:=by
 have eG:=T'.hm;have uR:=T'.hn;have hm:=T.hm;have hn:=T.hn;have kn:∀i,i<N'->(cN i=n'↔a9 (φ i)=n):=fun i hi=>by have:=B.inj i n' hi uR;rw[T'.en,en]at this;exact this
 have km:∀i,i<N'->(cN i=m'↔a9 (φ i)=m):=fun i hi=>by have:=B.inj i m' hi eG;rw[T'.em,em]at this;exact this
 have at_:∀i,i<N'->fO cN m' n' i=i->i≠n'/\cN i=i/\a9 (φ i)≠n/\fO a9 m n (φ i)=a9 (φ i)/\(i=m'↔a9 (φ i)=m):=fun i hi hr=>by obtain⟨h1,h2⟩:=Xo T'.em A0 hr;have h3:a9 (φ i)≠n:=fun q=>h1 (by have:=(kn i hi).2 q;omega);refine⟨h1,h2,h3,by unfold fO;rw[if_neg h3],?_⟩;rw[<-km i hi,h2]
 refine⟨fun i j hi hj=>?_,fun i hi hr=>?_,fun i hi hr=>?_⟩;have a1:=kn i hi;have a2:=kn j hj;have a3:=km i hi;have a4:=km j hj;have a5:=B.inj i j hi hj;unfold fO;by_cases e1:cN i=n'<;>by_cases e2:cN j=n';simp[e1,e2,a1.1 e1,a2.1 e2];rw[if_pos e1,if_neg e2,if_pos (a1.1 e1),if_neg (fun q=>e2 (a2.2 q))];exact⟨fun q=>(a4.1 q.symm).symm,fun q=>(a4.2 q.symm).symm⟩;rw[if_neg e1,if_pos e2,if_neg (fun q=>e1 (a1.2 q)),if_pos (a2.1 e2)];exact a3;rw[if_neg e1,if_neg e2,if_neg (fun q=>e1 (a1.2 q)),if_neg (fun q=>e2 (a2.2 q))];exact a5;obtain⟨h1,h2,h3,e,h5⟩:=at_ i hi hr;rw[e,VH (by omega) (by omega) A0,VH (by omega) (by omega) cW,if_neg h1,if_neg h3];by_cases h4:i=m';rw[if_pos h4,if_pos (h5.1 h4)];rw[if_neg h4,if_neg (fun q=>h4 (h5.2 q))];exact B.kd i hi h2;obtain⟨h1,h2,h3,e,h5⟩:=at_ i hi hr;rw[e,VH (by omega) (by omega) A0,VH (by omega) (by omega) cW,if_neg h1,if_neg h3];by_cases h4:i=m';rw[if_pos h4,if_pos (h5.1 h4)];exact ho.mono fun _ _ q=>q.mrg;rw[if_neg h4,if_neg (fun q=>h4 (h5.2 q))];exact(B.ar i hi h2).mono fun _ _ q=>q.mrg
theorem lx{mt:Int->Int->Option Int}{N' N:Nat}{FB TB:Int}{φ:Nat->Nat}(pP:∀s t r,(0<=s/\s<TB)->(0<=t/\t<TB)->mt s t=some r->0<=r/\r<TB):∀(k:Nat)(W' W:List (Int×Int))(c' c:List aS)(cN d' a9 d:Nat->Nat)(D' D:Nat),Rnd N' D' FB TB W' c' cN d'->Rnd N D FB TB W c a9 d->Bi N' c' cN c a9 φ->PL (BR N' a9 φ) W' W->
  (dU mt k W' c' cN d').1=(dU mt k W c a9 d).1/\((dU mt k W' c' cN d').1=true->Bi N' (dU mt k W' c' cN d').2.1 (dU mt k W' c' cN d').2.2.1 (dU mt k W c a9 d).2.1 (dU mt k W c a9 d).2.2.1 φ)
 |0,W',W,c',c,cN,d',a9,d,D',D,K0,hr,B,hP=>⟨rfl,fun _=>B⟩|k+1,[],[],c',c,cN,d',a9,d,D',D,K0,hr,B,hP=>⟨rfl,fun _=>B⟩
 |k+1,p'::W',p::W,c',c,cN,d',a9,d,D',D,K0,hr,B,hP=>by
  have T':=K0.two;have T:=hr.two;obtain⟨⟨⟨p1,e1⟩,p2,e2⟩,hW⟩:=hP;have i1:a9 (φ (cN p'.1.toNat))=a9 p.1.toNat:=by rw[(B.inj (cN p'.1.toNat) p'.1.toNat T'.hm (by omega)).1 T'.em,e1]
  have i2:a9 (φ (cN p'.2.toNat))=a9 p.2.toNat:=by rw[(B.inj (cN p'.2.toNat) p'.2.toNat T'.hn (by omega)).1 T'.en,e2]
  have hi:cN p'.1.toNat=cN p'.2.toNat↔a9 p.1.toNat=a9 p.2.toNat:=by rw[B.inj _ _ (by omega) (by omega),e1,e2]
  unfold dU;by_cases e:cN p'.1.toNat=cN p'.2.toNat;rw[if_pos e,if_pos (hi.1 e)];exact lx pP k W' W c' c cN d' a9 d D' D K0.skip hr.skip B hW;have e':¬ a9 p.1.toNat=a9 p.2.toNat:=fun q=>e (hi.2 q);rw[if_neg e,if_neg e'];have k1:=B.kd _ T'.hm T'.em;have k2:=B.kd _ T'.hn T'.en;have a1:=B.ar _ T'.hm T'.em;have a2:=B.ar _ T'.hn T'.en;rw[i1]at k1 a1;rw[i2]at k2 a2;rw[k1,k2];rcases hm:mt (celN c (a9 p.1.toNat)).kind (celN c (a9 p.2.toNat)).kind with _|t
  exact⟨rfl,fun q=>by cases q⟩;have ht:=pP _ _ _ T.km T.kn hm;exact lx pP k _ _ _ _ _ _ _ _ (D'+1) (D+1) (K0.next e ht) (hr.next e' ht) (B.mrg T' T K0.hp.len hr.hp.len i1 i2 e e' t (AL.merge _ _ _ _ a1 a2)) ((((a1.prs a2).rev).app hW).mono fun _ _ q=>q.mrg)
 |k+1,[],_::_,c',c,cN,d',a9,d,D',D,K0,hr,B,hP=>hP.elim|k+1,_::_,[],c',c,cN,d',a9,d,D',D,K0,hr,B,hP=>hP.elim
theorem AL.map{N':Nat}{a9 cN φ:Nat->Nat}(hr:∀i,i<N'->a9 (φ (cN i))=a9 (φ i)):∀{a b:List aF},AL (BR N' a9 φ) a b->b.map (rN a9)=(a.map (rN cN)).map fun x=>⟨x.Feat,(a9 (φ x.To.toNat):Int)⟩
 |[],[],_=>rfl|x::a,y::b,q=>by rw[zQ,zQ,zQ,AL.map hr q.2.2];congr 1;simp only[rN,rI,zZ,aF.mk.injEq];obtain⟨h1,h2⟩:=q.2.1;exact⟨q.1.symm,by rw[hr _ (by omega),h2]⟩
 |[],_::_,q=>q.elim|_::_,[],q=>q.elim
theorem Bi.canon{N' N D' D:Nat}{FB TB:Int}{c' c:List aS}{cN d' a9 d φ:Nat->Nat}(B:Bi N' c' cN c a9 φ)(h':iP N' D' FB TB c' cN d')(h:iP N D FB TB c a9 d)(Fb:∀i,i<N'->φ i<N){v:Nat}(hv:v<N'):
  gW (cG c a9) ((a9 (φ v):Nat):Int)=gW (cG c' cN) ((cN v:Nat):Int):=by
 have hG:(cG c a9).Nodes.length=N:=by simp[cG,h.len]
 have hG':(cG c' cN).Nodes.length=N':=by simp[cG,h'.len]
 have hr:∀i,i<N'->a9 (φ (cN i))=a9 (φ i):=fun i hi=>(B.inj _ _ (h'.rok.lt i hi) hi).1 (h'.rok.idem i hi);have S:oY (cG c' cN) (cG c a9) (fun v=>(a9 (φ v.toNat):Int)) (InR N' cN):=by refine⟨?_,?_,?_,?_⟩;rintro v ⟨i,rfl,hi,hr⟩ a ha;obtain⟨n1,n2⟩:=h'.nd (v:=(i:Int)) (by omega);rw[n2]at ha;obtain⟨b,hb,rfl⟩:=List.mem_map.1 ha;have:=(h'.ar _ _ (h'.cel (v:=(i:Int)) (by omega))).ok b hb;exact⟨cN b.To.toNat,rfl,h'.rok.lt _ (by omega),h'.rok.idem _ (by omega)⟩;rintro u v ⟨i,rfl,hi,_⟩ ⟨j,rfl,hj,_⟩ e;simp only[zZ]at e;have:=(B.inj i j hi hj).2 (by omega);omega;rintro v ⟨i,rfl,hi,uO⟩;have l1:=h.rok.lt _ (Fb i hi);simp only[zZ];rw[(h.nd (v:=((a9 (φ i):Nat):Int)) (by omega)).1,(h'.nd (v:=(i:Int)) (by omega)).1];exact(B.kd i hi uO).symm;rintro v ⟨i,rfl,hi,uO⟩;have l1:=h.rok.lt _ (Fb i hi);simp only[zZ];rw[(h.nd (v:=((a9 (φ i):Nat):Int)) (by omega)).2,(h'.nd (v:=(i:Int)) (by omega)).2];exact AL.map hr (B.ar i hi uO)
 have l2:=h'.rok.lt v hv;have l3:=h.rok.lt _ (Fb v hv);have:=S.canon h'.gok h.gok (r:=((cN v:Nat):Int)) ⟨by omega,by rw[hG'];omega⟩ ⟨cN v,rfl,l2,h'.rok.idem v hv⟩ (by simp only[zZ,hr v hv];exact⟨by omega,by rw[hG];omega⟩);simp only[zZ,hr v hv]at this;exact this.2
structure Fr(off:Nat)(C0 C:List aS)(a9:Nat->Nat):Prop where
 lt:∀i,i<off->a9 i<off
 ar:∀i,i<off->∀a∈(celN C i).arcs,a.To<(off:Int)
 hi:∀j,off<=j->a9 j=j/\celN C j=celN C0 j
theorem Fr.mrg{off:Nat}{C0 C:List aS}(h:Fr off C0 C a9){m n:Nat}(lm:m<C.length)(ln:n<C.length)(hm:m<off)(hn:n<off)(oG:m≠n)(t:Int){o:List aF}(ho:∀a∈o,a.To<(off:Int)):Fr off C0 (vE C m n t o) (fO a9 m n) where
 lt i hi:=by unfold fO;split;exact hm;exact h.lt i hi
 ar i hi:=by rw[VH lm ln oG];split;intro a ha;cases ha;split;exact ho;exact h.ar i hi
 hi j hj:=by obtain⟨h1,h2⟩:=h.hi j hj;rw[VH lm ln oG,if_neg (by omega),if_neg (by omega)];exact⟨by unfold fO;rw[if_neg (by omega),h1],h2⟩
theorem lj{mt:Int->Int->Option Int}{N off:Nat}{FB TB:Int}{C0:List aS}(pP:∀s t r,(0<=s/\s<TB)->(0<=t/\t<TB)->mt s t=some r->0<=r/\r<TB):∀(k:Nat)(W:List (Int×Int))(c:List aS)(a9 d:Nat->Nat)(D:Nat),Rnd N D FB TB W c a9 d->Fr off C0 c a9->(∀p∈W,p.1<(off:Int)/\p.2<(off:Int))->
  Fr off C0 (dU mt k W c a9 d).2.1 (dU mt k W c a9 d).2.2.1
 |0,W,c,a9,d,D,hr,h,hW=>h|k+1,[],c,a9,d,D,hr,h,hW=>h
 |k+1,p::W,c,a9,d,D,hr,h,hW=>by
  unfold dU;have hp:=hr.wi p (by simp);have xY:=hW p (by simp);by_cases e:a9 p.1.toNat=a9 p.2.toNat;rw[if_pos e];exact lj pP k W c a9 d D hr.skip h fun q hq=>hW q (List.mem_cons_of_mem _ hq);rw[if_neg e];have T:=hr.two;rcases hm:mt (celN c (a9 p.1.toNat)).kind (celN c (a9 p.2.toNat)).kind with _|t
  exact h;have ht:=pP _ _ _ T.km T.kn hm;have l1:=h.lt _ (show p.1.toNat<off by have:=hp.1;omega);have l2:=h.lt _ (show p.2.toNat<off by have:=hp.2;omega);have a1:=h.ar _ l1;have a2:=h.ar _ l2;have aU:=hr.hp.len;have hm:=T.hm;have hn:=T.hn;refine lj pP k _ _ _ _ (D+1) (hr.next e ht) (h.mrg (by omega) (by omega) l1 l2 e t fun a ha=>?_) fun q hq=>?_;rcases(PP _ _ T.am.up T.an.up).mem ha with q |q
  exact a1 a q;exact a2 a q;rcases yD.1 hq with hq |hq;obtain⟨x,hx,y,hy,_,rfl⟩:=mf (List.mem_reverse.1 hq);exact⟨a1 x hx,a2 y hy⟩;exact hW q (List.mem_cons_of_mem _ hq)
theorem Fr.wide{off MK:Nat}{C0 C:List aS}(h:Fr off C0 C a9)(sG:off<=MK)(ha:∀j,off<=j->j<MK->∀a∈(celN C0 j).arcs,a.To<(MK:Int)):Fr MK C0 C a9 where
 lt i hi:=by by_cases q:i<off;have:=h.lt i q;omega;rw[(h.hi i (by omega)).1];exact hi
 ar i hi a hm:=by by_cases q:i<off;have:=h.ar i q a hm;omega;rw[(h.hi i (by omega)).2]at hm;exact ha i (by omega) hi a hm
 hi j hj:=h.hi j (by omega)
def phi(o:List Int)(off i:Nat):Nat:=if i<o.length then((o[i]?).getD 0).toNat else off+(i-o.length)
def lU(f:GFS)(x:List aT):List aS:=f.Nodes.map (mL 0)++x.map (mL f.Nodes.length)
variable{N:Nat}
variable{D:Nat}
variable{off:Nat}
variable{C0:List aS}
variable{C:List aS}
variable{a9:Nat->Nat}
variable{d:Nat->Nat}
theorem qwe{FB TB:Int}(h:iP N D FB TB C a9 d)(hf:Fr off C0 C a9)(h0:0<off)(hN:off<=N):∀u∈pX (cG C a9) (rI a9 0),∃i:Nat,u=(i:Int)/\i<off/\a9 i=i:=by
 have hS:oY (cG C a9) (cG C a9) id (fun u=>∃i:Nat,u=(i:Int)/\i<off/\a9 i=i):=by
  refine⟨?_,fun u v _ _ e=>e,fun _ _=>rfl,fun v _=>?_⟩;rintro v ⟨i,rfl,hi,uO⟩ a ha;rw[(h.nd (v:=(i:Int)) (by omega)).2]at ha;obtain⟨b,hb,rfl⟩:=List.mem_map.1 ha;have h1:=(h.ar _ _ (h.cel (v:=(i:Int)) (by omega))).ok b hb;have h2:=hf.ar i hi b hb;exact⟨a9 b.To.toNat,rfl,hf.lt _ (by omega),h.rok.idem _ (by omega)⟩;have:(fun a:aF=>(⟨a.Feat,id a.To⟩:aF))=id:=by funext a;rfl
  rw[this,List.map_id];rfl
 exact(hS.dfs (cG C a9).Nodes.length [] (rI a9 0) ⟨a9 0,rfl,hf.lt 0 h0,h.rok.idem 0 (by omega)⟩ (by simp)).2
theorem z6g{FB TB:Int}(h:iP N D FB TB C a9 d)(hf:Fr off C0 C a9)(h0:0<off){x:List aT}(hx:off+x.length<=N)(hC:∀(j:Nat)(y:aT),x[j]? = some y->celN C0 (off+j)=mL off y)(lK:∀y∈x,∀a∈y.Arcs,0<=a.To/\a.To<(x.length:Int)){o:List Int}(ho:o=pX (cG C a9) (rI a9 0)):
  Bi (o.length+x.length) (lU (gW (cG C a9) (rI a9 0)) x) id C a9 (phi o off)/\(∀i,i<o.length+x.length->phi o off i<N)/\a9 (phi o off 0)=a9 0/\0<o.length/\o.Nodup/\o.length<=off:=by
 have hG:(cG C a9).Nodes.length=N:=by simp[cG,h.len]
 have hr:=h.rI (v:=0) (by omega);obtain⟨ok,_⟩:=PC h.gok (r:=rI a9 0) (by rw[qH,hG];exact hr);have z0:=qwe h hf h0 (by omega);rw[<-ho]at ok z0;have lo:∀i,i<o.length->∃u:Nat,o[i]? = some (u:Int)/\phi o off i=u/\u<off/\a9 u=u:=fun i hi=>by
  obtain⟨u,e,h1,h2⟩:=z0 o[i] (List.getElem_mem hi);have e2:o[i]? = some (u:Int):=by rw[List.getElem?_eq_getElem hi,e]
  exact⟨u,e2,by rw[phi,if_pos hi,e2];rfl,h1,h2⟩
 have BE:∀j,phi o off (o.length+j)=off+j/\a9 (off+j)=off+j:=fun j=>⟨by rw[phi,if_neg (by omega)];omega,(hf.hi _ (by omega)).1⟩;have fl:(gW (cG C a9) (rI a9 0)).Nodes=o.map (lY (cG C a9) o):=by rw[ho];rfl
 have c1:∀(i u:Nat),o[i]? = some (u:Int)->celN (lU (gW (cG C a9) (rI a9 0)) x) i=mL 0 (lY (cG C a9) o (u:Int)):=fun i u e=>by have hi:=(zG.1 e).1;rw[celN,lU,fl,List.getElem?_append_left (by simpa using hi),List.getElem?_map,List.getElem?_map,e];rfl
 have c2:∀(j:Nat)(y:aT),x[j]? = some y->celN (lU (gW (cG C a9) (rI a9 0)) x) (o.length+j)=mL o.length y:=fun j y e=>by rw[celN,lU,fl,List.getElem?_append_right (by simp),List.getElem?_map];simp only[yA,Nat.add_sub_cancel_left,e];rfl
 have split:∀i,i<o.length+x.length->i<o.length\/∃j y,i=o.length+j/\x[j]? = some y:=fun i hi=>by by_cases q:i<o.length;exact .inl q;exact .inr ⟨i-o.length,x[i-o.length],by omega,List.getElem?_eq_getElem (by omega)⟩
 have tG:∀(u:Nat),(u:Int)∈o->u<off->∀a∈(celN C u).arcs,rI a9 a.To∈o:=fun u hu aG a ha=>by have:=ok.clo (u:Int) hu (rN a9 a) (by rw[(h.nd (v:=(u:Int)) (by omega)).1];exact List.mem_map_of_mem ha);exact this
 refine⟨⟨fun i j hi hj=>?_,fun i hi _=>?_,fun i hi _=>?_⟩,fun i hi=>?_,?_,?_,ok.seen.nd,?_⟩;simp only[id];rcases split i hi with q1 |⟨a,y,rfl,ey⟩<;>rcases split j hj with q2 |⟨b,z,rfl,ez⟩;obtain⟨u,e1,e2,e3,e4⟩:=lo i q1;obtain⟨v,g1,g2,g3,g4⟩:=lo j q2;rw[e2,g2,e4,g4];refine⟨fun q=>by subst q;rw[e1]at g1;have:=Option.some.inj g1;omega,fun q=>?_⟩;exact(List.getElem?_inj q1 ok.seen.nd).1 (by rw[e1,g1,q]);obtain⟨u,e1,e2,e3,e4⟩:=lo i q1;rw[e2,e4,(BE b).1,(BE b).2];omega;obtain⟨v,g1,g2,g3,g4⟩:=lo j q2;rw[g2,g4,(BE a).1,(BE a).2];omega;rw[(BE a).1,(BE a).2,(BE b).1,(BE b).2];omega;rcases split i hi with q1 |⟨a,y,rfl,ey⟩;obtain⟨u,e1,e2,e3,e4⟩:=lo i q1;rw[c1 i u e1,e2,e4];show(nd (cG C a9) (u:Int)).Typex=_;rw[(h.nd (v:=(u:Int)) (by omega)).1];rfl;rw[c2 a y ey,(BE a).1,(BE a).2,(hf.hi _ (by omega)).2,hC a y ey];rfl;rcases split i hi with q1 |⟨a,y,rfl,ey⟩;obtain⟨u,e1,e2,e3,e4⟩:=lo i q1;rw[c1 i u e1,e2,e4];have es:(mL 0 (lY (cG C a9) o (u:Int))).arcs=(celN C u).arcs.map fun a=>nB 0 (mK o (rN a9 a)):=by show((lF (cG C a9) (u:Int)).map (mK o)).map (nB 0)=_;rw[(h.nd (v:=(u:Int)) (by omega)).2,List.map_map,List.map_map];rfl
 rw[es];have:(celN C u).arcs=(celN C u).arcs.map id:=(List.map_id _).symm;rw[this,List.map_map];refine AL.of2 fun a ha=>⟨rfl,?_⟩;have hm:=tG u (zX e1) e3 a ha;have aG:=List.idxOf_lt_length_of_mem hm;obtain⟨w,g1,g2,g3,g4⟩:=lo _ aG;have ew:rI a9 a.To=(w:Int):=by have:=List.getElem?_eq_getElem aG;rw[List.getElem_idxOf,g1]at this;exact(Option.some.inj this).symm
 simp only[Function.comp,id,nB,mK,rN,Int.natCast_zero,Int.add_zero];refine⟨by omega,?_⟩;rw[zZ,g2,g4];simp only[rI]at ew;omega;rw[c2 a y ey,(BE a).1,(BE a).2,(hf.hi _ (by omega)).2,hC a y ey];refine AL.of2 fun b hb=>⟨rfl,?_⟩;have ht:=lK y (zX ey) b hb;simp only[nB];refine⟨by omega,?_⟩;have e1:(b.To+(o.length:Int)).toNat=o.length+b.To.toNat:=by omega
 have e2:(b.To+(off:Int)).toNat=off+b.To.toNat:=by omega
 rw[e1,e2,(BE _).1];rcases split i hi with q1 |⟨a,y,rfl,ey⟩;obtain⟨u,e1,e2,e3,e4⟩:=lo i q1;omega;rw[(BE a).1];omega;obtain⟨t,e⟩:=ok.head;rw[phi,if_pos (by rw[e];simp),e];simp only[List.getElem?_cons_zero,Option.getD_some,rI,zZ];exact h.rok.idem 0 (by omega);obtain⟨t,e⟩:=ok.head;rw[e];simp;exact Yo off ok.seen.nd fun v hv=>by obtain⟨i,rfl,h1,_⟩:=z0 v hv;omega
theorem qx4:∀(o:List Nat)(C:List aS),o.Nodup->(∀u∈o,u<C.length)->(o.map fun u=>(celN C u).arcs.length).sum<=tot C
 |[],C,_,_=>by simp
 |u::o,C,hn,hl=>by
  obtain⟨h1,h2⟩:=List.nodup_cons.1 hn;have hu:=hl u (by simp);have eu:C[u]? = some (celN C u):=by rw[celN,List.getElem?_eq_getElem hu];rfl
  have ih:=qx4 o (C.set u ⟨-1,0,[]⟩) h2 fun v hv=>by rw[List.length_set];exact hl v (List.mem_cons_of_mem _ hv)
  have e:(o.map fun v=>(celN (C.set u ⟨-1,0,[]⟩) v).arcs.length)=o.map fun v=>(celN C v).arcs.length:=List.map_congr_left fun v hv=>by rw[celN,List.getElem?_set_ne (fun q=>h1 (by rw[q];exact hv))];rfl
  have h3:=Jd ⟨-1,0,[]⟩ eu;rw[e]at ih;simp only[zQ,List.sum_cons,zS]at h3 ⊢;omega
theorem Hv{h:dW}{ws:List Nat}(hh:pJ h ws)(hp:iP N D (h.Feats.length:Int) (ws.length:Int) C a9 d)(hf:Fr off C0 C a9)(h0:0<off)(hN:off<=N){x:GFS}(hx:AT h x){o:List Int}(ho:o=pX (cG C a9) (rI a9 0)):
  iP (o.length+x.Nodes.length) 0 (h.Feats.length:Int) (ws.length:Int) (lU (gW (cG C a9) (rI a9 0)) x.Nodes) id (fun _=>0)/\tot (lU (gW (cG C a9) (rI a9 0)) x.Nodes)<=tot C+144/\(gW (cG C a9) (rI a9 0)).Nodes.length=o.length/\
  (∀y∈(gW (cG C a9) (rI a9 0)).Nodes,y.Arcs.length<=tot C/\∀a∈y.Arcs,0<=a.To/\a.To<(o.length:Int)):=by
 have hG:(cG C a9).Nodes.length=N:=by simp[cG,hp.len]
 have hr:=hp.rI (v:=0) (by omega);obtain⟨ok,_⟩:=PC hp.gok (r:=rI a9 0) (by rw[qH,hG];exact hr);have z0:=qwe hp hf h0 hN;rw[<-ho]at ok z0;have fl:(gW (cG C a9) (rI a9 0)).Nodes=o.map (lY (cG C a9) o):=by rw[ho];rfl
 have fll:(gW (cG C a9) (rI a9 0)).Nodes.length=o.length:=by rw[fl,yA]
 have fF:=hp.len;have nodes:∀u∈o,∃i:Nat,u=(i:Int)/\i<off/\(lY (cG C a9) o u).Typex=(celN C i).kind/\(lY (cG C a9) o u).Arcs=(celN C i).arcs.map (fun a=>mK o (rN a9 a))/\C[i]? = some (celN C i):=fun u hu=>by obtain⟨i,rfl,h1,h2⟩:=z0 u hu;obtain⟨n1,n2⟩:=hp.nd (v:=(i:Int)) (by omega);refine⟨i,rfl,h1,?_,?_,hp.celN (by omega)⟩;show(nd (cG C a9) (i:Int)).Typex=_;rw[n1];rfl;show(lF (cG C a9) (i:Int)).map (mK o)=_;rw[n2,List.map_map];rfl
 have lK:∀u∈o,∀a∈(lY (cG C a9) o u).Arcs,0<=a.To/\a.To<(o.length:Int):=fun u hu a ha=>by obtain⟨b,hb,rfl⟩:=List.mem_map.1 (show a∈(lF (cG C a9) u).map (mK o)from ha);have hm:=ok.clo u hu b (EJ.1 hb);have:=List.idxOf_lt_length_of_mem hm;simp only[mK];omega
 refine⟨⟨⟨fun i hi=>hi,fun i hi=>rfl,fun i hi=>rfl,fun i hi=>zF _⟩,⟨fun i c hc _=>?_,fun i c hc cW=>absurd rfl cW⟩,by simp[lU,fll],fun i c hc=>?_,fun i c hc=>?_⟩,?_,fll,?_⟩;rcases yD.1 (zX hc)with q |q<;>(obtain⟨y,_,rfl⟩:=List.mem_map.1 q;rfl);rcases yD.1 (zX hc)with q |q;rw[fl]at q;obtain⟨y,hy,rfl⟩:=List.mem_map.1 q;obtain⟨u,hu,rfl⟩:=List.mem_map.1 hy;obtain⟨i,_,h1,h2,h3,h4⟩:=nodes u hu;have ha:=hp.ar _ _ h4;refine⟨?_,fun a hm=>?_⟩;show j7 ((lY (cG C a9) o u).Arcs.map (nB 0));refine OC ?_;rw[h3];have:=ha.up;unfold j7 at*;rw[List.pairwise_map];exact this.imp fun{a b} q=>q
 obtain⟨b,hb,rfl⟩:=List.mem_map.1 (show a∈(lY (cG C a9) o u).Arcs.map (nB 0)from hm);have h5:=lK u hu b hb;rw[h3]at hb;obtain⟨z,hz,rfl⟩:=List.mem_map.1 hb;have h6:=ha.ok z hz;simp only[nB,mK,rN]at h5 ⊢;exact⟨h6.1,h6.2.1,by omega,by omega⟩;rw[fll]at q;exact(hx.flat (zF _) q).ar;rcases yD.1 (zX hc)with q |q;rw[fl]at q;obtain⟨y,hy,rfl⟩:=List.mem_map.1 q;obtain⟨u,hu,rfl⟩:=List.mem_map.1 hy;obtain⟨i,_,h1,h2,h3,h4⟩:=nodes u hu;have:=hp.kd _ _ h4;rw[<-h2]at this;exact this;rw[fll]at q;have:=(hx.flat (zF _) q).kd;rw[hh.tl]at this;exact this;have t2:=vp (cells:=x.Nodes.map (mL o.length)) fun c hc=>(hx.flat (N:=o.length+x.Nodes.length) (zF _) hc).sm
 have GW:=hx.sm.nodes;rw[yA]at t2;have t1:tot ((gW (cG C a9) (rI a9 0)).Nodes.map (mL 0))<=tot C:=by
  have h1:=qx4 (o.map Int.toNat) C (by rw[List.nodup_iff_pairwise_ne,List.pairwise_map];refine List.Pairwise.imp_of_mem (fun{a b} ha hb q=>?_) (List.nodup_iff_pairwise_ne.1 ok.seen.nd);obtain⟨i,rfl,_⟩:=z0 a ha;obtain⟨j,rfl,_⟩:=z0 b hb;intro e;exact q (by simp only[zZ]at e;rw[e])) fun u hu=>by obtain⟨v,hv,rfl⟩:=List.mem_map.1 hu;obtain⟨i,rfl,h1,_⟩:=z0 v hv;simp only[zZ];omega
  rw[List.map_map]at h1;rw[tot,fl,List.map_map,List.map_map];refine Nat.le_trans (Nat.le_of_eq ?_) h1;congr 1;refine List.map_congr_left fun u hu=>?_;obtain⟨i,rfl,h1,h2,h3,h4⟩:=nodes u hu;simp only[Function.comp,mL,h3,yA,zZ]
 have e:tot (lU (gW (cG C a9) (rI a9 0)) x.Nodes)=tot ((gW (cG C a9) (rI a9 0)).Nodes.map (mL 0))+tot (x.Nodes.map (mL o.length)):=by simp only[lU,fll,tot,List.map_append,List.sum_append]
 omega;intro y hy;rw[fl]at hy;obtain⟨u,hu,rfl⟩:=List.mem_map.1 hy;refine⟨?_,lK u hu⟩;obtain⟨i,rfl,h1,h2,h3,h4⟩:=nodes u hu;rw[h3,yA];exact PA h4
def ext(N:Nat)(f:Nat->Nat)(i:Nat):Nat:=if i<N then f i else i
theorem Oo{h:dW}{ws:List Nat}(hh:pJ h ws){n:Nat}(hn:2000<=n):Uq ws (cX n h):=⟨fun s t hs ht e=>by
  rcases Io hh hs ht hn with⟨_,_,h3⟩|⟨r,h1,_⟩;exact h3;rw[h1]at e;exact(Option.some_ne_none _ e).elim,fun s t r hs ht e=>by
  rcases Io hh hs ht hn with⟨h1,_⟩|⟨r',h1,_,h3,h4⟩;rw[h1]at e;cases e;rw[h1]at e;cases e;exact⟨h3,h4⟩⟩
theorem z4q{h:dW}{c:List aS}{tl:List bX}{m:List dJ}{a b:Int}{n t:Nat}(ha:0<=a/\a<(c.length:Int))(hb:0<=b/\b<(c.length:Int)):JV n a b h.Types h.Feats c tl t m=JX h.Types h.Feats tl m n n (stk [(a,b)]) c tl t:=by
 have q1:decide (a<0)=false:=by simp;omega
 have q2:decide (a>=(c.length:Int))=false:=by simp only[decide_eq_false_iff_not];omega
 have q3:decide (b<0)=false:=by simp;omega
 have q4:decide (b>=(c.length:Int))=false:=by simp only[decide_eq_false_iff_not];omega
 simp only[JV,q1,q2,q3,q4,zD,aO];rfl
variable{h:dW}
variable{ws:List Nat}
variable{n:Nat}
theorem TG(hh:pJ h ws){f x:GFS}(hf:cU f 1000)(hx:cU x 1000)(hft:∀y∈f.Nodes,∀a∈y.Arcs,0<=a.To/\a.To<1000)(hxt:∀y∈x.Nodes,∀a∈y.Arcs,0<=a.To/\a.To<1000)(jn:0<f.Nodes.length)(hxn:0<x.Nodes.length)
  (hp:iP (f.Nodes.length+x.Nodes.length) 0 (h.Feats.length:Int) (ws.length:Int) (lU f x.Nodes) id (fun _=>0)) (ht:tot (lU f x.Nodes)<=900) (hN:f.Nodes.length+x.Nodes.length<=1000) (hn:3000000<=n):
  ∃D',Lb n h f x=some (if(dU (cX n h) n [((0:Int),(f.Nodes.length:Int))] (lU f x.Nodes) id (fun _=>0)).1=true then(OL n (dU (cX n h) n [((0:Int),(f.Nodes.length:Int))] (lU f x.Nodes) id (fun _=>0)).2.1 (dU (cX n h) n [((0:Int),(f.Nodes.length:Int))] (lU f x.Nodes) id (fun _=>0)).2.2.1 0,true)else(⟨[]⟩,false))/\
   Rnd (f.Nodes.length+x.Nodes.length) 0 (h.Feats.length:Int) (ws.length:Int) [((0:Int),(f.Nodes.length:Int))] (lU f x.Nodes) id (fun _=>0)/\
   iP (f.Nodes.length+x.Nodes.length) D' (h.Feats.length:Int) (ws.length:Int) (dU (cX n h) n [((0:Int),(f.Nodes.length:Int))] (lU f x.Nodes) id (fun _=>0)).2.1 (dU (cX n h) n [((0:Int),(f.Nodes.length:Int))] (lU f x.Nodes) id (fun _=>0)).2.2.1 (dU (cX n h) n [((0:Int),(f.Nodes.length:Int))] (lU f x.Nodes) id (fun _=>0)).2.2.2:=by
 have aU:=hp.len;have DD:=v4.init aU;have a1:=M_ (l:=f.Nodes) hf hft (P:=[]) (T:=[]) (A:=[]) (by simp) rfl rfl (n:=n) (by omega) h.Types h.Feats;simp only[zS,List.nil_append]at a1;have a2:=M_ (l:=x.Nodes) hx hxt (P:=tT 0 f.Nodes.length) (T:=f.Nodes.map aT.Typex) (A:=f.Nodes.map fun x=>x.Arcs.map (nB 0)) (by rw[V1];omega) (by simp[V1]) (by simp[V1]) (n:=n) (by omega) h.Types h.Feats;rw[V1,z7m]at a2;have hT:f.Nodes.map aT.Typex++x.Nodes.map aT.Typex=(lU f x.Nodes).map aS.kind:=by rw[lU,List.map_append,List.map_map,List.map_map];rfl
 have hA:(f.Nodes.map fun x=>x.Arcs.map (nB 0))++(x.Nodes.map fun x=>x.Arcs.map (nB f.Nodes.length))=(lU f x.Nodes).map aS.arcs:=by rw[lU,List.map_append,List.map_map,List.map_map];rfl
 rw[hT,hA]at a2;have qS:Rnd (f.Nodes.length+x.Nodes.length) 0 (h.Feats.length:Int) (ws.length:Int) [((0:Int),(f.Nodes.length:Int))] (lU f x.Nodes) id (fun _=>0):=⟨hp,fun p hp=>by simp only[zI,List.not_mem_nil,or_false]at hp;subst hp;exact⟨⟨by simp,by show(0:Int)<_;omega⟩,⟨by simp,by show(f.Nodes.length:Int)<_;omega⟩⟩⟩;have pP:=Wu hh (n:=n) (by omega);have xu:[((0:Int),(f.Nodes.length:Int))].length+tot (lU f x.Nodes)<n:=by simp only[zO,zS];omega
 obtain⟨P',T',A',j1,j2⟩:=mz hh (n:=n) (by omega) n _ _ _ _ 0 _ _ _ qS DD xu (by simp only[zO,zS];omega);obtain⟨D',u1,u2⟩:=Wl pP n _ _ _ _ 0 qS xu;have js:wg n 0 (f.Nodes.length:Int) h.Types h.Feats (tT 0 (f.Nodes.length+x.Nodes.length)) ((lU f x.Nodes).map aS.kind) ((lU f x.Nodes).map aS.arcs)=MI h.Types h.Feats n n (stk [((0:Int),(f.Nodes.length:Int))]) (tT 0 (f.Nodes.length+x.Nodes.length)) ((lU f x.Nodes).map aS.kind) ((lU f x.Nodes).map aS.arcs):=rfl;refine⟨D',?_,qS,u2⟩;simp only[Lb,a1,aO,a2,js,j1];rcases kD:(dU (cX n h) n [((0:Int),(f.Nodes.length:Int))] (lU f x.Nodes) id (fun _=>0)).1 with _|_;simp;obtain⟨P2,g1⟩:=z3o u2 (by simp only[zO,zS]at u1;omega) (by omega) (by simp only[zO,zS]at u1;omega) (j2 kD) (n:=n) (by omega) (v:=0) ⟨by omega,by omega⟩ h.Types h.Feats;simp only[Bool.not_true,zD,g1,aO,if_true]
def fV(mt:Int->Int->Option Int)(n:Nat):List Nat->List aS->(Nat->Nat)->(Nat->Nat)->Bool×List aS×(Nat->Nat)×(Nat->Nat)
 |[],C,a9,d=>(true,C,a9,d)|c::cs,C,a9,d=>if(dU mt n [((0:Int),(c:Int))] C a9 d).1=true then fV mt n cs (dU mt n [((0:Int),(c:Int))] C a9 d).2.1 (dU mt n [((0:Int),(c:Int))] C a9 d).2.2.1 (dU mt n [((0:Int),(c:Int))] C a9 d).2.2.2 else(false,C,a9,d)
structure uZ(h:dW)(ws:List Nat)(N B:Nat)(cs:List Nat)(C:List aS)(a9 d:Nat->Nat):Prop where
 ok:∃D,iP N D (h.Feats.length:Int) (ws.length:Int) C a9 d/\D+tot C+cs.length<=B
 cs:∀c∈cs,c<N
 pos:0<N
variable{N:Nat}
variable{c:Nat}
variable{cs:List Nat}
variable{C:List aS}
variable{a9:Nat->Nat}
variable{d:Nat->Nat}
theorem uZ.rnd{B:Nat}(r:uZ h ws N B (c::cs) C a9 d):∃D,Rnd N D (h.Feats.length:Int) (ws.length:Int) [((0:Int),(c:Int))] C a9 d/\D+tot C+cs.length+1<=B:=by
 obtain⟨D,h1,h2⟩:=r.ok;refine⟨D,⟨h1,fun p hp=>?_⟩,by simp only[zO]at h2;omega⟩;simp only[zI,List.not_mem_nil,or_false]at hp;subst hp;have h3:=r.cs c (by simp);have h4:=r.pos;exact⟨⟨by simp,by show(0:Int)<_;omega⟩,⟨by simp,by show(c:Int)<_;omega⟩⟩
theorem uZ.next(hh:pJ h ws){B:Nat}(hn:2000<=n)(hB:B<n)(r:uZ h ws N B (c::cs) C a9 d):uZ h ws N B cs (dU (cX n h) n [((0:Int),(c:Int))] C a9 d).2.1 (dU (cX n h) n [((0:Int),(c:Int))] C a9 d).2.2.1 (dU (cX n h) n [((0:Int),(c:Int))] C a9 d).2.2.2:=by
 obtain⟨D,h1,h2⟩:=r.rnd;obtain⟨D',u1,u2⟩:=Wl (Wu hh (n:=n) hn) n _ _ _ _ D h1 (by simp only[zO,zS];omega);simp only[zO,zS]at u1;exact⟨⟨D',u2,by omega⟩,fun c hc=>r.cs c (List.mem_cons_of_mem _ hc),r.pos⟩
theorem uZ.stay{B:Nat}(r:uZ h ws N B (c::cs) C a9 d):uZ h ws N B [] C a9 d:=by
 obtain⟨D,h1,h2⟩:=r.ok;exact⟨⟨D,h1,by simp only[zS];omega⟩,fun c hc=>(by cases hc),r.pos⟩
theorem Jh{h:dW}{ws:List Nat}(hh:pJ h ws){N B:Nat}{n:Nat}(hn:2000<=n)(hB:B<n):∀(cs:List Nat)(C:List aS)(a9 d:Nat->Nat),uZ h ws N B cs C a9 d->uZ h ws N B [] (fV (cX n h) n cs C a9 d).2.1 (fV (cX n h) n cs C a9 d).2.2.1 (fV (cX n h) n cs C a9 d).2.2.2
 |[],C,a9,d,r=>r|c::cs,C,a9,d,r=>by unfold fV;by_cases e:(dU (cX n h) n [((0:Int),(c:Int))] C a9 d).1=true;rw[if_pos e];exact Jh hh hn hB cs _ _ _ (r.next hh hn hB);rw[if_neg e];exact r.stay
theorem Fy.wide'{r:Nat->Nat}{W:List (Int×Int)}{x y:Nat}(h:Fy N r [] x y):Fy N r W x y:=fun q q1 _=>h q q1 (fun _ hz=>by cases hz)
theorem Jg{h:dW}{ws:List Nat}(hh:pJ h ws){N B:Nat}{L:List aT}(hL:v01 N ws L){n:Nat}(hn:2000<=n)(hB:B<n):∀(cs:List Nat)(C:List aS)(a9 d:Nat->Nat),uZ h ws N B cs C a9 d->TC ws N L [] C a9->
  ((fV (cX n h) n cs C a9 d).1=true->TC ws N L [] (fV (cX n h) n cs C a9 d).2.1 (fV (cX n h) n cs C a9 d).2.2.1/\(∀c∈cs,(fV (cX n h) n cs C a9 d).2.2.1 0=(fV (cX n h) n cs C a9 d).2.2.1 c)/\(∀i j,a9 i=a9 j->(fV (cX n h) n cs C a9 d).2.2.1 i=(fV (cX n h) n cs C a9 d).2.2.1 j))/\
  ∀q,O4 L q->KC N [] a9 q->(∀c∈cs,q 0=q c)->((fV (cX n h) n cs C a9 d).1=true->KC N [] (fV (cX n h) n cs C a9 d).2.2.1 q)/\((fV (cX n h) n cs C a9 d).1=false->rh ws L q)
 |[],C,a9,d,r,t=>⟨fun _=>⟨t,fun c hc=>(by cases hc),fun i j e=>e⟩,fun q _ hu _=>⟨fun _=>hu,fun e=>(by cases e)⟩⟩|c::cs,C,a9,d,r,t=>by
  obtain⟨D,h1,h2⟩:=r.rnd;have t':TC ws N L [((0:Int),(c:Int))] C a9:=⟨fun j x a hj ha=>by obtain⟨b,b1,b2,b3⟩:=t.cov j x a hj ha;exact⟨b,b1,b2,b3.wide'⟩,t.snd,t.kd⟩;have hk:[((0:Int),(c:Int))].length+tot C<n:=by simp only[zO,zS];omega
  obtain⟨s1,s2⟩:=uj (Oo hh hn) hL n _ C a9 d D h1 t' hk;have zP:=pw (Wu hh (n:=n) hn) n _ _ _ _ D h1 hk;have und:∀q,KC N [] a9 q->(∀x∈c::cs,q 0=q x)->KC N [((0:Int),(c:Int))] a9 q:=fun q hu hc=>⟨hu.r,fun p hp=>by simp only[zI,List.not_mem_nil,or_false]at hp;subst hp;simp only[zZ];exact hc c (by simp)⟩;unfold fV;by_cases e:(dU (cX n h) n [((0:Int),(c:Int))] C a9 d).1=true;rw[if_pos e];obtain⟨g1,g2⟩:=Jg hh hL hn hB cs _ _ _ (r.next hh hn hB) (s1 e);refine⟨fun b=>?_,fun q hq hu hc=>g2 q hq ((s2 q hq (und q hu hc)).1 e) fun x hx=>hc x (List.mem_cons_of_mem _ hx)⟩;obtain⟨k1,k2,k3⟩:=g1 b;refine⟨k1,fun x hx=>?_,fun i j q=>k3 i j (Co _ _ _ _ _ q)⟩;rcases zI.1 hx with rfl |hx;have:=zP e _ (List.mem_cons_self);simp only[zZ]at this;exact k3 _ _ this;exact k2 x hx;rw[if_neg e];have e':(dU (cX n h) n [((0:Int),(c:Int))] C a9 d).1=false:=by simpa using e
  exact⟨fun b=>(by cases b),fun q hq hu hc=>⟨fun b=>(by cases b),fun _=>(s2 q hq (und q hu hc)).2 e'⟩⟩
theorem z7n(hh:pJ h ws){B:Nat}{L:List aT}(hL:v01 N ws L)(hn:2000<=n)(hB:B<n){es:List Nat}(hm:∀c,c∈cs↔c∈es)(r:uZ h ws N B cs C id (fun _=>0))(r':uZ h ws N B es C id (fun _=>0))(t:TC ws N L [] C id):
  (fV (cX n h) n es C id (fun _=>0)).1=(fV (cX n h) n cs C id (fun _=>0)).1/\((fV (cX n h) n cs C id (fun _=>0)).1=true->gW (cG (fV (cX n h) n es C id (fun _=>0)).2.1 (fV (cX n h) n es C id (fun _=>0)).2.2.1) (((fV (cX n h) n es C id (fun _=>0)).2.2.1 0:Nat):Int)=gW (cG (fV (cX n h) n cs C id (fun _=>0)).2.1 (fV (cX n h) n cs C id (fun _=>0)).2.2.1) (((fV (cX n h) n cs C id (fun _=>0)).2.2.1 0:Nat):Int)):=by
 have hw:∀w∈ws,w≠0:=fun w hw=>(hh.ok w hw).1;have one:∀{cs es:List Nat},(∀c,c∈cs↔c∈es)->uZ h ws N B cs C id (fun _=>0)->uZ h ws N B es C id (fun _=>0)->(fV (cX n h) n cs C id (fun _=>0)).1=true->(fV (cX n h) n es C id (fun _=>0)).1=true/\((fV (cX n h) n es C id (fun _=>0)).1=true->∀i j,i<N->j<N->(fV (cX n h) n es C id (fun _=>0)).2.2.1 i=(fV (cX n h) n es C id (fun _=>0)).2.2.1 j->(fV (cX n h) n cs C id (fun _=>0)).2.2.1 i=(fV (cX n h) n cs C id (fun _=>0)).2.2.1 j):=by
  intro cs es hm r r' e;obtain⟨a1,a2⟩:=Jg hh hL hn hB cs C id _ r t;obtain⟨b1,b2⟩:=Jg hh hL hn hB es C id _ r' t;obtain⟨t1,t2,t3⟩:=a1 e;obtain⟨D,hp,_⟩:=(Jh hh hn hB cs C id _ r).ok;have hq:=t1.clo hL hp;have hu:KC N [] id (fV (cX n h) n cs C id (fun _=>0)).2.2.1:=⟨fun i j _ _ e=>by rw[show i=j from e],fun p hp=>by cases hp⟩;obtain⟨g1,g2⟩:=b2 _ hq hu fun c hc=>t2 c ((hm c).2 hc);refine⟨?_,fun e2=>(g1 e2).r⟩;rcases e2:(fV (cX n h) n es C id (fun _=>0)).1 with _|_
  exact absurd (g2 e2) (t1.good hL hw hp);rfl
 have hb:(fV (cX n h) n es C id (fun _=>0)).1=(fV (cX n h) n cs C id (fun _=>0)).1:=by rw[Bool.eq_iff_iff];exact⟨fun e=>(one (fun c=>(hm c).symm) r' r e).1,fun e=>(one hm r r' e).1⟩
 refine⟨hb,fun e=>?_⟩;have e':=hb.trans e;obtain⟨D,hp,_⟩:=(Jh hh hn hB cs C id _ r).ok;obtain⟨D',jd,_⟩:=(Jh hh hn hB es C id _ r').ok;have t1:=((Jg hh hL hn hB cs C id _ r t).1 e).1;have t2:=((Jg hh hL hn hB es C id _ r' t).1 e').1;exact(t1.qg hL hp).read hh.nod (fun j c a hj ha=>by have:=hL.ar j c a hj ha;have:=hL.len;omega) (t2.qg hL jd) hp.gok jd.gok (fun i j hi hj=>by rw[hL.len]at hi hj;exact⟨(one (fun c=>(hm c).symm) r' r e').2 e i j hi hj,(one hm r r' e).2 e' i j hi hj⟩) (by rw[hL.len];exact r.pos)
def gQ:Nat->List GFS->List aS
 |_,[]=>[]|k,f::l=>f.Nodes.map (mL k)++gQ (k+f.Nodes.length) l
def starts:Nat->List GFS->List Nat
 |_,[]=>[]|k,f::l=>k::starts (k+f.Nodes.length) l
def AQ:List GFS->Nat
 |[]=>0|f::l=>f.Nodes.length+AQ l
theorem qv3:∀(l:List GFS)(k:Nat),(gQ k l).length=AQ l
 |[],_=>rfl|f::l,k=>by rw[gQ,zU,yA,qv3 l,AQ]
theorem qpf:∀(l:List GFS)(k:Nat),(starts k l).length=l.length
 |[],_=>rfl|f::l,k=>by rw[starts,zO,zO,qpf l]
theorem qtj{h:dW}:∀(l:List GFS)(k:Nat),(∀x∈l,AT h x)->∀c∈starts k l,c<k+AQ l
 |[],_,_,c,hc=>by cases hc
 |f::l,k,hf,c,hc=>by have hn:=(hf f (by simp)).ne;rw[AQ];rcases zI.1 hc with rfl |hc;omega;have:=qtj l _ (fun x hx=>hf x (List.mem_cons_of_mem _ hx)) c hc;omega
theorem y?{h:dW}:∀(l:List GFS),(∀x∈l,AT h x)->AQ l<=12*l.length
 |[],_=>by simp[AQ]
 |f::l,hf=>by have h1:=(hf f (by simp)).sm.nodes;have h2:=y? l fun x hx=>hf x (List.mem_cons_of_mem _ hx);rw[AQ,zO];omega
theorem qro{a b:List aS}{i:Nat}(h:i<a.length):celN (a++b) i=celN a i:=by rw[celN,List.getElem?_append_left h];rfl
theorem qrp{a b:List aS}{i:Nat}:celN (a++b) (a.length+i)=celN b i:=by
 rw[celN,List.getElem?_append_right (by omega),Nat.add_sub_cancel_left];rfl
theorem qrg{h:dW}{N:Nat}:∀(l:List GFS)(k:Nat),(∀x∈l,AT h x)->k+AQ l<=N->∀c∈gQ k l,Flat N (h.Feats.length:Int) (h.Types.length:Int) c
 |[],_,_,_,c,hc=>by cases hc
 |f::l,k,hf,hk,c,hc=>by rw[AQ]at hk;rcases yD.1 hc with hc |hc;exact(hf f (by simp)).flat (by omega) hc;exact qrg l _ (fun x hx=>hf x (List.mem_cons_of_mem _ hx)) (by omega) c hc
theorem SM{h:dW}{ws:List Nat}(hh:pJ h ws){n:Nat}(hn:3000000<=n){l8:List GFS}(hl8:l8.length<=100){N:Nat}(hN:N<=100){C0:List aS}:∀(l:List GFS)(m i off:Nat)(C:List aS)(a9 d:Nat->Nat),l8.drop i=l->i+l.length=l8.length->l.length<m->uZ h ws N 700 (starts off l) C a9 d->Fr off C0 C a9->0<off->off+AQ l=N->(∀j,celN C0 (off+j)=celN (gQ off l) j)->(∀x∈l,AT h x)->
  ∃g,VQ h n l8 m (i:Int) (gW (cG C a9) (rI a9 0)).Nodes=some (g,(fV (cX n h) n (starts off l) C a9 d).1)/\((fV (cX n h) n (starts off l) C a9 d).1=true->g=gW (cG (fV (cX n h) n (starts off l) C a9 d).2.1 (fV (cX n h) n (starts off l) C a9 d).2.2.1) (rI (fV (cX n h) n (starts off l) C a9 d).2.2.1 0))
 |l,0,i,off,C,a9,d,_,_,hm,_,_,_,_,_,_=>by omega
 |[],m+1,i,off,C,a9,d,hd,hi,hm,r,hf,h0,dN,hC,hg=>by
  have e:i=l8.length:=by simpa using hi
  subst e;unfold VQ;simp only[jY (Nat.lt_irrefl _),zD,Ys];exact⟨_,rfl,fun _=>rfl⟩
 |x::l,m+1,i,off,C,a9,d,hd,hi,hm,r,hf,h0,dN,hC,hg=>by
  simp only[zO]at hi hm;have aG:i<l8.length:=by omega
  have ex:l8[i]? = some x:=by have:=congrArg (fun z=>z[0]?) hd;simpa[List.getElem?_drop]using this
  have hx:=hg x (by simp);have GW:=hx.sm.nodes;have hxn:=hx.ne;rw[AQ]at dN;obtain⟨D,hp,hD⟩:=r.ok;obtain⟨D1,Qc,hD1⟩:=r.rnd;have hC':∀(j:Nat)(y:aT),x.Nodes[j]? = some y->celN C0 (off+j)=mL off y:=fun j y hj=>by have ji:=(zG.1 hj).1;rw[hC,gQ,qro (by simpa using ji),celN,List.getElem?_map,hj];rfl
  have lK:∀y∈x.Nodes,∀a∈y.Arcs,0<=a.To/\a.To<(x.Nodes.length:Int):=fun y hy a ha=>((hx.nok y hy).2.ok a ha).2.2;generalize ho:pX (cG C a9) (rI a9 0)=o;obtain⟨B,Fb,e0,ol,ond,oo⟩:=z6g hp hf h0 (x:=x.Nodes) (by omega) hC' lK ho.symm;obtain⟨p1,p2,p3,p4⟩:=Hv hh hp hf h0 (by omega) hx ho.symm;generalize hfe:gW (cG C a9) (rI a9 0)=f at B p1 p2 p3 p4 ⊢;rw[<-p3]at p1;obtain⟨D',v1,v2,v3⟩:=TG hh (f:=f) (x:=x) ⟨by omega,fun y hy=>by have:=(p4 y hy).1;omega⟩ (hx.sm.up (by omega)) (fun y hy a ha=>by have:=(p4 y hy).2 a ha;omega) (fun y hy a ha=>by have:=lK y hy a ha;omega) (by omega) hxn p1 (by omega) (by omega) hn;have pP:=Wu hh (n:=n) (by omega);rw[<-p3]at B Fb;obtain⟨b1,b2⟩:=lx pP n _ [((0:Int),(off:Int))] _ _ _ _ _ _ 0 D1 v2 Qc B ⟨⟨⟨⟨by omega,by omega⟩,by simpa using e0⟩,⟨⟨by omega,by omega⟩,by simp only[zZ,phi,p3,Nat.lt_irrefl,if_false,Nat.sub_self,Nat.add_zero]⟩⟩,trivial⟩;unfold VQ;simp only[j6 aG,zC,cO,ex,aO];rw[show(GFS.mk f.Nodes)=f from rfl,v1];rw[starts];unfold fV;cases kD:(dU (cX n h) n [((0:Int),(off:Int))] C a9 d).1 with
  |false=>rw[kD]at b1;simp only[b1,aO];exact⟨⟨[]⟩,by simp,fun e=>by simp at e⟩|true=>
   rw[kD]at b1;have R0:=r.next hh (n:=n) (by omega) (by omega);obtain⟨D2,xY,hD2⟩:=R0.ok;have B2:=b2 b1;have NB:=B2.canon v3 xY Fb (v:=0) (by omega);have Ql:=Co (mt:=cX n h) n [((0:Int),(off:Int))] C a9 d e0;have qS:=qwl v3 (n:=n) (by omega) (v:=0) ⟨by omega,by omega⟩;have hw:Fr (off+x.Nodes.length) C0 C a9:=hf.wide (by omega) fun j j1 j2 a ha=>by
    have hj:j-off<x.Nodes.length:=by omega
    have:=hC' (j-off) x.Nodes[j-off] (List.getElem?_eq_getElem hj);rw[show off+(j-off)=j by omega]at this;rw[this]at ha;obtain⟨b,hb,rfl⟩:=List.mem_map.1 ha;have:=lK _ (List.getElem_mem hj) b hb;simp only[nB];omega
   have K6:=lj pP n [((0:Int),(off:Int))] C a9 d D1 Qc hw fun p hp=>by simp only[zI,List.not_mem_nil,or_false]at hp;subst hp;exact⟨by show(0:Int)<_;omega,by show(off:Int)<_;omega⟩
   simp only[b1,if_true,aO,Bool.not_true,zD,lE aG (show l8.length<=9223372036854775807 by omega)];rw[qS,show rI (dU (cX n h) n [((0:Int),(f.Nodes.length:Int))] (lU f x.Nodes) id (fun _=>0)).2.2.1 0=(((dU (cX n h) n [((0:Int),(f.Nodes.length:Int))] (lU f x.Nodes) id (fun _=>0)).2.2.1 0:Nat):Int)from rfl,<-NB,Ql];exact SM hh hn hl8 hN l m (i+1) (off+x.Nodes.length) _ _ _ (by rw[<-List.drop_drop,hd];rfl) (by omega) (by omega) R0 K6 (by omega) (by omega) (fun j=>by have:=hC (x.Nodes.length+j);rw[gQ]at this;have e3:=qrp (a:=x.Nodes.map (mL off)) (b:=gQ (off+x.Nodes.length) l) (i:=j);rw[yA]at e3;rw[e3]at this;rw[Nat.add_assoc];exact this) fun y hy=>hg y (List.mem_cons_of_mem _ hy)
theorem hstep{h:dW}{ws:List Nat}(hh:pJ h ws){n:Nat}(hn:3000000<=n){N c:Nat}{cs:List Nat}{C:List aS}{a9 d:Nat->Nat}(r:uZ h ws N 700 (c::cs) C a9 d)(tl:List bX)(MV:tl.length<=90000)(t:Nat):
  ∃rP t',JV n 0 (c:Int) h.Types h.Feats C tl t []=some ((dU (cX n h) n [((0:Int),(c:Int))] C a9 d).1,if(dU (cX n h) n [((0:Int),(c:Int))] C a9 d).1=true then(dU (cX n h) n [((0:Int),(c:Int))] C a9 d).2.1 else C,rP,t')/\rP.length<=tl.length+1600:=by
 obtain⟨D,hr,hD⟩:=r.rnd;have hl:=hr.hp.len;have hc:=r.cs c (by simp);have fC:=r.pos;rw[z4q ⟨by omega,by rw[hl];omega⟩ ⟨by omega,by rw[hl];omega⟩];obtain⟨k1,k2⟩:=lh hh (by have:=hh.fl;omega) (n:=n) (by omega) (p7:=tl) (by omega) [] C n _ _ _ _ D [] t hr (by simp only[zO,zS];omega) (by simp only[zO,zS];omega) (fun x hx=>by cases hx) rfl (by simp only[zO,zS];omega);rw[List.append_nil]at k1 k2;cases kD:(dU (cX n h) n [((0:Int),(c:Int))] C a9 d).1 with
 |true=>obtain⟨rP,t',q1,_,_,q4⟩:=k1 kD;simp only[zO,zS]at q4;exact⟨tl++rP,t',by rw[q1,if_pos rfl],by rw[zU];omega⟩
 |false=>obtain⟨t',q1⟩:=k2 kD;exact⟨tl,t',by rw[q1,if_neg (by simp)],by omega⟩
def Ay(back:Bool)(len k:Nat):Nat:=if back=true then len-k else k
theorem f_{h:dW}{n:Nat}{r14:GFS×Bool}{z24:Int}{rc1:Int->Option Bool}{x28:Bool}{l62:List Int}(hl:l62.length<=100)(tl:List bX)(C:List aS):∀(m i t:Nat),l62.length-i<m->i<=l62.length->
  ∃t',AZ n r14 z24 rc1 x28 (h.Types,h.Feats) l62 m false (i:Int) tl t C=Ed n r14 z24 rc1 (h.Types,h.Feats) l62 false tl t' C
 |0,i,t,hm,_=>by omega
 |m+1,i,t,hm,hi=>by unfold AZ;by_cases aG:i<l62.length;have w:=lE aG (show l62.length<=9223372036854775807 by omega);obtain⟨t',e⟩:=f_ (h:=h) (n:=n) (r14:=r14) (z24:=z24) (rc1:=rc1) (x28:=x28) hl tl C m (i+1) t (by omega) (by omega);refine⟨t',?_⟩;cases x28<;>simp only[j6 aG,zC,zD,WG,aO,w,e];simp only[jY aG,zD];exact⟨t,rfl⟩
theorem QB{h:dW}{ws:List Nat}(hh:pJ h ws){n:Nat}(hn:3000000<=n){r14:GFS×Bool}{z24:Int}{rc1:Int->Option Bool}{x28:Bool}{l62:List Int}(hl:l62.length<=10)(h0:aB l62 0=some 0){N:Nat}:∀(os:List Nat)(m i:Nat)(C:List aS)(a9 d:Nat->Nat)(tl:List bX)(t:Nat),1<=i->os.length+i=l62.length->(∀(j c:Nat),os[j]? = some c->l62[Ay x28 l62.length (i+j)]? = some (c:Int))->os.length<m->uZ h ws N 700 os C a9 d->tl.length+1600*os.length<=90000->
  ∃rP t',AZ n r14 z24 rc1 x28 (h.Types,h.Feats) l62 m true (i:Int) tl t C=Ed n r14 z24 rc1 (h.Types,h.Feats) l62 (fV (cX n h) n os C a9 d).1 rP t' (fV (cX n h) n os C a9 d).2.1
 |os,0,i,C,a9,d,tl,t,_,_,_,hm,_,_=>by omega
 |[],m+1,i,C,a9,d,tl,t,h1,hi,Qh,hm,r,MV=>by
  have e:i=l62.length:=by simpa using hi
  subst e;unfold AZ;simp only[jY (Nat.lt_irrefl _),zD];exact⟨tl,t,rfl⟩
 |c::os,m+1,i,C,a9,d,tl,t,h1,hi,Qh,hm,r,MV=>by
  simp only[zO]at hi hm MV;have aG:i<l62.length:=by omega
  have hc:=Qh 0 c rfl;rw[Nat.add_zero]at hc;obtain⟨rP,t',q1,q2⟩:=hstep hh hn r tl (by omega) t;have w:=lE aG (show l62.length<=9223372036854775807 by omega);have wl:IntKind.i64.wrap ((l62.length:Int)-(i:Int))=((l62.length-i:Nat):Int):=by rw[show(l62.length:Int)-(i:Int)=((l62.length-i:Nat):Int) by omega];exact wr (by omega) (by omega)
  have step:AZ n r14 z24 rc1 x28 (h.Types,h.Feats) l62 (m+1) true (i:Int) tl t C=AZ n r14 z24 rc1 x28 (h.Types,h.Feats) l62 m (dU (cX n h) n [((0:Int),(c:Int))] C a9 d).1 ((i+1:Nat):Int) rP t' (if(dU (cX n h) n [((0:Int),(c:Int))] C a9 d).1=true then(dU (cX n h) n [((0:Int),(c:Int))] C a9 d).2.1 else C):=by
   rw[AZ];cases x28 with
   |true=>rw[Ay,if_pos rfl]at hc;simp only[j6 aG,zC,wl,WG,h0,cO,hc,aO,q1,w]|false=>rw[Ay,if_neg (by simp)]at hc;simp only[j6 aG,zC,zD,WG,h0,cO,hc,aO,q1,w]
  rw[step];unfold fV;cases kD:(dU (cX n h) n [((0:Int),(c:Int))] C a9 d).1 with
  |true=>
   simp only[if_true];exact QB hh hn hl h0 os m (i+1) _ _ _ rP t' (by omega) (by omega) (fun j e hj=>by
    have:=Qh (j+1) e (by simpa using hj)
    rwa [show i+(j+1)=i+1+j by omega]at this) (by omega) (r.next hh (by omega) (by omega)) (by omega)
  |false=>obtain⟨t2,e⟩:=f_ (h:=h) (n:=n) (r14:=r14) (z24:=z24) (rc1:=rc1) (x28:=x28) (l62:=l62) (by omega) rP C m (i+1) t' (by omega) (by omega);refine⟨rP,t2,?_⟩;simp only[Bool.false_eq_true,if_false];exact e
theorem Ou{h:dW}{p2:List GFS}(hl:p2.length<=4)(hf:∀x∈p2,AT h x){n:Nat}(hn:3000000<=n){r14:GFS×Bool}{z24:Int}{rc1:Int->Option Bool}{x28:Bool}:∀(l:List GFS)(m i:Nat)(C:List aS)(t:Nat)(s:List Int)(t2:Nat),p2.drop i=l->i+l.length=p2.length->l.length<m->C.length<=12*i->s.length<=i->
  ∃t' Vn,Q5 p2 n r14 z24 rc1 x28 (h.Types,h.Feats) m (i:Int) C t s t2=Nn n r14 z24 rc1 x28 (h.Types,h.Feats) (C++gQ C.length l) t' (s++(starts C.length l).map fun(c:Nat)=>(c:Int)) Vn
 |l,0,i,C,t,s,t2,_,_,hm,_,_=>by omega
 |[],m+1,i,C,t,s,t2,hd,hi,hm,hC,hs=>by
  have e:i=p2.length:=by simpa using hi
  subst e;unfold Q5;simp only[jY (Nat.lt_irrefl _),zD,gQ,starts,List.append_nil,List.map_nil];exact⟨t,t2,rfl⟩
 |x::l,m+1,i,C,t,s,t2,hd,hi,hm,hC,hs=>by
  simp only[zO]at hi hm;have aG:i<p2.length:=by omega
  have ex:p2[i]? = some x:=by have:=congrArg (fun z=>z[0]?) hd;simpa[List.getElem?_drop]using this
  have hx:=hf x (zX ex);have GW:=hx.sm.nodes;have l1:=Wv hx.sm hx.to (p4:=C) (by omega) (n:=n) (by omega) t h.Types h.Feats [] [];obtain⟨t',Vn,e⟩:=Ou (r14:=r14) (z24:=z24) (rc1:=rc1) (x28:=x28) hl hf hn l m (i+1) (C++x.Nodes.map (mL C.length)) (t+x.Nodes.length) (s++[(C.length:Int)]) (t2+1) (by rw[<-List.drop_drop,hd];rfl) (by omega) (by omega) (by rw[zU,yA];omega) (by simp;omega);refine⟨t',Vn,?_⟩;unfold Q5;simp only[j6 aG,zC,cO,ex,aO,l1,lE aG (show p2.length<=9223372036854775807 by omega)];rw[aE,if_pos (by omega),e,gQ,starts,zU,yA,zT,zQ,zT];rfl
theorem z6m{f:GFS}(h:∀y∈f.Nodes,∀a∈y.Arcs,0<=a.To):cG (f.Nodes.map (mL 0)) id=f:=by
 cases f with
 |mk l=>
  simp only[cG,GFS.mk.injEq,List.map_map];refine(List.map_congr_left fun y hy=>?_).trans (List.map_id l);cases y with
  |mk k ars=>
   simp only[Function.comp,Eu,mL,id,aT.mk.injEq,true_and,List.map_map];refine(List.map_congr_left fun a ha=>?_).trans (List.map_id ars);have:=h _ hy a ha;cases a with
   |mk f t=>simp only[Function.comp,rN,rI,nB,id,aF.mk.injEq,true_and];simp only at this;omega
theorem qxw(d:List bG)(p2:List GFS){n:Nat}(hn:3000000<=n):zx n d p2=some true:=by
 have y4:=ni (show 200<=n by omega);obtain⟨h,ws,e1,hh⟩:=z70 d (n:=n) (by omega);unfold zx;simp only[e1,aO];rcases p2 with _|⟨f0,l8⟩;simp[y4,a8];have z1:(((f0::l8).length:Int)==0)=false:=by simp only[zO,beq_eq_false_iff_ne,ne_eq];omega
 rw[z1,zD];by_cases h4:((f0::l8).length:Int)>4;rw[decide_eq_true h4];simp only[zC,aO,y4];rw[decide_eq_false h4,zD];have aU:(f0::l8).length<=4:=by omega
 obtain⟨bb,e2,e3⟩:=z6w h (l:=f0::l8) (by omega) hn;rw[e2];simp only[aO];rcases bb with _|_;simp only[Bool.not_false,zC,y4,aO];have hg:=e3 rfl;simp only[Bool.not_true,zD];have N6:=hg f0 (by simp);have Qk:=N6.ne;have hgl:∀x∈l8,AT h x:=fun x hx=>hg x (List.mem_cons_of_mem _ hx)
 have hL4:=y? (h:=h) (f0::l8) hg;generalize hN:AQ (f0::l8)=N at hL4;have hN0:f0.Nodes.length+AQ l8=N:=hN;have fF:(gQ 0 (f0::l8)).length=N:=by rw[qv3,hN]
 have DA:∀c∈gQ 0 (f0::l8),Flat N (h.Feats.length:Int) (ws.length:Int) c:=fun c hc=>by
  have:=qrg (h:=h) (N:=N) (f0::l8) 0 hg (by omega) c hc
  rwa [hh.tl]at this
 have Pv:=vp (cells:=gQ 0 (f0::l8)) fun c hc=>(DA c hc).sm;rw[fF]at Pv;have jb:=iP.init fF DA;have vN:=qpf l8 f0.Nodes.length;simp only[zO]at aU hL4;have V':∀os:List Nat,os.length<=3->(∀c∈os,c∈starts f0.Nodes.length l8)->uZ h ws N 700 os (gQ 0 (f0::l8)) id (fun _=>0):=fun os Qh i9=>⟨⟨0,jb,by omega⟩,fun c hc=>by have:=qtj (h:=h) l8 f0.Nodes.length hgl c (i9 c hc);omega,by omega⟩;have hrf:=V' (starts f0.Nodes.length l8) (by omega) fun c hc=>hc;have hC0:∀j,celN (gQ 0 (f0::l8)) (f0.Nodes.length+j)=celN (gQ f0.Nodes.length l8) j:=fun j=>by have e3:=qrp (a:=f0.Nodes.map (mL 0)) (b:=gQ (0+f0.Nodes.length) l8) (i:=j);rw[yA,Nat.zero_add]at e3;rw[gQ,Nat.zero_add];exact e3
 have Y5:∀i,i<f0.Nodes.length->celN (gQ 0 (f0::l8)) i=celN (f0.Nodes.map (mL 0)) i:=fun i hi=>by rw[gQ,qro (by simpa using hi)]
 have YD:∀c∈f0.Nodes.map (mL 0),Flat f0.Nodes.length (h.Feats.length:Int) (ws.length:Int) c:=fun c hc=>by
  have:=N6.flat (N:=f0.Nodes.length) (by omega) hc
  rwa [hh.tl]at this
 have aa:=iP.init (show(f0.Nodes.map (mL 0)).length=f0.Nodes.length by simp) YD;have m9:Fr f0.Nodes.length (gQ 0 (f0::l8)) (gQ 0 (f0::l8)) id:=⟨fun i hi=>hi,fun i hi a ha=>by rw[Y5 i hi]at ha;exact((YD _ (zX (aa.celN hi))).ar.ok a ha).2.2.2,fun j _=>⟨rfl,rfl⟩⟩;have hB:Bi f0.Nodes.length (f0.Nodes.map (mL 0)) id (gQ 0 (f0::l8)) id id:=⟨fun i j _ _=>Iff.rfl,fun i hi _=>by simp only[id,Y5 i hi],fun i hi _=>by simp only[id,Y5 i hi];have ha:=(YD _ (zX (aa.celN hi))).ar;have e:=(List.map_id (celN (f0.Nodes.map (mL 0)) i).arcs).symm;rw[e];exact AL.of2 fun a hm=>⟨rfl,(ha.ok a hm).2.2,rfl⟩⟩;have NB:=hB.canon aa jb (fun i hi=>by show i<N;omega) (v:=0) Qk;have hcf:=z6m (f:=f0) fun y hy a ha=>(N6.to y hy a ha).1;rw[hcf]at NB;have Rq:gW (cG (gQ 0 (f0::l8)) id) (rI id 0)=f0:=NB.trans N6.can;obtain⟨g,u1,u2⟩:=SM hh hn (l8:=l8) (by omega) (N:=N) (by omega) l8 n 0 f0.Nodes.length (gQ 0 (f0::l8)) id (fun _=>0) rfl (by omega) (by omega) hrf m9 Qk hN0 hC0 hgl;rw[Rq]at u1;have cH:Kh n h (f0::l8)=some (g,(fV (cX n h) n (starts f0.Nodes.length l8) (gQ 0 (f0::l8)) id (fun _=>0)).1):=by have i0:aB (f0::l8) 0=some f0:=Bg _ _;have c1:pI (f0::l8) 1 ((f0::l8).length:Int)=some l8:=NW _ _;unfold Kh;rw[z1,zD,i0];simp only[aO,c1];exact u1
 rw[cH];simp only[aO];have hdrp:gQ 0 (f0::l8)=[]++gQ ([]:List aS).length (f0::l8):=rfl;have hLL:v01 N ws ((gQ 0 (f0::l8)).map fun c=>(⟨c.kind,c.arcs⟩:aT)):=⟨by simp[fF],fun j c a hj ha=>by rw[List.getElem?_map]at hj;rcases hc:(gQ 0 (f0::l8))[j]? with _|x;rw[hc]at hj;cases hj;rw[hc]at hj;cases hj;exact((jb.ar _ _ hc).ok a ha).2.2⟩;have hTC:TC ws N ((gQ 0 (f0::l8)).map fun c=>(⟨c.kind,c.arcs⟩:aT)) [] (gQ 0 (f0::l8)) id:=by
  have at_:∀{j:Nat}{c:aT},((gQ 0 (f0::l8)).map fun c=>(⟨c.kind,c.arcs⟩:aT))[j]? = some c->(celN (gQ 0 (f0::l8)) j).kind=c.Typex/\(celN (gQ 0 (f0::l8)) j).arcs=c.Arcs:=fun{j c} hj=>by rw[List.getElem?_map]at hj;rcases hc:(gQ 0 (f0::l8))[j]? with _|x;rw[hc]at hj;cases hj;rw[hc]at hj;cases hj;rw[celN,hc];exact⟨rfl,rfl⟩
  have ofi:∀i,i<N->((gQ 0 (f0::l8)).map fun c=>(⟨c.kind,c.arcs⟩:aT))[i]? = some ⟨(celN (gQ 0 (f0::l8)) i).kind,(celN (gQ 0 (f0::l8)) i).arcs⟩:=fun i hi=>by rw[List.getElem?_map,jb.celN hi];rfl
  refine⟨fun j c a hj ha=>⟨a,by rw[id,(at_ hj).2];exact ha,rfl,fun q _ _=>rfl⟩,fun i b hi _ hb=>⟨i,_,ofi i hi,rfl,hb⟩,fun i hi _ k=>⟨fun q j c hj e=>?_,fun q=>q i _ (ofi i hi) rfl⟩⟩;have e:j=i:=e;subst e;rw[<-(at_ hj).1];exact q
 have round:∀(x28:Bool)(z24:Int)(rc1:Int->Option Bool),Q5 (f0::l8) n (g,(fV (cX n h) n (starts f0.Nodes.length l8) (gQ 0 (f0::l8)) id (fun _=>0)).1) z24 rc1 x28 (h.Types,h.Feats) n 0 [] 0 [] 0=rc1 (IntKind.i64.wrap (z24+1)):=by
  intro x28 z24 rc1;obtain⟨t',Vn,q1⟩:=Ou (h:=h) (p2:=f0::l8) (by simp only[zO];omega) hg hn (r14:=(g,(fV (cX n h) n (starts f0.Nodes.length l8) (gQ 0 (f0::l8)) id (fun _=>0)).1)) (z24:=z24) (rc1:=rc1) (x28:=x28) (f0::l8) n 0 [] 0 [] 0 rfl (by simp) (by simp only[zO];omega) (by simp) (by simp);rw[zV]at q1;rw[q1,Nn];simp only[List.nil_append,zS];have c8:(starts 0 (f0::l8)).map (fun(c:Nat)=>(c:Int))=(0:Int)::(starts f0.Nodes.length l8).map (fun(c:Nat)=>(c:Int)):=by rw[starts,Nat.zero_add];rfl
  rw[c8];have A3:((0:Int)::(starts f0.Nodes.length l8).map (fun(c:Nat)=>(c:Int))).length=l8.length+1:=by rw[zO,yA,vN]
  have fin:∀os:List Nat,os.length=l8.length->(∀c,c∈starts f0.Nodes.length l8↔c∈os)->(∀(j c:Nat),os[j]? = some c->((0:Int)::(starts f0.Nodes.length l8).map (fun(c:Nat)=>(c:Int)))[Ay x28 (l8.length+1) (1+j)]? = some (c:Int))->
    AZ n (g,(fV (cX n h) n (starts f0.Nodes.length l8) (gQ 0 (f0::l8)) id (fun _=>0)).1) z24 rc1 x28 (h.Types,h.Feats) ((0:Int)::(starts f0.Nodes.length l8).map (fun(c:Nat)=>(c:Int))) n true 1 [] 0 (gQ 0 (f0::l8))=rc1 (IntKind.i64.wrap (z24+1)):=by
   intro os Qh tG v00;have jC:=V' os (by omega) fun c hc=>(tG c).2 hc;obtain⟨rP,t3,q2⟩:=QB hh hn (r14:=(g,(fV (cX n h) n (starts f0.Nodes.length l8) (gQ 0 (f0::l8)) id (fun _=>0)).1)) (z24:=z24) (rc1:=rc1) (x28:=x28) (l62:=(0:Int)::(starts f0.Nodes.length l8).map (fun(c:Nat)=>(c:Int))) (by omega) (Bg _ _) (N:=N) os n 1 (gQ 0 (f0::l8)) id (fun _=>0) [] 0 (by omega) (by omega) (by rw[A3];exact v00) (by omega) jC (by simp only[zS];omega);rw[show((1:Nat):Int)=1 from rfl]at q2;rw[q2];obtain⟨w1,w2⟩:=z7n hh hLL (n:=n) (by omega) (by omega) tG hrf jC hTC;obtain⟨D,ab,hDe⟩:=(Jh hh (n:=n) (by omega) (by omega) os _ _ _ jC).ok;simp only[zS]at hDe;have qS:=mc ab (by omega) (by omega) (by omega) (n:=n) (by omega) (v:=0) ⟨by omega,by omega⟩ h.Types h.Feats rP [];have Fh:=z4g (B:=0) ab (by omega) (by omega) (n:=n) (by omega) (v:=0) ⟨by omega,by omega⟩;have i0:aB ((0:Int)::(starts f0.Nodes.length l8).map (fun(c:Nat)=>(c:Int))) 0=some 0:=Bg _ _;unfold Ed;simp only[i0,aO,qS,w1,beq_self_eq_true,Bool.not_true,zD];rcases kD:(fV (cX n h) n (starts f0.Nodes.length l8) (gQ 0 (f0::l8)) id (fun _=>0)).1 with _|_
   simp only[zD,aO];have hgq:g=OL n (fV (cX n h) n os (gQ 0 (f0::l8)) id (fun _=>0)).2.1 (fV (cX n h) n os (gQ 0 (f0::l8)) id (fun _=>0)).2.2.1 0:=by rw[u2 kD,qwl ab (n:=n) (by omega) (v:=0) ⟨by omega,by omega⟩];exact(w2 kD).symm
   have jo:=qwp Fh Fh hn;rw[qvc.2 rfl]at jo;have e0:((0:Int)==0)=true:=rfl;simp only[zC];rw[show(GFS.mk g.Nodes)=g from rfl,hgq];rw[jo];simp only[aO,e0,Bool.not_true,zD]
  cases x28 with
  |false=>refine fin (starts f0.Nodes.length l8) vN (fun c=>Iff.rfl) fun j c hj=>?_;rw[Ay,if_neg (by simp),Nat.add_comm 1 j,zH,List.getElem?_map,hj];rfl
  |true=>refine fin (starts f0.Nodes.length l8).reverse (by rw[List.length_reverse,vN]) (fun c=>by rw[List.mem_reverse]) fun j c hj=>?_;have ji:=(zG.1 hj).1;rw[List.length_reverse,vN]at ji;rw[List.getElem?_reverse (by rw[vN];exact ji),vN]at hj;rw[Ay,if_pos rfl,show l8.length+1-(1+j)=(l8.length-1-j)+1 by omega,zH,List.getElem?_map,hj];rfl
 have hT:Lq n h=some (h.Types,h.Feats):=rfl;obtain⟨m,rfl⟩:∃m,n=m+3:=⟨n-3,by omega⟩;have j0:aB [false,true] 0=some false:=rfl;have j1:aB [false,true] 1=some true:=rfl;have d0:decide ((0:Int)<2)=true:=rfl;have d1:decide ((1:Int)<2)=true:=rfl;have d2:decide ((2:Int)<2)=false:=rfl;have w0:IntKind.i64.wrap ((0:Int)+1)=1:=wr (by omega) (by omega);have w1:IntKind.i64.wrap ((1:Int)+1)=2:=wr (by omega) (by omega);rw[ER,d0,zC,j0,aO,hT,aO,round,w0,ER,d1,zC,j1,aO,hT,aO,round,w1,ER,d2,zD,we];simp only[y4,aO]
end Go.Proofs
