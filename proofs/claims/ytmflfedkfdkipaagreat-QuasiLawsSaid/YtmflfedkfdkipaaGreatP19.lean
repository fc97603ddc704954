import Derived.Test.YtmflfedkfdkipaaGreatP18
set_option linter.all false
namespace Go.Proofs
open Go Go.Rx Go.Vx
set_option maxRecDepth 10000
def eE{v11:Type}{l:Z v11}{i:Nat}(h:i<l.length):∃x,l[i]? = some x:=⟨l[i],List.getElem?_eq_getElem h⟩
variable{N:Z PN}
def qpg{N':Z PN}(c:CO N)(c':CO N')(e:Ex N.length N N'){r:Nat}(hr:r<N.length):cK (core N') (r:Int)=cK (core N) (r:Int):=by
 have hl:=e.len;have at_:∀v,fG (core N) v->∃(i:Nat)(x x':PN),v=(i:Int)/\N[i]? = some x/\N'[i]? = some x'/\x'.kind=x.kind/\x'.arcs=x.arcs:=fun v hv=>by have:=hv.2;rw[iO]at this;obtain⟨x,hx⟩:=eE (l:=N) (i:=v.toNat) (by have:=hv.1;omega);obtain⟨x',h1,h2,h3⟩:=e.st v.toNat x (by have:=hv.1;omega) hx;exact⟨v.toNat,x,x',by have:=hv.1;omega,hx,h1,h2,h3⟩
 have S:o4 (core N) (core N') id (fG (core N)):=by refine⟨fun v hv a ha=>?_,fun _ _ _ _ h=>h,fun v hv=>?_,fun v hv=>?_⟩;obtain⟨i,x,x',rfl,hx,uO,h1,h2⟩:=at_ v hv;rw[c.sar hx]at ha;obtain⟨b,hb,rfl⟩:=List.mem_map.1 ha;have:=c.to hx b hb;exact⟨by simp only[gA];omega,by rw[iO];simp only[gA];omega⟩;obtain⟨i,x,x',rfl,hx,uO,h1,h2⟩:=at_ v hv;simp only[id,E9 hx,E9 uO,cN,h1];obtain⟨i,x,x',rfl,hx,uO,h1,h2⟩:=at_ v hv;simp only[id,c.sar hx,c'.sar uO,h2];exact(List.map_id' _).symm
 have:=S.canon c.gok c'.gok (r:=(r:Int)) ⟨by omega,by rw[iO];omega⟩ ⟨by omega,by rw[iO];omega⟩ ⟨by simp only[id];omega,by rw[iO];simp only[id];omega⟩;exact this.2
def Rd(k:Nat)(a:aT):dR:=⟨a.Feat,k+a.To.toNat⟩
def m6(k:Nat)(x:aU):PN:=gC x.Typex (x.Arcs.map (Rd k))
def O'{v11 v09:Type}{f:v11->I v09}{g:v11->v09}:∀{l:Z v11},(∀a∈l,f a=some (g a))->CG f l=some (l.map g)
 |[],_=>rfl|a::l,h=>by rw[CG,h a (by simp),aM,O' fun b hb=>h b (by simp[hb]),aM];rfl
def Rb(k:Nat){a:aT}(h:0<=a.To):gA (Rd k a)=mS k a:=by simp only[gA,Rd,mS,aT.mk.injEq,true_and];omega
variable{P:PP}
variable{f:GFS}
variable{k:Nat}
def qzc(hs:dG f k)(hk:k<=1000000)(h0:0<f.Nodes.length)(hg:jL f)(hr:P.roots.length<=1000000):
  sH P f=some ((P.roots.length:Int),{ P with N:=P.N++f.Nodes.map (m6 P.N.length),size:=IntKind.i64.wrap (P.size+f.Nodes.length),roots:=P.roots++[P.N.length] }):=by have hn:=hs.nodes;rw[sH,aG,if_pos ⟨h0,by omega,hr⟩,O' (g:=m6 P.N.length) fun x hx=>?_,aM];have:=hs.arcs x hx;rw[R4,aG,if_pos (by omega),O' (g:=Rd P.N.length) fun a ha=>?_,aM];rfl;have h1:=(hg x hx).arc a ha;rw[Xm,decide_eq_true h1.2,zC];rfl
def Zt{x:aU}(h:∀a∈x.Arcs,0<=a.To):(m6 k x).arcs.map gA=x.Arcs.map (mS k):=by simp only[m6,gC,List.map_map];exact List.map_congr_left fun a ha=>Rb k (h a ha)
def EX{l:Z aT}(h:kC l):kC (l.map (mS k)):=by unfold kC at*;rw[List.pairwise_map];exact h.imp fun{a b} q=>q
def XU(c:CO N)(hs:dG f k)(hk:k<=1000000)(hg:jL f)(hu:∀x∈f.Nodes,kC x.Arcs)(hl:N.length+f.Nodes.length<=1000000):CO (N++f.Nodes.map (m6 N.length)):=by
 have aN:(core (N++f.Nodes.map (m6 N.length))).Nodes.length=N.length+f.Nodes.length:=by simp[iO]
 have Xu:∀x∈f.Nodes,∀a∈x.Arcs,0<=a.To:=fun x hx a ha=>((hg x hx).arc a ha).2.1;refine⟨fun y hy=>?_,fun x hx=>?_,by simp;exact hl,fun x hx=>?_⟩;rw[aN];obtain⟨x,hx,rfl⟩:=List.mem_map.1 hy;rcases yD.1 hx with hx |hx
 have:=c.gok (cN x) (List.mem_map_of_mem hx);rw[iO]at this;exact⟨this.ty,this.dis,fun a ha=>by have:=this.arc a ha;omega⟩;obtain⟨z,hz,rfl⟩:=List.mem_map.1 hx;have h1:=hg z hz;simp only[cN,Zt (Xu z hz)];refine⟨h1.ty,(EX (hu z hz)).dis,fun a ha=>?_⟩;obtain⟨b,hb,rfl⟩:=List.mem_map.1 ha;have:=h1.arc b hb;simp only[mS];omega;rcases yD.1 hx with hx |hx;exact c.up x hx;obtain⟨z,hz,rfl⟩:=List.mem_map.1 hx;rw[Zt (Xu z hz)];exact EX (hu z hz);rcases yD.1 hx with hx |hx;exact c.sm x hx;obtain⟨z,hz,rfl⟩:=List.mem_map.1 hx;have:=hs.arcs z hz;simp only[m6,gC,yA];omega
def qzm(c':CO (N++f.Nodes.map (m6 N.length)))(hg:jL f)(hu:∀x∈f.Nodes,kC x.Arcs){r:Nat}(hr:r<f.Nodes.length):cK (core (N++f.Nodes.map (m6 N.length))) ((N.length+r:Nat):Int)=cK f (r:Int):=by
 have Xu:∀x∈f.Nodes,∀a∈x.Arcs,0<=a.To:=fun x hx a ha=>((hg x hx).arc a ha).2.1;have aN:(core (N++f.Nodes.map (m6 N.length))).Nodes.length=N.length+f.Nodes.length:=by simp[iO]
 have at_:∀v,fG f v->∃(i:Nat)(x:aU),v=(i:Int)/\i<f.Nodes.length/\f.Nodes[i]? = some x/\nd f v=x/\(N++f.Nodes.map (m6 N.length))[N.length+i]? = some (m6 N.length x):=fun v hv=>by have h1:=hv.1;have h2:=hv.2;obtain⟨x,hx⟩:=eE (l:=f.Nodes) (i:=v.toNat) (by omega);refine⟨v.toNat,x,by omega,by omega,hx,by simp[nd,hx],?_⟩;rw[List.getElem?_append_right (by omega),Nat.add_sub_cancel_left,List.getElem?_map,hx];rfl
 have S:o4 f (core (N++f.Nodes.map (m6 N.length))) (fun v=>v+(N.length:Int)) (fG f):=by refine⟨fun v hv a ha=>?_,fun _ _ _ _ h=>by omega,fun v hv=>?_,fun v hv=>?_⟩;obtain⟨i,x,rfl,hi,hx,e1,uO⟩:=at_ v hv;have ha:=sM.1 ha;rw[e1]at ha;have:=(hg x (zX hx)).arc a ha;exact⟨this.2.1,this.2.2⟩;obtain⟨i,x,rfl,hi,hx,e1,uO⟩:=at_ v hv;rw[show((i:Int)+(N.length:Int))=((N.length+i:Nat):Int) by omega,E9 uO,e1];rfl;obtain⟨i,x,rfl,hi,hx,e1,uO⟩:=at_ v hv;rw[show((i:Int)+(N.length:Int))=((N.length+i:Nat):Int) by omega,c'.sar uO,Zt (Xu x (zX hx)),Go.Proofs.sar,e1,ee (hu x (zX hx))];rfl
 have:=S.canon hg c'.gok (r:=(r:Int)) ⟨by omega,by omega⟩ ⟨by omega,by omega⟩ ⟨by omega,by rw[aN];omega⟩;rw[show((N.length+r:Nat):Int)=(r:Int)+(N.length:Int) by omega];exact this.2
def z5z(N:Z PN)(f:GFS):Ex N.length N (N++f.Nodes.map (m6 N.length)):=⟨by simp,fun i x hi hx=>⟨x,by rw[List.getElem?_append_left hi];exact hx,rfl,rfl⟩⟩
def FM.upA{h:eD}(hf:FM h f):∀x∈f.Nodes,kC x.Arcs:=fun x hx=>(hf.nok x hx).2.up
structure Has(P:PP)(fs:Z GFS):Prop where
 co:CO P.N
 len:P.roots.length=fs.length
 at_:∀(k:Nat)(f:GFS),fs[k]? = some f->∃r,P.roots[k]? = some r/\r<P.N.length/\cK (core P.N) (r:Int)=f
def Has.new(H:eD):Has (tI H) []:=⟨⟨fun x hx=>by simp[core,tI]at hx,nofun,by simp[tI],nofun⟩,rfl,nofun⟩
def Has.put{fs:Z GFS}(p:Has P fs){h:eD}(hf:FM h f)(hl:P.N.length+f.Nodes.length<=1000000)(hr:P.roots.length<=1000000):
  ∃P',sH P f=some ((P.roots.length:Int),P')/\Has P' (fs++[f])/\P'.N.length=P.N.length+f.Nodes.length/\P'.H=P.H/\P'.gen=P.gen:=by
 have c':=XU p.co hf.sm (by decide) hf.gok hf.upA hl;refine⟨_,qzc hf.sm (by decide) hf.ne hf.gok hr,⟨c',by simp[p.len],fun k g hg=>?_⟩,by simp,rfl,rfl⟩;by_cases hk:k<fs.length;rw[List.getElem?_append_left hk]at hg;obtain⟨r,h1,h2,h3⟩:=p.at_ k g hg;exact⟨r,by show(P.roots++_)[k]? = _;rw[List.getElem?_append_left (by rw[p.len];exact hk)];exact h1,by simp;omega,by rw[<-h3];exact qpg p.co c' (z5z _ _) h2⟩;have nL:k<(fs++[f]).length:=(zG.1 hg).1;simp at nL;have:k=fs.length:=by omega
 subst this;simp at hg;subst hg;refine⟨P.N.length,by show(P.roots++_)[_]? = _;rw[<-p.len];simp,by have:=hf.ne;simp;omega,?_⟩;have:=qzm c' hf.gok hf.upA (r:=0) hf.ne;rw[Nat.add_zero]at this;exact this.trans hf.can
def Has.read{fs:Z GFS}(p:Has P fs){n:Nat}(hn:P.N.length<n)(h:fs[k]? = some f):DZ n P (k:Int)=some (f,true):=by obtain⟨r,h1,h2,h3⟩:=p.at_ k f h;rw[z3p p.co hn (r:=r) (by omega) (by rw[zZ];exact h1) h2,h3]
def TU(aD:Nat->Nat)(a:aT):aT:=⟨a.Feat,rI aD a.To⟩
def RE(aD:Nat->Nat)(c:Gcell):aU:=⟨c.kind,c.arcs.map (TU aD)⟩
def ed:∀{a b:Z aT},kC a->kC b->(∀x,x∈a↔x∈b)->a=b
 |[],[],_,_,_=>rfl|[],y::b,_,_,h=>by have:=(h y).2 (by simp);cases this
 |x::a,[],_,_,h=>by have:=(h x).1 (by simp);cases this
 |x::a,y::b,ha,hb,h=>by
  have jJ:=List.pairwise_cons.1 ha;have bV:=List.pairwise_cons.1 hb;have e:x=y:=by rcases zI.1 ((h x).1 (by simp))with e |e;exact e;rcases zI.1 ((h y).2 (by simp))with e' |e';exact e'.symm;have:=jJ.1 y e';have:=bV.1 x e;omega
  subst e;rw[ed jJ.2 bV.2 fun z=>⟨fun hz=>by
   rcases zI.1 ((h z).1 (List.mem_cons_of_mem _ hz))with e |e;subst e;have:=jJ.1 z hz;omega;exact e,fun hz=>by
   rcases zI.1 ((h z).2 (List.mem_cons_of_mem _ hz))with e |e;subst e;have:=bV.1 z hz;omega;exact e⟩]
structure QG(ws:Z Nat)(L:Z aU)(r:Nat->Nat)(g:GFS):Prop where
 len:g.Nodes.length=L.length
 rt:∀i,i<L.length->r i<L.length/\r (r i)=r i
 kd:∀i x,g.Nodes[i]? = some x->r i=i->(0<=x.Typex/\x.Typex<(ws.length:Int))/\∀k,(jV ws x.Typex).testBit k=true↔∀j c,L[j]? = some c->r j=i->(jV ws c.Typex).testBit k=true
 ds:∀i x,g.Nodes[i]? = some x->r i=i->jA x.Arcs
 cov:∀j c a,L[j]? = some c->a∈c.Arcs->∃x b,g.Nodes[r j]? = some x/\b∈x.Arcs/\b.Feat=a.Feat/\b.To=(r a.To.toNat:Int)
 snd:∀i x b,g.Nodes[i]? = some x->r i=i->b∈x.Arcs->∃j c a,L[j]? = some c/\r j=i/\a∈c.Arcs/\b.Feat=a.Feat/\b.To=(r a.To.toNat:Int)
def z6u{ws:Z Nat}(hn:ws.Nodup){s t:Int}(hs:0<=s/\s<(ws.length:Int))(ht:0<=t/\t<(ws.length:Int))(h:jV ws s=jV ws t):s=t:=by have h1:=LY hs;have h2:=LY ht;rw[<-h]at h2;obtain⟨a1,b1⟩:=zG.1 h1;obtain⟨a2,b2⟩:=zG.1 h2;have:=(List.getElem_inj (h₀:=a1) (h₁:=a2) hn).1 (by rw[b1,b2]);omega
def Lnk(N:Nat)(r:Nat->Nat)(W:Z (Int×Int))(x y:Nat):Prop:=∀q:Nat->Nat,(∀i j,i<N->j<N->r i=r j->q i=q j)->(∀p∈W,q p.1.toNat=q p.2.toNat)->q x=q y
structure ON(N:Nat)(ws:Z Nat)(L:Z aU):Prop where
 len:L.length=N
 ar:∀(j:Nat)(c:aU)(a:aT),L[j]? = some c->a∈c.Arcs->0<=a.To/\a.To<(N:Int)
structure TC(ws:Z Nat)(N:Nat)(L:Z aU)(W:Z (Int×Int))(cells:Z Gcell)(aD:Nat->Nat):Prop where
 cov:∀(j:Nat)(c:aU)(a:aT),L[j]? = some c->a∈c.Arcs->∃b∈(dQ cells (aD j)).arcs,b.Feat=a.Feat/\Lnk N aD W b.To.toNat a.To.toNat
 snd:∀(i:Nat)(b:aT),i<N->aD i=i->b∈(dQ cells i).arcs->∃(j:Nat)(c:aU),L[j]? = some c/\aD j=i/\b∈c.Arcs
 kd:∀(i:Nat),i<N->aD i=i->∀k:Nat,(jV ws (dQ cells i).kind).testBit k=true↔∀(j:Nat)(c:aU),L[j]? = some c->aD j=i->(jV ws c.Typex).testBit k=true
def pQ(L:Z aU)(q:Nat->Nat):Prop:=∀(i j:Nat)(c e:aU)(a b:aT),L[i]? = some c->L[j]? = some e->q i=q j->a∈c.Arcs->b∈e.Arcs->a.Feat=b.Feat->q a.To.toNat=q b.To.toNat
def Io(ws:Z Nat)(L:Z aU)(q:Nat->Nat):Prop:=∃i,i<L.length/\∀k:Nat,∃(j:Nat)(c:aU),L[j]? = some c/\q j=q i/\(jV ws c.Typex).testBit k=false
structure Cu(N:Nat)(W:Z (Int×Int))(aD q:Nat->Nat):Prop where
 r:∀i j,i<N->j<N->aD i=aD j->q i=q j
 w:∀p∈W,q p.1.toNat=q p.2.toNat
variable{c:Z Gcell}
variable{m:Nat}
variable{n:Nat}
def qtd(hm:m<c.length)(hn:n<c.length)(EF:m≠n)(t:Int)(o:Z aT)(i:Nat):
  dQ (U8 c m n t o) i=if i=n then⟨(m:Int),0,[]⟩else if i=m then⟨-1,t,o⟩else dQ c i:=by simp only[dQ,U8,List.getElem?_set,List.length_set];by_cases e:i=n;subst e;simp[hn];rw[if_neg (fun q=>e q.symm),if_neg e];by_cases e2:i=m;subst e2;simp[hm];rw[if_neg (fun q=>e2 q.symm),if_neg e2]
variable{ws:Z Nat}
variable{N:Nat}
variable{L:Z aU}
variable{W:Z (Int×Int)}
variable{p:Int×Int}
variable{aD:Nat->Nat}
def TC.skip(h:TC ws N L (p::W) c aD)(hp:cy N p)(e:aD p.1.toNat=aD p.2.toNat):TC ws N L W c aD where
 cov j x a hj ha:=by obtain⟨b,h1,h2,h3⟩:=h.cov j x a hj ha;refine⟨b,h1,h2,fun q q1 q2=>h3 q q1 fun z hz=>?_⟩;rcases zI.1 hz with rfl |hz;exact q1 _ _ (by have:=hp.1;omega) (by have:=hp.2;omega) e;exact q2 z hz
 snd:=h.snd
 kd:=h.kd
structure Mg(N:Nat)(p:Int×Int)(c:Z Gcell)(aD:Nat->Nat)(m n:Nat):Prop where
 len:c.length=N
 hm:m<N
 hn:n<N
 em:aD m=m
 en:aD n=n
 ne:m≠n
 lt:∀i,i<N->aD i<N
 idem:∀i,i<N->aD (aD i)=aD i
 pi:cy N p
 pp:(aD p.1.toNat=m/\aD p.2.toNat=n)\/(aD p.1.toNat=n/\aD p.2.toNat=m)
 dm:jA (dQ c m).arcs
def TC.mrg(hL:ON N ws L){W':Z (Int×Int)}(T:Mg N p c aD m n)(h:TC ws N L (p::W) c aD){t:Int}{o:Z aT}
  (ht:jV ws t=jV ws (dQ c m).kind&&&jV ws (dQ c n).kind) (hM:o.Perm ((dQ c m).arcs++y5 (dQ c m).arcs (dQ c n).arcs)) (w1:∀z∈CC (dQ c m).arcs (dQ c n).arcs,z∈W') (w2:∀z∈W,z∈W'):
  TC ws N L W' (U8 c m n t o) (j0 aD m n):=by
 obtain⟨m9,oC⟩:=T.pi;have cT:=T.ne;have aN:=T.len;have hmc:m<c.length:=by have:=T.hm;omega
 have sT:n<c.length:=by have:=T.hn;omega
 have HI:=qtd hmc sT cT t o;have ida:∀j,j<N->aD (aD j)=aD j:=T.idem;have jlt:∀{j:Nat}{x:aU},L[j]? = some x->j<N:=fun hj=>by have:=(zG.1 hj).1;rw[hL.len]at this;exact this
 have mono:∀i j,aD i=aD j->j0 aD m n i=j0 aD m n j:=fun i j e=>qqq e;have lnk:∀{x y:Nat},Lnk N aD (p::W) x y->Lnk N (j0 aD m n) W' x y:=fun{x y} hl q q1 q2=>by
  refine hl q (fun i j hi hj e=>q1 i j hi hj (mono i j e)) fun z hz=>?_;rcases zI.1 hz with rfl |hz
  refine q1 _ _ (by omega) (by omega) ?_;unfold j0;rcases T.pp with⟨e1,e2⟩|⟨e1,e2⟩;rw[e1,e2,if_neg cT,if_pos rfl];rw[e1,e2,if_neg cT,if_pos rfl];exact q2 z (w2 z hz)
 refine⟨fun j x a hj ha=>?_,fun i b hi tN hb=>?_,fun i hi tN k=>?_⟩;obtain⟨b,h1,h2,h3⟩:=h.cov j x a hj ha;by_cases en:aD j=n;have e1:j0 aD m n j=m:=by unfold j0;rw[if_pos en]
 rw[e1,HI,if_neg cT,if_pos rfl];rw[en]at h1;show ∃b∈o,_;by_cases hf:OS (dQ c m).arcs b.Feat=true;obtain⟨z,hz,ez⟩:=Na.1 hf;refine⟨z,hM.mem_iff.2 (List.mem_append_left _ hz),by omega,fun q q1 q2=>?_⟩;have hpz:(z.To,b.To)∈CC (dQ c m).arcs (dQ c n).arcs:=List.mem_filterMap.2 ⟨b,h1,by rw[z78 T.dm hz ez];rfl⟩;have:=q2 (z.To,b.To) (w1 _ hpz);rw[this];exact lnk h3 q q1 q2;refine⟨b,hM.mem_iff.2 (List.mem_append_right _ (List.mem_filter.2 ⟨h1,by simpa using hf⟩)),h2,lnk h3⟩;have e1:j0 aD m n j=aD j:=by unfold j0;rw[if_neg en]
 rw[e1,HI,if_neg en];by_cases em:aD j=m;rw[if_pos em];rw[em]at h1;exact⟨b,hM.mem_iff.2 (List.mem_append_left _ h1),h2,lnk h3⟩;rw[if_neg em];exact⟨b,h1,h2,lnk h3⟩;by_cases ein:i=n;subst ein
 rw[HI,if_pos rfl]at hb;cases hb;rw[HI,if_neg ein]at hb;by_cases eim:i=m;subst eim;rw[if_pos rfl]at hb;rcases yD.1 (hM.mem_iff.1 hb)with hb |hb;obtain⟨j,x,q1,q2,q3⟩:=h.snd _ b T.hm T.em hb;exact⟨j,x,q1,by unfold j0;rw[q2,if_neg cT],q3⟩;obtain⟨j,x,q1,q2,q3⟩:=h.snd _ b T.hn T.en (List.mem_filter.1 hb).1;exact⟨j,x,q1,by unfold j0;rw[q2,if_pos rfl],q3⟩;rw[if_neg eim]at hb;have ZH:aD i=i:=by unfold j0 at tN;split at tN;exact absurd tN.symm eim;exact tN
 obtain⟨j,x,q1,q2,q3⟩:=h.snd i b hi ZH hb;exact⟨j,x,q1,by unfold j0;rw[q2,if_neg ein],q3⟩;by_cases ein:i=n;subst ein
 unfold j0 at tN;rw[T.en,if_pos rfl]at tN;exact absurd tN cT;rw[HI,if_neg ein];by_cases eim:i=m;subst eim;rw[if_pos rfl];show(jV ws t).testBit k=true↔_;rw[ht,Nat.testBit_and,Bool.and_eq_true,h.kd _ T.hm T.em,h.kd _ T.hn T.en];constructor;rintro⟨g1,g2⟩ j x hj Ss;unfold j0 at Ss;by_cases e:aD j=n;exact g2 j x hj e;rw[if_neg e]at Ss;exact g1 j x hj Ss;intro g;exact⟨fun j x hj e=>g j x hj (by unfold j0;rw[e,if_neg cT]),fun j x hj e=>g j x hj (by unfold j0;rw[if_pos e])⟩;rw[if_neg eim];have ZH:aD i=i:=by unfold j0 at tN;split at tN;exact absurd tN.symm eim;exact tN
 rw[h.kd i hi ZH];constructor;intro g j x hj e;refine g j x hj ?_;unfold j0 at e;split at e;exact absurd e.symm eim;exact e;intro g j x hj e;exact g j x hj (by unfold j0;rw[e,if_neg ein])
def Cu.mrg(hL:ON N ws L){W':Z (Int×Int)}{q:Nat->Nat}(T:Mg N p c aD m n)(h:TC ws N L (p::W) c aD)(hq:pQ L q)(hu:Cu N (p::W) aD q)(w:∀z∈W',z∈CC (dQ c m).arcs (dQ c n).arcs\/z∈W):
  q m=q n/\Cu N W' (j0 aD m n) q:=by
 obtain⟨m9,oC⟩:=T.pi;have Sz:=hu.w p (by simp);have e3:q m=q n:=by rcases T.pp with⟨e1,e2⟩|⟨e1,e2⟩;have a1:q m=q p.1.toNat:=hu.r _ _ T.hm (by omega) (by rw[T.em,e1]);have a2:q n=q p.2.toNat:=hu.r _ _ T.hn (by omega) (by rw[T.en,e2]);rw[a1,a2,Sz];have a1:q n=q p.1.toNat:=hu.r _ _ T.hn (by omega) (by rw[T.en,e1]);have a2:q m=q p.2.toNat:=hu.r _ _ T.hm (by omega) (by rw[T.em,e2]);rw[a1,a2,Sz]
 refine⟨e3,fun i j hi hj e=>?_,fun z hz=>?_⟩
 ·have ri:q (aD i)=q i:=hu.r _ _ (T.lt i hi) hi (T.idem i hi);have rj:q (aD j)=q j:=hu.r _ _ (T.lt j hj) hj (T.idem j hj);rw[<-ri,<-rj];unfold j0 at e;split at e
  ·next h1=>
   split at e
   ·next h2=>rw[h1,h2]
   ·next h2=>rw[h1,<-e3,e]
  ·next h1=>
   split at e
   ·next h2=>rw[h2,<-e3,e]
   ·next h2=>rw[e]
 rcases w z hz with hz |hz;obtain⟨x,hx,y,hy,hf,rfl⟩:=z83 hz;obtain⟨j,xc,q1,q2,q3⟩:=h.snd _ x T.hm T.em hx;obtain⟨j',yc,r1,r2,r3⟩:=h.snd _ y T.hn T.en hy;have jl:=(zG.1 q1).1;have jl':=(zG.1 r1).1;rw[hL.len]at jl jl';refine hq j j' xc yc x y q1 r1 ?_ q3 r3 hf;have a1:q j=q m:=hu.r _ _ jl T.hm (by rw[T.em,q2]);have a2:q j'=q n:=hu.r _ _ jl' T.hn (by rw[T.en,r2]);rw[a1,a2,e3];exact hu.w z (List.mem_cons_of_mem _ hz)
def lL(k:Nat)(x:aU):aU:=⟨x.Typex,x.Arcs.map (mS k)⟩
def z2i{a b:Z aT}(ha:jA a)(hb:jA b):jA (a++y5 a b):=by unfold jA at*;rw[List.pairwise_append];refine⟨ha,hb.filter _,fun x hx y hy e=>?_⟩;have:=(List.mem_filter.1 hy).2;have h2:OS a y.Feat=true:=Na.2 ⟨x,hx,e⟩;rw[h2]at this;cases this
def F6{cells:Z Gcell}{m n:Nat}{x y:Gcell}(hx:cells[m]? = some x)(hy:cells[n]? = some y)(EF:m≠n)(t:Int){o:Z aT}{k:Nat}(ho:o.length+k=x.arcs.length+y.arcs.length):
  tot (U8 cells m n t o)+k=tot cells:=by
 have h1:=Yv ⟨-1,t,o⟩ hx;have pB:(cells.set m ⟨-1,t,o⟩)[n]? = some y:=by rw[List.getElem?_set_ne EF];exact hy
 have h2:=Yv ⟨(m:Int),0,[]⟩ pB;simp only[U8,zS]at*;omega
def wI(w:Nat×Nat):Int×Int:=((w.1:Int),(w.2:Int))
structure Old(g:Int)(x:PN):Prop where
 fw:x.fwA<g
 mt:x.mtA<g
 mo:x.moA<g
 cp:x.cpA<g
 ch:x.chA<g
structure Mid(g:Int)(x:PN):Prop where
 fw:x.fwA<=g
 mt:x.mtA<=g
 mo:x.moA<=g
 cp:x.cpA<g
 ch:x.chA<g
def Old.mid{g:Int}{x:PN}(h:Old g x):Mid g x:=⟨by have:=h.fw;omega,by have:=h.mt;omega,by have:=h.mo;omega,h.cp,h.ch⟩
structure US(ws:Z Nat)(g:Int)(N:Z PN)(C:Z Gcell)(aD d:Nat->Nat)(D:Nat):Prop where
 rok:Ld N.length D aD d
 root:∀(i:Nat)(x:PN),N[i]? = some x->aD i=i->(x.fwA != g)=true
 link:∀(i:Nat)(x:PN),N[i]? = some x->aD i≠i->(x.fwA != g)=false/\∃j,x.fw=some j/\Lx N.length aD d i j
 cl:C.length=N.length
 kd:∀(i:Nat)(x:PN),N[i]? = some x->aD i=i->(dQ C i).kind=gE g x
 ar:∀(i:Nat)(x:PN),N[i]? = some x->aD i=i->(dQ C i).arcs=(bW g x).map gA
 ds:∀i,i<N.length->jA (dQ C i).arcs
 kr:∀i,i<N.length->aD i=i->0<=(dQ C i).kind/\(dQ C i).kind<(ws.length:Int)
 wf:Wf N
 mid:∀x∈N,Mid g x
def US.find{ws:Z Nat}{g:Int}{N:Z PN}{C:Z Gcell}{aD d:Nat->Nat}{D:Nat}(u:US ws g N C aD d D):∀(k i:Nat),d i<k->i<N.length->rL N g k i=some (aD i)
 |0,i,hk,_=>by omega
 |k+1,i,hk,hi=>by obtain⟨x,hx⟩:=eE hi;rw[rL,hx,aM];by_cases e:aD i=i;rw[u.root i x hx e,zC,e];obtain⟨h1,j,h2,h3,h4,h5⟩:=u.link i x hx e;rw[h1,zD,h2,aM,u.find k j (by omega) h3,h4]
def qz7{q:dR->BQ}{l:Z dR}(h:l.find? q=none):decide (y3 q l>=0)=false:=by
 have:l.findIdx? q=none:=by rw[List.findIdx?_eq_none_iff];intro x hx;simpa using List.find?_eq_none.1 h x hx
 rw[y3,this];rfl
def qq6{q:dR->BQ}{z:dR}:∀{l:Z dR},l.find? q=some z->∃i:Nat,y3 q l=(i:Int)/\l[i]? = some z
 |[],h=>by cases h
 |a::l,h=>by
  rw[List.find?_cons]at h;cases hq:q a with
  |true=>rw[hq]at h;cases h;exact⟨0,by simp[y3,List.findIdx?_cons,hq],rfl⟩|false=>rw[hq]at h;obtain⟨i,h1,h2⟩:=qq6 (l:=l) h;refine⟨i+1,?_,by simpa using h2⟩;unfold y3 at h1 ⊢;rw[List.findIdx?_cons,hq];rcases hf:l.findIdx? q with _|j;rw[hf]at h1;simp at h1;rw[hf]at h1;simp at h1 ⊢;omega
def z79(l:Z dR)(f:Int):(l.map gA).find? (fun x=>x.Feat==f)=(l.find? fun z=>z.f==f).map gA:=by rw[List.find?_map];rfl
def qy7(l:Z dR)(f:Int):OS (l.map gA) f=(l.find? fun z=>z.f==f).isSome:=by rw[Bool.eq_iff_iff,List.find?_isSome,Na];constructor;rintro⟨x,hx,e⟩;obtain⟨a,ha,rfl⟩:=List.mem_map.1 hx;exact⟨a,ha,by simpa[gA]using e⟩;rintro⟨a,ha,e⟩;exact⟨gA a,List.mem_map_of_mem ha,by simpa[gA]using e⟩
def z44{N:Z PN}{p:Nat}{x:PN}(h:N[p]? = some x):N.set p x=N:=by
 apply List.ext_getElem?;intro i;rw[List.getElem?_set];split
 ·next e=>subst e;rw[if_pos (zG.1 h).1,h]
 rfl
def gv{g:Int}{p:Nat}{mine:Z dR}:∀(ys:Z dR)(W:Z (Nat×Nat))(N:Z PN)(x:PN),N[p]? = some x->W.length+ys.length<=1000000->(g8 g x).length+ys.length<=1000000->
  ∃W1 mo moA l,N6 g p mine ys W N=some (W++W1,N.set p { x with more:=mo,moA:=moA })/\W1.map wI=CC (mine.map gA) (ys.map gA)/\g8 g { x with more:=mo,moA:=moA }=g8 g x++l/\l.map gA=y5 (mine.map gA) (ys.map gA)/\(∀a∈l,a∈ys)/\(moA=x.moA/\mo=x.more\/moA=g)/\(∀w∈W1,∃a∈mine,∃b∈ys,w=(a.to,b.to))
 |[],W,N,x,hx,_,_=>⟨[],x.more,x.moA,[],by rw[N6];simp[z44 hx],rfl,by simp,rfl,nofun,.inl ⟨rfl,rfl⟩,nofun⟩|y::ys,W,N,x,hx,h1,h2=>by
  simp only[zO]at h1 h2;rw[N6];have hf:=z79 mine y.f;cases hq:mine.find? (fun z=>z.f==y.f)with
  |some z=>obtain⟨i,e1,e2⟩:=qq6 hq;have hz:=List.mem_of_find?_eq_some hq;rw[e1,decide_eq_true (by omega),zC,dP,e2,aM,aG,if_pos (by omega)];obtain⟨W1,mo,moA,l,g1,g2,g3,g4,g5,g6,g7⟩:=gv (g:=g) (p:=p) (mine:=mine) ys (W++[(z.to,y.to)]) N x hx (by simp;omega) (by omega);refine⟨(z.to,y.to)::W1,mo,moA,l,by rw[g1];simp,?_,g3,?_,fun a ha=>List.mem_cons_of_mem _ (g5 a ha),g6,fun w hw=>?_⟩;rw[zQ,zQ,qup,show(gA y).Feat=y.f from rfl,hf,hq,g2];rfl;rw[g4,zQ,y5,y5,List.filter_cons,show(gA y).Feat=y.f from rfl,qy7,hq];rfl;rcases zI.1 hw with rfl |hw;exact⟨z,hz,y,by simp,rfl⟩;obtain⟨a,ha,b,hb,e⟩:=g7 w hw;exact⟨a,ha,b,List.mem_cons_of_mem _ hb,e⟩
  |none=>
   rw[qz7 hq,zD,hx,aM,aG,if_pos (by omega)];have hp:p<N.length:=nJ hx;have hm:g8 g { x with more:=g8 g x++[y],moA:=g }=g8 g x++[y]:=by simp[g8]
   obtain⟨W1,mo,moA,l,g1,g2,g3,g4,g5,g6,g7⟩:=gv (g:=g) (p:=p) (mine:=mine) ys W (N.set p { x with more:=g8 g x++[y],moA:=g }) { x with more:=g8 g x++[y],moA:=g } (by rw[List.getElem?_set_self hp]) (by omega) (by rw[hm];simp;omega);have e3:g8 g { x with more:=mo,moA:=moA }=g8 g { ({ x with more:=g8 g x++[y],moA:=g }:PN)with more:=mo,moA:=moA }:=rfl;refine⟨W1,mo,moA,y::l,by rw[g1,List.set_set],?_,?_,?_,fun a ha=>?_,.inr ?_,fun w hw=>?_⟩;rw[zQ,qup,show(gA y).Feat=y.f from rfl,hf,hq,g2];rfl;rw[e3,g3,hm];simp;rw[zQ,g4,zQ,y5,y5,List.filter_cons,show(gA y).Feat=y.f from rfl,qy7,hq];rfl;rcases zI.1 ha with rfl |ha;simp;exact List.mem_cons_of_mem _ (g5 a ha);rcases g6 with⟨e,_⟩|e;exact e;exact e;obtain⟨a,ha,b,hb,e⟩:=g7 w hw;exact⟨a,ha,b,List.mem_cons_of_mem _ hb,e⟩
def US.mrg{ws:Z Nat}{g:Int}{N:Z PN}{C:Z Gcell}{aD d:Nat->Nat}{D:Nat}(u:US ws g N C aD d D){p q:Nat}(hp:p<N.length)(hq:q<N.length)(ep:aD p=p)(eq:aD q=q)(rR:p≠q){x y:PN}(hx:N[p]? = some x)(hy:N[q]? = some y){t:Int}(ht:0<=t/\t<(ws.length:Int)){mo:Z dR}{moA:Int}{l:Z dR}
  (h1:g8 g { x with more:=mo,moA:=moA }=g8 g x++l) (h2:l.map gA=y5 (dQ C p).arcs (dQ C q).arcs) (h3:∀a∈l,a∈bW g y) (h4:moA=x.moA/\mo=x.more\/moA=g):
  US ws g ((N.set p { x with more:=mo,moA:=moA,mt:=t,mtA:=g }).set q { y with fw:=some p,fwA:=g }) (U8 C p q t ((dQ C p).arcs++y5 (dQ C p).arcs (dQ C q).arcs)) (j0 aD p q) (OU aD d q) (D+1):=by
 have hl:((N.set p { x with more:=mo,moA:=moA,mt:=t,mtA:=g }).set q { y with fw:=some p,fwA:=g }).length=N.length:=by simp
 have EH:p<C.length:=by rw[u.cl];exact hp
 have hcq:q<C.length:=by rw[u.cl];exact hq
 have cel:=qtd EH hcq rR t ((dQ C p).arcs++y5 (dQ C p).arcs (dQ C q).arcs);have cs:∀(i:Nat)(z:PN),((N.set p { x with more:=mo,moA:=moA,mt:=t,mtA:=g }).set q { y with fw:=some p,fwA:=g })[i]? = some z->(i=q/\z={ y with fw:=some p,fwA:=g })\/(i≠q/\i=p/\z={ x with more:=mo,moA:=moA,mt:=t,mtA:=g })\/(i≠q/\i≠p/\N[i]? = some z):=fun i z hz=>by rcases z08 hz with⟨e,e2⟩|⟨e,hz⟩;exact .inl ⟨e,e2⟩;rcases z08 hz with⟨e1,e2⟩|⟨e1,hz⟩;exact .inr (.inl ⟨e,e1,e2⟩);exact .inr (.inr ⟨e,e1,hz⟩)
 have wx:=u.wf.at hx;have wy:=u.wf.at hy;have mx:=u.mid x (zX hx);have my:=u.mid y (zX hy);have eY:∀a∈mo,a.to<N.length:=fun a ha=>by
  rcases h4 with⟨_,e2⟩|e;rw[e2]at ha;exact wx.more a ha;have h5:g8 g { x with more:=mo,moA:=moA }=mo:=by simp[g8,e]
  rw[h5]at h1;rw[h1]at ha;rcases yD.1 ha with ha |ha;exact ec wx a ha;exact M3 wy a (h3 a ha)
 refine⟨by rw[hl];exact u.rok.mrg hp ep eq rR,fun i z hz hr=>?_,fun i z hz hr=>?_,by simp only[U8,List.length_set,u.cl],fun i z hz hr=>?_,fun i z hz hr=>?_,fun i hi=>?_,fun i hi hr=>?_,fun z hz=>?_,fun z hz=>?_⟩;obtain⟨r1,r2⟩:=qh ep rR hr;rcases cs i z hz with⟨e,_⟩|⟨_,e,rfl⟩|⟨_,_,hz⟩;exact absurd e r1;exact u.root p x hx ep;exact u.root i z hz r2;rw[hl];rcases cs i z hz with⟨rfl,rfl⟩|⟨_,rfl,rfl⟩|⟨e1,_,hz⟩;exact⟨by simp,p,rfl,z35 u.rok hp hq ep eq rR⟩;exfalso;apply hr;unfold j0;rw[ep,if_neg rR];obtain⟨k1,j,k2,k3⟩:=u.link i z hz (z42 ep hr e1);exact⟨k1,j,k2,k3.mrg (D:=D)⟩;obtain⟨r1,r2⟩:=qh ep rR hr;rw[cel,if_neg r1];rcases cs i z hz with⟨e,_⟩|⟨_,e,rfl⟩|⟨_,e,hz⟩;exact absurd e r1;rw[if_pos e];simp[gE];rw[if_neg e];exact u.kd i z hz r2;obtain⟨r1,r2⟩:=qh ep rR hr;rw[cel,if_neg r1];rcases cs i z hz with⟨e,_⟩|⟨_,e,rfl⟩|⟨_,e,hz⟩;exact absurd e r1;rw[if_pos e];show _++y5 _ _=(x.arcs++g8 g { x with more:=mo,moA:=moA }).map gA;rw[h1,<-zT,List.map_append,h2,u.ar p x hx ep];rfl;rw[if_neg e];exact u.ar i z hz r2;rw[hl]at hi;rw[cel];split;exact List.Pairwise.nil;split;exact z2i (u.ds p hp) (u.ds q hq);exact u.ds i hi;rw[hl]at hi;obtain⟨r1,r2⟩:=qh ep rR hr;rw[cel,if_neg r1];split;exact ht;exact u.kr i hi r2;rw[hl];obtain⟨i,hi⟩:=List.getElem?_of_mem hz;rcases cs i z hi with⟨_,rfl⟩|⟨_,_,rfl⟩|⟨_,_,hz⟩;exact⟨wy.arcs,hp,wy.more,wy.cp⟩;exact⟨wx.arcs,wx.fw,eY,wx.cp⟩;exact u.wf.at hz;obtain⟨i,hi⟩:=List.getElem?_of_mem hz;rcases cs i z hi with⟨_,rfl⟩|⟨_,_,rfl⟩|⟨_,_,hz⟩;exact⟨Int.le_refl _,my.mt,my.mo,my.cp,my.ch⟩;refine⟨mx.fw,Int.le_refl _,?_,mx.cp,mx.ch⟩;show moA<=g;rcases h4 with⟨e,_⟩|e;rw[e];exact mx.mo;omega;exact u.mid z (zX hz)
structure UR(ws:Z Nat)(g:Int)(L:Z aU)(W:Z (Nat×Nat))(N N':Z PN)(aD:Nat->Nat)(B:Nat)(b:BQ):Prop where
 sm:Sm N N'
 wf:Wf N'
 mid:∀x∈N',Mid g x
 yes:b=true->∃C' pO d' D',US ws g N' C' pO d' D'/\D'+tot C'<=B/\TC ws N.length L [] C' pO/\(∀i j,aD i=aD j->pO i=pO j)/\(∀w∈W,pO w.1=pO w.2)/\∀q,pQ L q->Cu N.length (W.map wI) aD q->Cu N.length [] pO q
 no:b=false->∀q,pQ L q->Cu N.length (W.map wI) aD q->Io ws L q
def du{C:Z Gcell}{i:Nat}(hi:i<C.length):(dQ C i).arcs.length<=tot C:=by
 obtain⟨x,hx⟩:=eE hi;have:dQ C i=x:=by simp[dQ,hx]
 rw[this];exact z8n hx
def tx{H:eD}{ws:Z Nat}(hh:qU H ws){n:Nat}(hn:2000<=n){g:Int}{L:Z aU}:∀(m:Nat)(W:Z (Nat×Nat))(N:Z PN)(C:Z Gcell)(aD d:Nat->Nat)(D:Nat),ON N.length ws L->US ws g N C aD d D->(∀w∈W,w.1<N.length/\w.2<N.length)->TC ws N.length L (W.map wI) C aD->W.length+tot C<m->D+W.length+tot C<n->2*(W.length+tot C)<=1000000->
  ∃b N',IR H g n m W N=some (b,N')/\UR ws g L W N N' aD (D+W.length+tot C) b
 |0,W,N,C,aD,d,D,_,_,_,_,hm,_,_=>by omega
 |m+1,[],N,C,aD,d,D,hL,u,hw,tc,hm,hD,hB=>⟨true,N,rfl,Sm.refl N,u.wf,u.mid,fun _=>⟨C,aD,d,D,u,by simp,tc,fun _ _ h=>h,nofun,fun q _ h=>h⟩,nofun⟩|m+1,w::W,N,C,aD,d,D,hL,u,hw,tc,hm,hD,hB=>by
  simp only[zO]at hm hD hB;obtain⟨fJ,mO⟩:=hw w (by simp);have hb1:=u.rok.bd _ fJ;have hb2:=u.rok.bd _ mO;rw[IR,u.find n w.1 (by omega) fJ,aM,u.find n w.2 (by omega) mO,aM];have pi:cy N.length (wI w):=⟨⟨by simp[wI],by simp[wI];exact fJ⟩,by simp[wI],by simp[wI];exact mO⟩;by_cases e:aD w.1=aD w.2;have e1:Nat.beq (aD w.1) (aD w.2)=true:=by rw[beq_eq];simp[e]
  rw[e1,zC];obtain⟨b,N',g1,g2⟩:=tx hh hn m W N C aD d D hL u (fun z hz=>hw z (List.mem_cons_of_mem _ hz)) (tc.skip pi (by simpa[wI]using e)) (by omega) (by omega) (by omega);refine⟨b,N',g1,g2.sm,g2.wf,g2.mid,fun hb=>?_,fun hb q hq hu=>g2.no hb q hq ⟨hu.r,fun z hz=>hu.w z (List.mem_cons_of_mem _ hz)⟩⟩;obtain⟨C',pO,d',D',k1,k2,k3,k4,k5,k6⟩:=g2.yes hb;refine⟨C',pO,d',D',k1,by simp;omega,k3,k4,fun z hz=>?_,fun q hq hu=>k6 q hq ⟨hu.r,fun z hz=>hu.w z (List.mem_cons_of_mem _ hz)⟩⟩;rcases zI.1 hz with rfl |hz;exact k4 _ _ e;exact k5 z hz;have e1:Nat.beq (aD w.1) (aD w.2)=false:=by rw[beq_eq];simp[e]
  have hp:=u.rok.lt _ fJ;have hq:=u.rok.lt _ mO;have ep:=u.rok.idem _ fJ;have eq:=u.rok.idem _ mO;obtain⟨x,hx⟩:=eE hp;obtain⟨y,hy⟩:=eE hq;rw[e1,zD,hx,aM,hy,aM];have kx:=u.kd _ x hx ep;have ky:=u.kd _ y hy eq;have krx:=u.kr _ hp ep;have kry:=u.kr _ hq eq;have ax:=u.ar _ x hx ep;have ay:=u.ar _ y hy eq;have T:Mg N.length (wI w) C aD (aD w.1) (aD w.2):=⟨u.cl,hp,hq,ep,eq,e,u.rok.lt,u.rok.idem,pi,.inl ⟨by simp[wI],by simp[wI]⟩,u.ds _ hp⟩;rw[<-kx,<-ky];rcases Y9 hh krx kry hn with⟨_,⟨r,h1,h2⟩,h3⟩|⟨r,_,h1,h2,h3⟩;rw[h1,aM,h2];simp only[Bool.not_false,zC];refine⟨false,N,rfl,Sm.refl N,u.wf,u.mid,nofun,fun _ q oO hu=>?_⟩;obtain⟨e3,_⟩:=hu.mrg hL T tc oO (W':=W.map wI) fun z hz=>.inr hz
  refine⟨aD w.1,by rw[hL.len];exact hp,fun b=>?_⟩;have hb:(jV ws (dQ C (aD w.1)).kind).testBit b=false\/(jV ws (dQ C (aD w.2)).kind).testBit b=false:=by have:=congrArg (fun x=>x.testBit b) h3;simp only[Nat.testBit_and,Nat.zero_testBit,Bool.and_eq_false_iff]at this;exact this
  have find:∀i,i<N.length->aD i=i->(jV ws (dQ C i).kind).testBit b=false->∃(j:Nat)(x:aU),L[j]? = some x/\aD j=i/\(jV ws x.Typex).testBit b=false:=fun i hi tN hf=>by
   refine Classical.byContradiction fun fF=>?_;have:=(tc.kd i hi tN b).2 fun j x hj Ss=>by rcases hx:(jV ws x.Typex).testBit b with _|_;exact absurd ⟨j,x,hj,Ss,hx⟩ fF;rfl
   rw[hf]at this;cases this
  rcases hb with hb |hb;obtain⟨j,x,q1,q2,q3⟩:=find _ hp ep hb;have jl:=(zG.1 q1).1;rw[hL.len]at jl;exact⟨j,x,q1,hu.r _ _ jl hp (by rw[ep,q2]),q3⟩;obtain⟨j,x,q1,q2,q3⟩:=find _ hq eq hb;have jl:=(zG.1 q1).1;rw[hL.len]at jl;exact⟨j,x,q1,by rw[e3];exact hu.r _ _ jl hq (by rw[eq,q2]),q3⟩;have lx:(bW g x).length<=tot C:=by have:=du (C:=C) (i:=aD w.1) (by rw[u.cl];exact hp);rw[ax,yA]at this;exact this
  have ly:(bW g y).length<=tot C:=by have:=du (C:=C) (i:=aD w.2) (by rw[u.cl];exact hq);rw[ay,yA]at this;exact this
  have D0:C[aD w.1]? = some (dQ C (aD w.1)):=by obtain⟨z,hz⟩:=eE (l:=C) (i:=aD w.1) (by rw[u.cl];exact hp);simp[dQ,hz]
  have hcy:C[aD w.2]? = some (dQ C (aD w.2)):=by obtain⟨z,hz⟩:=eE (l:=C) (i:=aD w.2) (by rw[u.cl];exact hq);simp[dQ,hz]
  have kY:=F6 (o:=(dQ C (aD w.1)).arcs++y5 (dQ C (aD w.1)).arcs (dQ C (aD w.2)).arcs) (k:=(CC (dQ C (aD w.1)).arcs (dQ C (aD w.2)).arcs).length) D0 hcy e r (by rw[zU];have:=tj (dQ C (aD w.1)).arcs (dQ C (aD w.2)).arcs;omega);have lpr:(CC (dQ C (aD w.1)).arcs (dQ C (aD w.2)).arcs).length<=(bW g y).length:=by
   have h5:=tj (dQ C (aD w.1)).arcs (dQ C (aD w.2)).arcs;have h7:(dQ C (aD w.2)).arcs.length=(bW g y).length:=by rw[ay,yA]
   omega
  have lmo:(g8 g x).length<=(bW g x).length:=by simp[bW]
  rw[h1,aM];simp only[Bool.not_true,zD];rw[aG,if_pos ⟨by omega,by omega⟩];obtain⟨W1,mo,moA,l,g1,g2,g3,g4,g5,g6,g7⟩:=gv (g:=g) (p:=aD w.1) (mine:=bW g x) (bW g y) W N x hx (by omega) (by omega);rw[g1,aM];simp only;rw[List.getElem?_set_self hp,aM,List.set_set,List.getElem?_set_ne e,hy,aM];rw[<-ax,<-ay]at g2 g4;have u':=u.mrg hp hq ep eq e hx hy h2 g3 g4 g5 g6;have hN:((N.set (aD w.1) { x with more:=mo,moA:=moA,mt:=r,mtA:=g }).set (aD w.2) { y with fw:=some (aD w.1),fwA:=g }).length=N.length:=by simp
  have wx:=u.wf.at hx;have wy:=u.wf.at hy;have lW1:W1.length=(CC (dQ C (aD w.1)).arcs (dQ C (aD w.2)).arcs).length:=by rw[<-g2,yA]
  have tc':=tc.mrg (W':=(W++W1).map wI) hL T (t:=r) (o:=(dQ C (aD w.1)).arcs++y5 (dQ C (aD w.1)).arcs (dQ C (aD w.2)).arcs) h3 (List.Perm.refl _) (fun z hz=>by rw[List.map_append,g2];exact List.mem_append_right _ hz) fun z hz=>by rw[List.map_append];exact List.mem_append_left _ hz
  obtain⟨b,N',k1,k2⟩:=tx hh hn m (W++W1) _ _ _ _ (D+1) (by rw[hN];exact hL) u' (fun z hz=>by rw[hN];rcases yD.1 hz with hz |hz;exact hw z (List.mem_cons_of_mem _ hz);obtain⟨a,ha,b,hb,rfl⟩:=g7 z hz;exact⟨M3 wx a ha,M3 wy b hb⟩) (by rw[hN];exact tc') (by rw[zU];omega) (by rw[zU];omega) (by rw[zU];omega);have hs:Sm N ((N.set (aD w.1) { x with more:=mo,moA:=moA,mt:=r,mtA:=g }).set (aD w.2) { y with fw:=some (aD w.1),fwA:=g }):=
   (Sm.set { x with more:=mo,moA:=moA,mt:=r,mtA:=g } hx rfl rfl).trans (Sm.set { y with fw:=some (aD w.1),fwA:=g } (x:=y) (by rw[List.getElem?_set_ne e];exact hy) rfl rfl)
  refine⟨b,N',k1,hs.trans k2.sm,k2.wf,k2.mid,fun hb=>?_,fun hb q oO hu=>?_⟩;obtain⟨C',pO,d',D',j1,j2,j3,j4,j5,j6⟩:=k2.yes hb;rw[hN]at j3 j6;refine⟨C',pO,d',D',j1,by rw[zU]at j2;simp only[zO];omega,j3,fun i j kB=>j4 i j (qqq kB),fun z hz=>?_,fun q oO hu=>j6 q oO (hu.mrg hL T tc oO fun z hz=>?_).2⟩;rcases zI.1 hz with rfl |hz;refine j4 _ _ ?_;unfold j0;rw[if_neg e,if_pos rfl];exact j5 z (List.mem_append_left _ hz);rw[List.map_append,g2]at hz;rcases yD.1 hz with hz |hz;exact .inr hz;exact .inl hz;have:=k2.no hb q oO;rw[hN]at this;refine this (hu.mrg hL T tc oO fun z hz=>?_).2;rw[List.map_append,g2]at hz;rcases yD.1 hz with hz |hz;exact .inr hz;exact .inl hz
def bh{l:Z Nat}{n:Nat}(h:l.Nodup)(hl:∀k∈l,k<n):l.length<=n:=by
 have:=zm n (qts h) fun v hv=>by obtain⟨u,hu,rfl⟩:=List.mem_map.1 hv;have:=hl u hu;omega
 rwa [bk]at this
structure KK(x y:PN):Prop where
 kind:y.kind=x.kind
 arcs:y.arcs=x.arcs
 fw:y.fw=x.fw
 fwA:y.fwA=x.fwA
 mt:y.mt=x.mt
 mtA:y.mtA=x.mtA
 more:y.more=x.more
 moA:y.moA=x.moA
def KK.refl(x:PN):KK x x:=⟨rfl,rfl,rfl,rfl,rfl,rfl,rfl,rfl⟩
variable{x:PN}
variable{y:PN}
def KK.pk(h:KK x y)(g:Int):gE g y=gE g x/\g8 g y=g8 g x/\bW g y=bW g x:=by
 have h1:g8 g y=g8 g x:=by rw[g8,g8,h.moA,h.more]
 exact⟨by rw[gE,gE,h.mtA,h.kind,h.mt],h1,by rw[bW,bW,h.arcs,h1]⟩
def Kp(N1 N:Z PN):Prop:=∀(i:Nat)(x:PN),N1[i]? = some x->∃y,N[i]? = some y/\KK x y
def Kp.refl(N:Z PN):Kp N N:=fun i x hx=>⟨x,hx,KK.refl x⟩
section
variable{ws:Z Nat}{g:Int}{N1 N:Z PN}{C:Z Gcell}{aD d:Nat->Nat}{D n:Nat}
def US.findK(u:US ws g N1 C aD d D)(h:Kp N1 N):∀(k i:Nat),d i<k->i<N1.length->rL N g k i=some (aD i)
 |0,i,hk,_=>by omega
 |k+1,i,hk,hi=>by obtain⟨x,hx⟩:=eE hi;obtain⟨y,hy,hK⟩:=h i x hx;rw[rL,hy,aM,hK.fwA,hK.fw];by_cases e:aD i=i;rw[u.root i x hx e,zC,e];obtain⟨h1,j,h2,h3,h4,h5⟩:=u.link i x hx e;rw[h1,zD,h2,aM,u.findK h k j (by omega) h3,h4]
def US.fnd(u:US ws g N1 C aD d D)(h:Kp N1 N)(hn:D<n){i:Nat}(hi:i<N1.length):rL N g n i=some (aD i):=u.findK h n i (by have:=u.rok.bd i hi;omega) hi
variable{p:Nat}
def US.alen(u:US ws g N1 C aD d D)(hx:N1[p]? = some x)(hp:aD p=p):(bW g x).length<=tot C:=by have:=du (C:=C) (i:=p) (by rw[u.cl];exact nJ hx);rw[u.ar p x hx hp,yA]at this;exact this
def US.to(u:US ws g N1 C aD d D){p:Nat}{x:PN}(hx:N1[p]? = some x):∀a∈bW g x,a.to<N1.length:=M3 (u.wf.at hx)
def aw(u:US ws g N1 C aD d D)(hn:D<n)(hN:N1.length<=1000000):∀(l:Z dR)(out:Z Nat),(∀a∈l,a.to<N1.length)->out.Nodup->(∀k∈out,k<N1.length)->
  ∃t,PY N1 g n l out=some (out++t)/\(out++t).Nodup/\(∀k∈t,∃a∈l,k=aD a.to)/\∀a∈l,aD a.to∈out++t
 |[],out,_,h1,_=>⟨[],by simp[PY],by simpa using h1,nofun,nofun⟩|a::l,out,hl,h1,h2=>by
  have ha:=hl a (by simp);have hr:=u.rok.lt _ ha;rw[PY,u.fnd (Kp.refl _) hn ha,aM];by_cases hc:aD a.to∈out;have e1:out.contains (aD a.to)=true:=by simpa using hc
  rw[e1,zC];obtain⟨t,g1,g2,g3,g4⟩:=aw u hn hN l out (fun b hb=>hl b (List.mem_cons_of_mem _ hb)) h1 h2;refine⟨t,g1,g2,fun k hk=>?_,fun b hb=>?_⟩;obtain⟨b,hb,e⟩:=g3 k hk;exact⟨b,List.mem_cons_of_mem _ hb,e⟩;rcases zI.1 hb with rfl |hb;exact List.mem_append_left _ hc;exact g4 b hb;have e1:out.contains (aD a.to)=false:=by simpa using hc
  have AU:=bh h1 h2;have pI:(out++[aD a.to]).Nodup:=by rw[List.nodup_append];refine⟨h1,by simp,fun x hx y hy=>?_⟩;simp at hy;subst hy;exact fun e=>hc (e ▸ hx)
  have xT:∀k∈out++[aD a.to],k<N1.length:=fun k hk=>by rcases yD.1 hk with hk |hk;exact h2 k hk;simp at hk;subst hk;exact hr
  rw[e1,zD,aG,if_pos (by omega)];obtain⟨t,g1,g2,g3,g4⟩:=aw u hn hN l (out++[aD a.to]) (fun b hb=>hl b (List.mem_cons_of_mem _ hb)) pI xT;refine⟨aD a.to::t,by rw[g1];simp,by simpa using g2,fun k hk=>?_,fun b hb=>?_⟩;rcases zI.1 hk with rfl |hk;exact⟨a,by simp,rfl⟩;obtain⟨b,hb,e⟩:=g3 k hk;exact⟨b,List.mem_cons_of_mem _ hb,e⟩;rcases zI.1 hb with rfl |hb;simp;have:=g4 b hb;simpa using this
structure RO(g:Int)(N:Z PN)(aD:Nat->Nat)(r:Nat)(out:Z Nat):Prop where
 nd:out.Nodup
 lt:∀k∈out,k<N.length
 rp:∀k∈out,aD k=k
 hd:r∈out
 clo:∀p∈out,∀x,N[p]? = some x->∀a∈bW g x,aD a.to∈out
 ind:∀S:Nat->Prop,S r->(∀p x a,S p->N[p]? = some x->a∈bW g x->S (aD a.to))->∀p∈out,S p
def z63(u:US ws g N1 C aD d D)(hn:D<n)(hN:N1.length<=1000000)(hC:tot C<=1000000){r:Nat}:∀(m i:Nat)(out:Z Nat),out.Nodup->(∀k∈out,k<N1.length)->(∀k∈out,aD k=k)->r∈out->N1.length-i<m->i<=out.length->
  (∀(j p:Nat),j<i->out[j]? = some p->∀x,N1[p]? = some x->∀a∈bW g x,aD a.to∈out)->(∀S:Nat->Prop,S r->(∀p x a,S p->N1[p]? = some x->a∈bW g x->S (aD a.to))->∀p∈out,S p)->
  ∃o,U6 N1 g n m i out=some o/\RO g N1 aD r o
 |0,i,out,h1,h2,_,_,hm,hi,_,_=>by omega
 |m+1,i,out,h1,h2,h3,h4,hm,hi,h5,h6=>by
  have hl:=bh h1 h2;rw[U6];by_cases aH:i<out.length;obtain⟨p,hp⟩:=eE aH;have xL:=zX hp;obtain⟨x,hx⟩:=eE (h2 p xL);have oF:=u.alen hx (h3 p xL);rw[decide_eq_true aH,zC,hp,aM,hx,aM,aG,if_pos ⟨by omega,by omega⟩];obtain⟨t,g1,g2,g3,g4⟩:=aw u hn hN (bW g x) out (u.to hx) h1 h2;rw[g1,aM];refine z63 u hn hN hC m (i+1) (out++t) g2 (fun k hk=>?_) (fun k hk=>?_) (List.mem_append_left _ h4) (by omega) (by rw[zU];omega) (fun j q hj hq y hy a ha=>?_) fun S hS hc q hq=>?_;rcases yD.1 hk with hk |hk
  exact h2 k hk;obtain⟨a,ha,rfl⟩:=g3 k hk;exact u.rok.lt _ (u.to hx a ha);rcases yD.1 hk with hk |hk;exact h3 k hk;obtain⟨a,ha,rfl⟩:=g3 k hk;exact u.rok.idem _ (u.to hx a ha);rw[List.getElem?_append_left (by omega)]at hq;rcases Nat.lt_succ_iff_lt_or_eq.1 hj with hj |rfl;exact List.mem_append_left _ (h5 j q hj hq y hy a ha);rw[hp]at hq;cases hq;rw[hx]at hy;cases hy;exact g4 a ha;rcases yD.1 hq with hq |hq;exact h6 S hS hc q hq;obtain⟨a,ha,rfl⟩:=g3 q hq;exact hc p x a (h6 S hS hc p xL) hx ha;rw[decide_eq_false aH,zD];refine⟨out,rfl,h1,h2,h3,h4,fun p hp x hx a ha=>?_,h6⟩;obtain⟨j,hj⟩:=List.getElem?_of_mem hp;exact h5 j p (by have:=(zG.1 hj).1;omega) hj x hx a ha
def KM(g:Int)(x y:PN):Prop:=y={ x with ch:=y.ch,chA:=y.chA }/\(y.chA=x.chA\/y.chA=g)
structure xU(g:Int)(N1 N:Z PN):Prop where
 len:N.length=N1.length
 st:∀(i:Nat)(x:PN),N1[i]? = some x->∃y,N[i]? = some y/\KM g x y
def KM.kk(h:KM g x y):KK x y:=by rw[h.1];exact⟨rfl,rfl,rfl,rfl,rfl,rfl,rfl,rfl⟩
def xU.kp(h:xU g N1 N):Kp N1 N:=fun i x hx=>by
 obtain⟨y,h1,h2⟩:=h.st i x hx;exact⟨y,h1,h2.kk⟩
def xU.refl(g:Int)(N:Z PN):xU g N N:=⟨rfl,fun i x hx=>⟨x,hx,rfl,.inl rfl⟩⟩
def xU.set(h:xU g N1 N){p:Nat}{y:PN}(hy:N[p]? = some y)(c:BQ):xU g N1 (N.set p { y with ch:=c,chA:=g }):=⟨by simp[h.len],fun i x hx=>by
 obtain⟨z,h1,h2⟩:=h.st i x hx;by_cases e:p=i;subst e;rw[hy]at h1;cases h1;refine⟨{ y with ch:=c,chA:=g },by rw[List.getElem?_set_self (nJ hy)],?_,.inr rfl⟩;rw[h2.1];exact⟨z,by rw[List.getElem?_set_ne e];exact h1,h2⟩⟩
def dI(g:Int)(N:Z PN)(p:Nat):BQ:=match N[p]? with
 |some x=>xF g x|none=>false
def Lt(h:N[p]? = some x):dI g N p=xF g x:=by rw[dI,h]
def ab{q:Nat}(hy:N[p]? = some y)(c:BQ):dI g (N.set p { y with ch:=c,chA:=g }) q=if q=p then c else dI g N q:=by by_cases e:q=p;subst e;rw[if_pos rfl,Lt (x:={ y with ch:=c,chA:=g }) (by rw[List.getElem?_set_self (nJ hy)])];simp[xF];rw[if_neg e,dI,dI,List.getElem?_set_ne (Ne.symm e)]
def Ik(g:Int)(aD:Nat->Nat)(x:PN):BQ:=gE g x != x.kind||(decide (((g8 g x).length:Int)>0)||x.arcs.any fun a=>!Nat.beq (aD a.to) a.to)
def z4p{v11:Type}{f h:v11->BQ}:∀{l:Z v11},(∀a∈l,f a=h a)->l.any f=l.any h
 |[],_=>rfl|a::l,q=>by rw[List.any_cons,List.any_cons,q a (by simp),z4p fun b hb=>q b (by simp[hb])]
def RL(u:US ws g N1 C aD d D)(hn:D<n)(hs:∀x∈N1,x.arcs.length<=1000000):∀(l:Z Nat)(N:Z PN),xU g N1 N->(∀p∈l,p<N1.length)->
  ∃N',XZ g n l N=some N'/\xU g N1 N'/\(∀p∈l,∀x,N1[p]? = some x->dI g N' p=Ik g aD x)/\∀p,p ∉ l->N'[p]? = N[p]?
 |[],N,h,_=>⟨N,rfl,h,nofun,fun _ _=>rfl⟩|p::l,N,h,hl=>by
  obtain⟨x,hx⟩:=eE (hl p (by simp));obtain⟨y,hy,hk⟩:=h.st p x hx;have kk:=hk.kk;obtain⟨e1,e2,e3⟩:=kk.pk g;have kY:∀a∈x.arcs,a.to<N1.length:=(u.wf.at hx).arcs;have hf:Dp N g n y.arcs=true:=by rw[Dp,kk.arcs,List.all_eq_true];intro a ha;rw[u.fnd h.kp hn (kY a ha)];rfl
  have hm:y.arcs.any (L2 N g n)=x.arcs.any fun a=>!Nat.beq (aD a.to) a.to:=by rw[kk.arcs];refine z4p fun a ha=>?_;rw[L2,u.fnd h.kp hn (kY a ha)]
  have hb:(gE g y != y.kind||(decide (((g8 g y).length:Int)>0)||y.arcs.any (L2 N g n)))=Ik g aD x:=by rw[hm,e1,e2,kk.kind];rfl
  rw[XZ,hy,aM,hf,zC,aG,if_pos (by rw[kk.arcs];exact hs x (zX hx)),hb];obtain⟨N',g1,g2,g3,g4⟩:=RL u hn hs l _ (h.set hy (Ik g aD x)) fun q hq=>hl q (List.mem_cons_of_mem _ hq);refine⟨N',g1,g2,fun q hq z hz=>?_,fun q hq=>?_⟩;by_cases xK:q∈l;exact g3 q xK z hz;have:q=p:=(zI.1 hq).resolve_right xK;subst this;rw[hx]at hz;cases hz;rw[dI,g4 q xK,<-dI,ab hy,if_pos rfl];rw[g4 q fun h=>hq (List.mem_cons_of_mem _ h),List.getElem?_set_ne fun e=>hq (by rw[e];simp)]
def z4q(h:xU g N1 N):∀(l:Z dR),(∀a∈l,a.to<N1.length)->G9 g N l=some (l.any fun a=>dI g N a.to)
 |[],_=>rfl|a::l,hl=>by obtain⟨x,hx⟩:=eE (l:=N) (i:=a.to) (by rw[h.len];exact hl a (by simp));rw[G9,hx,aM,List.any_cons,Lt hx];rcases xF g x with _|_;rw[zD,z4q h l fun b hb=>hl b (List.mem_cons_of_mem _ hb),Bool.false_or];rfl
def Yg(wf:Wf N1)(hs:∀x∈N1,x.arcs.length<=1000000):∀(l:Z Nat)(ag:BQ)(N:Z PN),xU g N1 N->(∀p∈l,p<N1.length)->
  ∃ag' N',IS g l ag N=some (ag',N')/\xU g N1 N'/\(∀p,dI g N p=true->dI g N' p=true)/\(∀p,p ∉ l->N'[p]? = N[p]?)/\ (ag'=false->ag=false/\N'=N/\∀p∈l,dI g N p=false->∀x,N1[p]? = some x->∀a∈x.arcs,dI g N a.to=false)/\(ag'=true->ag=true\/∃p∈l,dI g N p=false/\dI g N' p=true)
 |[],ag,N,h,_=>⟨ag,N,rfl,h,fun _ h=>h,fun _ _=>rfl,fun e=>⟨e,rfl,nofun⟩,fun e=>.inl e⟩|p::l,ag,N,h,hl=>by
  obtain⟨x,hx⟩:=eE (hl p (by simp));obtain⟨y,hy,hk⟩:=h.st p x hx;have kk:=hk.kk;have xN:∀q∈l,q<N1.length:=fun q hq=>hl q (List.mem_cons_of_mem _ hq);have NM:∀{q},q ∉ p::l->q ∉ l:=fun hq h=>hq (List.mem_cons_of_mem _ h);rw[IS,hy,aM];cases hc:xF g y with
  |true=>rw[zC];obtain⟨ag',N',g1,g2,g3,g4,g5,g6⟩:=Yg wf hs l ag N h xN;refine⟨ag',N',g1,g2,g3,fun q hq=>g4 q (NM hq),fun e=>⟨(g5 e).1,(g5 e).2.1,fun q hq S8=>?_⟩,fun e=>(g6 e).imp id fun⟨q,a,b⟩=>⟨q,List.mem_cons_of_mem _ a,b⟩⟩;rcases zI.1 hq with rfl |hq;rw[Lt hy,hc]at S8;cases S8;exact(g5 e).2.2 q hq S8
  |false=>
   have kY:∀a∈y.arcs,a.to<N1.length:=by rw[kk.arcs];exact(wf.at hx).arcs
   rw[zD,aG,if_pos (by rw[kk.arcs];exact hs x (zX hx)),z4q h _ kY,aM];cases ha:y.arcs.any fun a=>dI g N a.to with
   |true=>
    rw[zC];obtain⟨ag',N',g1,g2,g3,g4,g5,g6⟩:=Yg wf hs l true _ (h.set hy true) xN;have CP:∀q,dI g N q=true->dI g (N.set p { y with ch:=true,chA:=g }) q=true:=fun q hq=>by rw[ab hy];split<;>simp[hq]
    refine⟨ag',N',g1,g2,fun q hq=>g3 q (CP q hq),fun q hq=>?_,fun e=>?_,fun e=>.inr ⟨p,by simp,by rw[Lt hy,hc],g3 p (by rw[ab hy,if_pos rfl])⟩⟩;rw[g4 q (NM hq),List.getElem?_set_ne fun e=>hq (by rw[e];simp)];cases (g5 e).1
   |false=>rw[zD];obtain⟨ag',N',g1,g2,g3,g4,g5,g6⟩:=Yg wf hs l ag N h xN;refine⟨ag',N',g1,g2,g3,fun q hq=>g4 q (NM hq),fun e=>⟨(g5 e).1,(g5 e).2.1,fun q hq S8 z hz a L?=>?_⟩,fun e=>(g6 e).imp id fun⟨q,a,b⟩=>⟨q,List.mem_cons_of_mem _ a,b⟩⟩;rcases zI.1 hq with rfl |hq;rw[hx]at hz;cases hz;rw[<-kk.arcs]at L?;have:=List.any_eq_false.1 ha a L?;simpa using this;exact(g5 e).2.2 q hq S8 z hz a L?
def L6(g:Int)(l:Z Nat)(N:Z PN):Nat:=(l.filter fun p=>!dI g N p).length
def qxi{N N':Z PN}(h:∀p,dI g N p=true->dI g N' p=true):∀l:Z Nat,L6 g l N'<=L6 g l N
 |[]=>zF _|p::l=>by
  have ih:=qxi h l;unfold L6 at ih ⊢;rw[List.filter_cons,List.filter_cons];cases h1:dI g N p with
  |true=>rw[h p h1];simpa using ih|false=>cases dI g N' p<;>simp<;>omega
def qxj{N N':Z PN}(h:∀p,dI g N p=true->dI g N' p=true):∀l:Z Nat,(∃p∈l,dI g N p=false/\dI g N' p=true)->L6 g l N'<L6 g l N
 |[],⟨p,hp,_⟩=>(List.not_mem_nil hp).elim|p::l,⟨q,hq,h1,h2⟩=>by
  have pG:=qxi h l;unfold L6 at pG ⊢;rw[List.filter_cons,List.filter_cons];rcases zI.1 hq with rfl |hq;rw[h1,h2];simp;omega;have ih:=qxj h l ⟨q,hq,h1,h2⟩;unfold L6 at ih;cases h3:dI g N p with
  |true=>rw[h p h3];simpa using ih|false=>cases dI g N' p<;>simp<;>omega
def RJ(wf:Wf N1)(hs:∀x∈N1,x.arcs.length<=1000000){l:Z Nat}(hl:∀p∈l,p<N1.length):∀(m:Nat)(N:Z PN),xU g N1 N->L6 g l N<m->
  ∃N',XY g l m N=some N'/\xU g N1 N'/\(∀p,dI g N p=true->dI g N' p=true)/\(∀p,p ∉ l->N'[p]? = N[p]?)/\∀p∈l,dI g N' p=false->∀x,N1[p]? = some x->∀a∈x.arcs,dI g N' a.to=false
 |0,N,_,hm=>by omega
 |m+1,N,h,hm=>by
  obtain⟨ag,N2,g1,g2,g3,g4,g5,g6⟩:=Yg wf hs l false N h hl;rw[XY,g1,aM];cases ag with
  |false=>rw[zD];obtain⟨_,e,q⟩:=g5 rfl;simp only at e ⊢;subst e;exact⟨N2,rfl,g2,g3,g4,q⟩
  |true=>rw[zC];have:=qxj g3 l ((g6 rfl).resolve_left (by simp));obtain⟨N',k1,k2,k3,k4,k5⟩:=RJ wf hs hl m N2 g2 (by omega);exact⟨N',k1,k2,fun p hp=>k3 p (g3 p hp),fun p hp=>by rw[k4 p hp,g4 p hp],k5⟩
structure MO(g:Int)(aD:Nat->Nat)(N1 N:Z PN)(l:Z Nat):Prop where
 km:xU g N1 N
 out:∀p,p ∉ l->N[p]? = N1[p]?
 bs:∀p∈l,dI g N p=false->∀x,N1[p]? = some x->Ik g aD x=false
 cl:∀p∈l,dI g N p=false->∀x,N1[p]? = some x->∀a∈x.arcs,dI g N a.to=false
def z7j(u:US ws g N1 C aD d D)(hn:D<n)(hs:∀x∈N1,x.arcs.length<=1000000){l:Z Nat}(hl:∀p∈l,p<N1.length)(qE:l.length<n/\l.length<=1000000):∃N,Kt g n l N1=some N/\MO g aD N1 N l:=by obtain⟨N2,g1,g2,g3,g4⟩:=RL u hn hs l N1 (xU.refl g N1) hl;obtain⟨N,k1,k2,k3,k4,k5⟩:=RJ u.wf hs hl n N2 g2 (by have:L6 g l N2<=l.length:=List.length_filter_le _ _;omega);refine⟨N,by rw[Kt,aG,if_pos qE.2,g1,aM,k1],k2,fun p hp=>by rw[k4 p hp,g4 p hp],fun p hp hc x hx=>?_,k5⟩;rcases hb:Ik g aD x with _|_;rfl;have:=k3 p (by rw[g3 p hp x hx,hb]);rw[this]at hc;cases hc
end
structure uu(d' d:Z dR):Prop where
 pm:d'.Perm d
 up:d'.Pairwise fun a b=>a.f<b.f
def z80{d:Z dR}(hl:d.length<=1000000)(hd:d.Pairwise fun a b=>a.f≠b.f)(hr:∀a∈d,0<=a.f/\a.f<1000):∃d',G8 d=some d'/\uu d' d:=by
 have hw:∀x∈d,∀y∈d,gI (fun a b:dR=>some (RowKit.wrap64 (a.f-b.f))) x y=decide (x.f<y.f):=fun x hx y hy=>by
  have h1:=hr x hx;have h2:=hr y hy;have:RowKit.wrap64 (x.f-y.f)=x.f-y.f:=by unfold RowKit.wrap64;omega
  simp only[gI,Option.getD_some,this];rw[Bool.eq_iff_iff];simp;omega
 have eqd:∀x∈d,∀y∈d,x.f=y.f->x=y:=by
  clear hw hr hl;induction d with
  |nil=>intro x hx;cases hx|cons a d ih=>obtain⟨h1,h2⟩:=List.pairwise_cons.1 hd;intro x hx y hy e;rcases zI.1 hx with e1 |kx<;>rcases zI.1 hy with e2 |ky;rw[e1,e2];subst e1;exact absurd e (h1 y ky);subst e2;exact absurd e.symm (h1 x kx);exact ih h2 x kx y ky e
 have sS:WG IA (fun a b:dR=>some (RowKit.wrap64 (a.f-b.f))) d=true:=by
  unfold WG;rw[List.all_eq_true];intro x hx;rw[Bool.and_eq_true,Bool.not_eq_true',List.all_eq_true];refine⟨by rw[hw x hx x hx];simp,fun y hy=>?_⟩;rw[Bool.and_eq_true,Bool.and_eq_true,List.all_eq_true];refine⟨rfl,?_,fun z hz=>?_⟩;rw[hw x hx y hy,hw y hy x hx];by_cases e:x.f=y.f;have:=eqd x hx y hy e;subst this;simp[IA];have:x.f<y.f\/y.f<x.f:=by omega
  rcases this with h |h<;>simp[h];rw[hw x hx y hy,hw y hy z hz,hw x hx z hz];rw[Bool.and_eq_true,Bool.or_eq_true,Bool.or_eq_true,Bool.or_eq_true,Bool.not_eq_true',Bool.not_eq_true',Bool.and_eq_false_iff,decide_eq_true_iff,decide_eq_true_iff,decide_eq_true_iff,decide_eq_false_iff_not,decide_eq_false_iff_not,decide_eq_false_iff_not];omega
 refine⟨_,by rw[G8,Xk,sS,Bool.and_true,Nat.ble_eq_true_of_le hl,zC],M9 _ _,?_⟩;have hS:=qmj qxr sS;have h1:Asc _ _:=ap hS d fun y hy=>hy;have h2:(srt (gI fun a b:dR=>some (RowKit.wrap64 (a.f-b.f))) d).Pairwise fun a b=>a.f≠b.f:=(M9 _ d).symm.pairwise hd fun{a b} h=>Ne.symm h;have h3:∀x∈srt (gI fun a b:dR=>some (RowKit.wrap64 (a.f-b.f))) d,x∈d:=fun x hx=>(M9 _ d).mem_iff.1 hx;revert h1 h2 h3;generalize srt (gI fun a b:dR=>some (RowKit.wrap64 (a.f-b.f))) d=s;intro h1 h2 h3;unfold Asc at h1;have:=List.Pairwise.and h1 h2;refine List.Pairwise.imp_of_mem (fun{a b} ha hb h=>?_) this;have h4:=h.1;rw[hw b (h3 b hb) a (h3 a ha)]at h4;have h5:=h.2;simp at h4;omega
section
variable{ws:Z Nat}{g:Int}{Nu N1:Z PN}{C:Z Gcell}{aD d:Nat->Nat}{D n:Nat}
def iP(g:Int)(N1:Z PN)(out:Z Nat)(i:Nat):Nat:=if dI g N1 i=true then N1.length+(out.filter (dI g N1)).idxOf i else i
structure P1(g:Int)(N1:Z PN)(out dn:Z Nat)(N:Z PN):Prop where
 len:N.length=N1.length+(dn.filter (dI g N1)).length
 old1:∀(i:Nat)(x:PN),N1[i]? = some x->i ∉ dn->N[i]? = some x
 old2:∀(i:Nat)(x:PN),N1[i]? = some x->i∈dn->N[i]? = some { x with cp:=some (iP g N1 out i),cpA:=g }
 new:∀(k p:Nat)(x:PN),(dn.filter (dI g N1))[k]? = some p->N1[p]? = some x->N[N1.length+k]? = some (gC (gE g x) [])
def z5w{out dn l:Z Nat}{p:Nat}(ho:out=dn++p::l)(mZ:out.Nodup)(hc:dI g N1 p=true):iP g N1 out p=N1.length+(dn.filter (dI g N1)).length:=by
 rw[iP,if_pos hc,ho,List.filter_append,List.filter_cons,hc,if_pos rfl,List.idxOf_append];have:p ∉ dn.filter (dI g N1):=fun h=>by have h:=(List.mem_filter.1 h).1;rw[ho,List.nodup_append]at mZ;exact mZ.2.2 p h p (by simp) rfl
 rw[if_neg this];simp
def qtq{l:Z Nat}{p q k:Nat}(h:(l++[p])[k]? = some q):l[k]? = some q\/(k=l.length/\q=p):=by
 by_cases hk:k<l.length;rw[List.getElem?_append_left hk]at h;exact .inl h;rw[List.getElem?_append_right (by omega)]at h;have h1:k-l.length<1:=(zG.1 h).1;have h2:k-l.length=0:=by omega
 rw[h2]at h;simp at h;exact .inr ⟨by omega,h.symm⟩
def ut{out:Z Nat}(mZ:out.Nodup)(aH:∀p∈out,p<N1.length):∀(l dn:Z Nat)(N:Z PN)(s:Int),out=dn++l->P1 g N1 out dn N->0<=s->s+(l.length:Int)<=1000000->
  ∃N',R6 g l N s=some (N',s+((l.filter (dI g N1)).length:Int))/\P1 g N1 out out N'
 |[],dn,N,s,ho,h,_,_=>by
  have:dn=out:=by rw[ho];simp
  subst this;exact⟨N,by simp[R6],h⟩
 |p::l,dn,N,s,ho,h,h0,hs=>by
  have hp:=aH p (by rw[ho];simp);obtain⟨x,hx⟩:=eE hp;have Y_:p ∉ dn:=fun q=>by rw[ho,List.nodup_append]at mZ;exact mZ.2.2 p q p (by simp) rfl
  have hN:=h.old1 p x hx Y_;have hl:=h.len;have hpN:p<N.length:=nJ hN;simp only[zO]at hs;rw[R6,hN,aM,<-Lt (N:=N1) hx,List.filter_cons];cases hc:dI g N1 p with
  |true=>
   rw[zC,if_pos rfl];have cO:=z5w ho mZ hc;have hw:IntKind.i64.wrap (s+1)=s+1:=oA (by omega) (by omega);rw[hw];have hP:P1 g N1 out (dn++[p]) ((N++[gC (gE g x) []]).set p { x with cp:=some N.length,cpA:=g }):=by
    have hf:(dn++[p]).filter (dI g N1)=dn.filter (dI g N1)++[p]:=by simp[List.filter_append,hc]
    refine⟨by rw[hf];simp;omega,fun i y hy hi=>?_,fun i y hy hi=>?_,fun k q y hk hy=>?_⟩;have gU:i ∉ dn/\i≠p:=by simpa using hi
    rw[List.getElem?_set_ne (Ne.symm gU.2),List.getElem?_append_left (by rw[hl];have:=nJ hy;omega)];exact h.old1 i y hy gU.1;by_cases e:i=p;subst e;rw[hx]at hy;cases hy;rw[List.getElem?_set_self (by simp;omega),cO,hl];have gU:i∈dn:=by simpa[e]using hi
    rw[List.getElem?_set_ne (Ne.symm e),List.getElem?_append_left (by rw[hl];have:=nJ hy;omega)];exact h.old2 i y hy gU;rw[hf]at hk;rw[List.getElem?_set_ne (by omega)];rcases qtq hk with hk |⟨rfl,rfl⟩;have:=(zG.1 hk).1;rw[List.getElem?_append_left (by omega)];exact h.new k q y hk hy;rw[hx]at hy;cases hy;rw[List.getElem?_append_right (by omega)];simp[hl]
   obtain⟨N',g1,g2⟩:=ut mZ aH l (dn++[p]) _ (s+1) (by rw[ho];simp) hP (by omega) (by omega);exact⟨N',by rw[g1,zO];congr 2;omega,g2⟩
  |false=>
   rw[zD,if_neg (by simp)];have hP:P1 g N1 out (dn++[p]) (N.set p { x with cp:=some p,cpA:=g }):=by
    have hf:(dn++[p]).filter (dI g N1)=dn.filter (dI g N1):=by simp[List.filter_append,hc]
    refine⟨by rw[hf];simp;omega,fun i y hy hi=>?_,fun i y hy hi=>?_,fun k q y hk hy=>?_⟩;have gU:i ∉ dn/\i≠p:=by simpa using hi
    rw[List.getElem?_set_ne (Ne.symm gU.2)];exact h.old1 i y hy gU.1;by_cases e:i=p;subst e;rw[hx]at hy;cases hy;rw[List.getElem?_set_self hpN,iP,hc,if_neg (by simp)];have gU:i∈dn:=by simpa[e]using hi
    rw[List.getElem?_set_ne (Ne.symm e)];exact h.old2 i y hy gU;rw[hf]at hk;rw[List.getElem?_set_ne (by omega)];exact h.new k q y hk hy
   exact ut mZ aH l (dn++[p]) _ s (by rw[ho];simp) hP h0 (by omega)
def P1.nil(out:Z Nat):P1 g N1 out [] N1:=⟨by simp,fun _ _ h _=>h,fun _ _ _ h=>(List.not_mem_nil h).elim,fun _ _ _ h=>by simp at h⟩
def KL(g:Int)(N1:Z PN)(out:Z Nat)(aD:Nat->Nat)(a:dR):dR:=⟨a.f,iP g N1 out (aD a.to)⟩
def z4w(u:US ws g Nu C aD d D)(hn:D<n){N:Z PN}(hK:Kp Nu N){out:Z Nat}(ho:∀p∈out,∃y,N[p]? = some y/\y.cp=some (iP g N1 out p)/\y.cpA=g):∀(l dd:Z dR),(∀a∈l,a.to<Nu.length/\aD a.to∈out)->dd.length+l.length<=1000000->U7 N g n l dd=some (dd++l.map (KL g N1 out aD))
 |[],dd,_,_=>by simp[U7]
 |a::l,dd,hl,hs=>by
  obtain⟨h1,h2⟩:=hl a (by simp);obtain⟨y,hy,hc,hcA⟩:=ho _ h2;simp only[zO]at hs;have At:FF g y=some (iP g N1 out (aD a.to)):=by rw[FF,hcA,hc];simp
  rw[U7,u.fnd hK hn h1,aM,hy,aM,At,aM,aG,if_pos (by omega),z4w u hn hK ho l _ (fun b hb=>hl b (List.mem_cons_of_mem _ hb)) (by simp;omega)];simp[KL]
structure P2(g:Int)(N1 N2:Z PN)(aD:Nat->Nat)(out dn:Z Nat)(N:Z PN):Prop where
 len:N.length=N2.length
 old:∀i,i<N1.length->N[i]? = N2[i]?
 don:∀(k p:Nat)(x:PN),(dn.filter (dI g N1))[k]? = some p->N1[p]? = some x->∃d',N[N1.length+k]? = some (gC (gE g x) d')/\uu d' ((bW g x).map (KL g N1 out aD))
 rst:∀k,(dn.filter (dI g N1)).length<=k->N[N1.length+k]? = N2[N1.length+k]?
def ur(u:US ws g Nu C aD d D)(hn:D<n)(X?:Kp Nu N1)(hL1:N1.length=Nu.length){out:Z Nat}(mZ:out.Nodup)(aH:∀p∈out,p<N1.length){N2:Z PN}(h2:P1 g N1 out out N2)
  (ha:∀p∈out,∀x,N1[p]? = some x->(bW g x).length<=1000000/\(bW g x).Pairwise (fun a b=>a.f≠b.f)/\∀a∈bW g x,(0<=a.f/\a.f<1000)/\a.to<Nu.length/\aD a.to∈out):∀(l dn:Z Nat)(N:Z PN),out=dn++l->P2 g N1 N2 aD out dn N->
  ∃N',N7 g n l N (N1.length+(dn.filter (dI g N1)).length)=some N'/\P2 g N1 N2 aD out out N'
 |[],dn,N,ho,h=>by
  have:dn=out:=by rw[ho];simp
  subst this;exact⟨N,by rw[N7,aG,if_pos (by rw[h.len,h2.len])],h⟩
 |p::l,dn,N,ho,h=>by
  have U_:p∈out:=by rw[ho];simp
  have hp:=aH p U_;obtain⟨x,hx⟩:=eE hp;have hN:N[p]? = some { x with cp:=some (iP g N1 out p),cpA:=g }:=by rw[h.old p hp];exact h2.old2 p x hx U_
  have At:FF g { x with cp:=some (iP g N1 out p),cpA:=g }=some (iP g N1 out p):=by simp[FF]
  rw[N7,hN,aM,At,aM];cases hc:dI g N1 p with
  |false=>
   have e1:Nat.beq (iP g N1 out p) p=true:=by rw[beq_eq,iP,hc];simp
   rw[e1,zC];have hf:(dn++[p]).filter (dI g N1)=dn.filter (dI g N1):=by simp[List.filter_append,hc]
   have:=ur u hn X? hL1 mZ aH h2 ha l (dn++[p]) N (by rw[ho];simp) ⟨h.len,h.old,fun k q y hk hy=>h.don k q y (by rw[hf]at hk;exact hk) hy,fun k hk=>h.rst k (by rw[hf]at hk;exact hk)⟩;rw[hf]at this;exact this
  |true=>
   have cO:=z5w ho mZ hc;have e1:Nat.beq (iP g N1 out p) p=false:=by rw[beq_eq,cO];simp;omega
   have hf:(dn++[p]).filter (dI g N1)=dn.filter (dI g N1)++[p]:=by simp[List.filter_append,hc]
   have yx:(out.filter (dI g N1))[(dn.filter (dI g N1)).length]? = some p:=by rw[ho,List.filter_append,List.filter_cons,hc,if_pos rfl,List.getElem?_append_right (zF _)];simp
   have hNq:N[iP g N1 out p]? = some (gC (gE g x) []):=by rw[cO,h.rst _ (zF _)];exact h2.new _ p x yx hx
   obtain⟨a1,a2,a3⟩:=ha p U_ x hx;have yk:bW g { x with cp:=some (iP g N1 out p),cpA:=g }=bW g x:=rfl;rw[e1,zD,hNq,aM,aG,if_pos ⟨cO,by omega,by rw[yk];exact a1⟩,yk];have hK:Kp Nu N:=fun i z hz=>by obtain⟨y,hy,hk⟩:=X? i z hz;have hi:=nJ hy;rw[h.old i hi];by_cases Ic:i∈out;exact⟨_,h2.old2 i y hy Ic,⟨hk.kind,hk.arcs,hk.fw,hk.fwA,hk.mt,hk.mtA,hk.more,hk.moA⟩⟩;exact⟨y,h2.old1 i y hy Ic,hk⟩
   have iD:∀q∈out,∃y,N[q]? = some y/\y.cp=some (iP g N1 out q)/\y.cpA=g:=fun q hq=>by obtain⟨z,hz⟩:=eE (aH q hq);exact⟨_,by rw[h.old q (aH q hq)];exact h2.old2 q z hz hq,rfl,rfl⟩
   rw[z4w u hn hK iD (bW g x) [] (fun a ha=>(a3 a ha).2) (by simp;exact a1),aM,List.nil_append];obtain⟨d',k1,k2⟩:=z80 (d:=(bW g x).map (KL g N1 out aD)) (by simp;exact a1) (by rw[List.pairwise_map];exact a2) (fun b hb=>by obtain⟨a,ha,rfl⟩:=List.mem_map.1 hb;exact(a3 a ha).1);rw[k1,aM];have ZN:=nJ hNq;have:=ur u hn X? hL1 mZ aH h2 ha l (dn++[p]) (N.set (iP g N1 out p) { gC (gE g x) []with arcs:=d' }) (by rw[ho];simp) ⟨by simp[h.len],fun i hi=>by rw[List.getElem?_set_ne (by omega)];exact h.old i hi,fun k q y hk hy=>?_,fun k hk=>?_⟩;rw[hf]at this;simpa[Nat.add_assoc]using this;rw[hf]at hk;rcases qtq hk with hk |⟨rfl,rfl⟩;have:=(zG.1 hk).1;rw[List.getElem?_set_ne (by omega)];exact h.don k q y hk hy;rw[hx]at hy;cases hy;refine⟨d',?_,k2⟩;rw[<-cO,List.getElem?_set_self ZN];rfl;rw[hf]at hk;simp at hk;rw[List.getElem?_set_ne (by omega)];exact h.rst k (by omega)
end
inductive Wk(f:GFS):Int->List Int->Int->Prop
 |nil (v:Int):Wk f v [] v
 |cons {v w:Int} {a:aT} {p:List Int}:a∈(nd f v).Arcs->Wk f a.To p w->Wk f v (a.Feat::p) w
variable{f:GFS}
variable{v:Int}
variable{w:Int}
def Wk.inv{q:Z Int}(h:Wk f v q w):∀{x:Int}{p:Z Int},q=x::p->∃b∈(nd f v).Arcs,b.Feat=x/\Wk f b.To p w:=by cases h with|nil=>intro x p e;cases e| @cons _ _ a p' ha hw=>intro x p e;cases e;exact⟨a,ha,rfl,hw⟩
variable{p:Z Int}
def Wk.det(hg:jL f)(h:Wk f v p w):fG f v->∀{w'},Wk f v p w'->w'=w:=by induction h with|nil v=>intro _ w' h';cases h';rfl| @cons v w a p ha hw ih=>intro hv w' h';have hn:=hg _ (tK hv).2;obtain⟨b,hb,hf,mX⟩:=h'.inv rfl;have:=hn.dis.eq a ha b hb hf.symm;subst this;have:=hn.arc a ha;exact ih ⟨this.2.1,this.2.2⟩ mX
def Wk.ing(hg:jL f)(h:Wk f v p w)(hv:fG f v):fG f w:=by induction h with|nil v=>exact hv| @cons v w a p ha hw ih=>have:=(hg _ (tK hv).2).arc a ha;exact ih ⟨this.2.1,this.2.2⟩
def Wk.snoc(h:Wk f v p w){a:aT}(ha:a∈(nd f w).Arcs):Wk f v (p++[a.Feat]) a.To:=by induction h with|nil v=>exact .cons ha (.nil _)|cons hb _ ih=>exact .cons hb (ih ha)
def Rc(f:GFS)(v w:Int):Prop:=∃p,Wk f v p w
def Rc.refl(f:GFS)(v:Int):Rc f v v:=⟨[],.nil v⟩
def Rc.snoc{f:GFS}{v w:Int}(h:Rc f v w){a:aT}(ha:a∈(nd f w).Arcs):Rc f v a.To:=h.elim fun p hp=>⟨_,hp.snoc ha⟩
def Cl(x:PN):Gcell:=⟨-1,x.kind,x.arcs.map gA⟩
variable{N:Z PN}
variable{i:Nat}
variable{x:PN}
def WW(h:N[i]? = some x):dQ (N.map Cl) i=Cl x:=by simp[dQ,h]
def Old.pk{g:Int}(h:Old g x):gE g x=x.kind/\g8 g x=[]/\bW g x=x.arcs:=by
 have h1:(x.mtA != g)=true:=by have:=h.mt;simp;omega
 have h2:(x.moA != g)=true:=by have:=h.mo;simp;omega
 have h3:g8 g x=[]:=by rw[g8,h2];rfl
 exact⟨by rw[gE,h1];rfl,h3,by rw[bW,h3,List.append_nil]⟩
variable{ws:Z Nat}
def Dd{g:Int}(c:CO N)(wf:Wf N)(ho:∀x∈N,Old g x)(hk:∀x∈N,0<=x.kind/\x.kind<(ws.length:Int)):US ws g N (N.map Cl) id (fun _=>0) 0:=by refine⟨⟨fun i hi=>hi,fun _ _=>rfl,fun _ _=>rfl,fun _ _=>zF _⟩,fun i x hx _=>?_,fun i x hx h=>absurd rfl h,by simp,fun i x hx _=>?_,fun i x hx _=>?_,fun i hi=>?_,fun i hi _=>?_,wf,fun x hx=>(ho x hx).mid⟩;have:=(ho x (zX hx)).fw;simp;omega;rw[WW hx,(ho x (zX hx)).pk.1];rfl;rw[WW hx,(ho x (zX hx)).pk.2.2];rfl;obtain⟨x,hx⟩:=eE hi;rw[WW hx];exact(c.up x (zX hx)).dis;obtain⟨x,hx⟩:=eE hi;rw[WW hx];exact hk x (zX hx)
def Fa{j:Nat}{c:aU}(h:(core N).Nodes[j]? = some c):∃x,N[j]? = some x/\c=cN x:=by simp only[core,List.getElem?_map]at h;rcases hx:N[j]? with _|x;rw[hx]at h;cases h;rw[hx]at h;exact⟨x,rfl,(Option.some.inj h).symm⟩
def dq{j:Nat}(h:N[j]? = some x):(core N).Nodes[j]? = some (cN x):=by simp[core,h]
def YD(c:CO N):ON N.length ws (core N).Nodes:=⟨iO N,fun j x a hj ha=>by
 have:=(c.gok x (zX hj)).arc a ha;rw[iO]at this;exact this.2⟩
def tc0(W:Z (Int×Int)):TC ws N.length (core N).Nodes W (N.map Cl) id:=by refine⟨fun j c a hj ha=>?_,fun i b hi _ hb=>?_,fun i hi _ k=>?_⟩;obtain⟨x,hx,rfl⟩:=Fa hj;exact⟨a,by rw[id,WW hx];exact ha,rfl,fun _ _ _=>rfl⟩;obtain⟨x,hx⟩:=eE hi;rw[WW hx]at hb;exact⟨i,cN x,dq hx,rfl,hb⟩;obtain⟨x,hx⟩:=eE hi;rw[WW hx];constructor;intro h j c hj e;have e:j=i:=e;subst e;rw[dq hx]at hj;cases hj;exact h;intro h;exact h i (cN x) (dq hx) rfl
def qG(C:Z Gcell)(aD:Nat->Nat)(N:Nat):GFS:=⟨(List.range N).map fun i=>if aD i=i then RE aD (dQ C i)else⟨0,[]⟩⟩
variable{aD:Nat->Nat}
def ui{C:Z Gcell}{N:Nat}(hi:i<N)(hr:aD i=i):(qG C aD N).Nodes[i]? = some (RE aD (dQ C i)):=by simp[qG,hi,hr]
def QI{C:Z Gcell}{N:Nat}(hi:i<N)(hr:aD i=i):nd (qG C aD N) (i:Int)=RE aD (dQ C i):=by rw[nd,zZ,ui hi hr];rfl
def TO{l:Z aT}(h:jA l):jA (l.map (TU aD)):=by unfold jA at*;rw[List.pairwise_map];exact h
section
variable{ws:Z Nat}{g:Int}{Nu:Z PN}{C:Z Gcell}{aD d:Nat->Nat}{D n:Nat}{L:Z aU}
def US.qgok(u:US ws g Nu C aD d D)(hL:ON Nu.length ws L)(J:∀c∈L,∀a∈c.Arcs,0<=a.Feat)(tc:TC ws Nu.length L [] C aD):jL (qG C aD Nu.length):=fun x hx=>by
 have hl:(qG C aD Nu.length).Nodes.length=Nu.length:=by simp[qG]
 simp only[qG]at hx;obtain⟨i,hi,rfl⟩:=List.mem_map.1 hx;have hi:i<Nu.length:=by simpa using hi
 by_cases e:aD i=i;rw[if_pos e];refine⟨(u.kr i hi e).1,TO (u.ds i hi),fun a ha=>?_⟩;obtain⟨b,hb,rfl⟩:=List.mem_map.1 ha;obtain⟨j,c,h1,h2,h3⟩:=tc.snd i b hi e hb;have h4:=hL.ar j c b h1 h3;have h5:=u.rok.lt b.To.toNat (by omega);rw[hl];simp only[TU,rI];exact⟨J c (zX h1) b h3,by omega,by omega⟩;rw[if_neg e];exact⟨Int.le_refl _,List.Pairwise.nil,nofun⟩
def US.qg(u:US ws g Nu C aD d D)(hL:ON Nu.length ws L)(tc:TC ws Nu.length L [] C aD):QG ws L aD (qG C aD Nu.length):=by
 have hN:=hL.len;have node:∀{i:Nat}{x:aU},(qG C aD Nu.length).Nodes[i]? = some x->aD i=i->i<Nu.length/\x=RE aD (dQ C i):=fun{i x} hx hr=>by
  have hi:i<Nu.length:=by have:=(zG.1 hx).1;simpa[qG]using this
  rw[ui hi hr]at hx;exact⟨hi,(Option.some.inj hx).symm⟩
 refine⟨by simp[qG,hN],fun i hi=>?_,fun i x hx hr=>?_,fun i x hx hr=>?_,fun j y a hj ha=>?_,fun i x b hx hr hb=>?_⟩;rw[hN]at hi ⊢;exact⟨u.rok.lt i hi,u.rok.idem i hi⟩;obtain⟨hi,rfl⟩:=node hx hr;exact⟨u.kr i hi hr,tc.kd i hi hr⟩;obtain⟨hi,rfl⟩:=node hx hr;exact TO (u.ds i hi);obtain⟨b,h1,h2,h3⟩:=tc.cov j y a hj ha;have jl:=(zG.1 hj).1;rw[hN]at jl;refine⟨RE aD (dQ C (aD j)),TU aD b,ui (u.rok.lt j jl) (u.rok.idem j jl),List.mem_map_of_mem h1,h2,?_⟩;simp only[TU,rI];rw[h3 aD (fun _ _ _ _ e=>e) (fun _ hz=>by cases hz)];obtain⟨hi,rfl⟩:=node hx hr;obtain⟨b0,hb0,rfl⟩:=List.mem_map.1 hb;obtain⟨j,y,q1,q2,q3⟩:=tc.snd i b0 hi hr hb0;exact⟨j,y,b0,q1,q2,q3,rfl,rfl⟩
def US.clo(u:US ws g Nu C aD d D)(hL:ON Nu.length ws L)(h:TC ws Nu.length L [] C aD):pQ L aD:=fun i j x y a b hi hj e ha hb hf=>by
 obtain⟨a',p1,p2,p3⟩:=h.cov i x a hi ha;obtain⟨b',q1,q2,q3⟩:=h.cov j y b hj hb;have il:=(zG.1 hi).1;rw[hL.len]at il;rw[<-e]at q1;have:a'=b':=(u.ds _ (u.rok.lt i il)).eq a' p1 b' q1 (by omega);subst this;have e1:=p3 aD (fun _ _ _ _ e=>e) (fun _ hz=>by cases hz);have e2:=q3 aD (fun _ _ _ _ e=>e) (fun _ hz=>by cases hz);omega
def US.good(u:US ws g Nu C aD d D)(hL:ON Nu.length ws L)(hw:∀w∈ws,w≠0)(h:TC ws Nu.length L [] C aD):¬ Io ws L aD:=fun⟨i,hi,hb⟩=>by
 rw[hL.len]at hi;have hr:=u.rok.lt i hi;have lH:=u.rok.idem i hi;have hk:=u.kr _ hr lH;obtain⟨k,nL⟩:=Nat.exists_testBit_of_ne_zero (hw _ (zX (LY hk)));obtain⟨j,x,q1,q2,q3⟩:=hb k;have:=(h.kd _ hr lH k).1 nL j x q1 q2;rw[q3]at this;cases this
def QG.wk{r:Nat->Nat}{q:GFS}(h:QG ws L r q)(hL:∀(j:Nat)(c:aU)(a:aT),L[j]? = some c->a∈c.Arcs->0<=a.To/\a.To<(L.length:Int))(hw:Wk ⟨L⟩ v p w):(0<=v/\v<(L.length:Int))->Wk q (r v.toNat:Int) p (r w.toNat:Int):=by
 induction hw with
 |nil v=>intro _;exact .nil _| @cons v w a p ha hw ih=>
  intro hv;obtain⟨c,hc⟩:=eE (l:=L) (i:=v.toNat) (by omega);have e:nd ⟨L⟩ v=c:=by simp[nd,hc]
  rw[e]at ha;obtain⟨x,b,h1,h2,h3,h4⟩:=h.cov _ c a hc ha;have:=ih (hL _ c a hc ha);rw[<-h3];refine .cons (a:=b) ?_ (by rw[h4];exact this);simp[nd,h1];exact h2
end
structure Xf(ws:Z Nat)(g:Int)(Nu:Z PN)(Q:GFS)(r:Nat)(N3:Z PN)(c k:Nat)(out:Z Nat)(V:Nat->Nat):Prop where
 co:CO N3
 ex:Ex Nu.length Nu N3
 wf:Wf N3
 len:N3.length=Nu.length+k
 old:∀x∈N3,Old (g+1) x
 kr:∀x∈N3,0<=x.kind/\x.kind<(ws.length:Int)
 ft:∀x∈N3,∀a∈x.arcs,0<=a.f/\a.f<1000
 rt:c=V r/\r∈out
 lt:∀p∈out,p<Nu.length/\V p<N3.length
 img:∀p∈out,(nd (core N3) (V p:Int)).Typex=(nd Q (p:Int)).Typex/\∀b,b∈(nd (core N3) (V p:Int)).Arcs↔∃a∈(nd Q (p:Int)).Arcs,∃q:Nat,a.To=(q:Int)/\q∈out/\b=⟨a.Feat,(V q:Int)⟩
 inj:∀p∈out,∀q∈out,V p=V q->p=q
 low:∀p∈out,V p<Nu.length->V p=p
 new:∀i,Nu.length<=i->i<N3.length->∃p∈out,V p=i
 k:k<=out.length
 rch:∀p∈out,Rc Q (r:Int) (p:Int)
 cl:∀p∈out,∀a∈(nd Q (p:Int)).Arcs,∃q∈out,a.To=(q:Int)
 can:cK (core N3) (c:Int)=cK Q (r:Int)
 ord:out.length<=(bH Q (r:Int)).length
def Hk{v11 v09:Type}[DecidableEq v09]{R:v11->v09->Prop}(hR:∀a x y,R a x->R a y->x=y):∀(v10:Z v11)(l:Z v09),l.Nodup->(∀x∈l,∃a∈v10,R a x)->l.length<=v10.length
 |[],[],_,_=>zF _|[],x::l,_,h=>by obtain⟨a,ha,_⟩:=h x (by simp);cases ha
 |a::v10,l,hn,h=>by
  by_cases hx:∃x∈l,R a x;obtain⟨x,hx,hr⟩:=hx;have h1:=Hk hR v10 (l.erase x) (hn.erase x) fun y hy=>by obtain⟨cT,pB⟩:=hn.mem_erase_iff.1 hy;obtain⟨b,hb,q⟩:=h y pB;rcases zI.1 hb with rfl |hb;exact absurd (hR _ _ _ q hr) cT;exact⟨b,hb,q⟩
  have h2:=List.length_erase_of_mem hx;simp only[zO];omega;have h1:=Hk hR v10 l hn fun y hy=>by obtain⟨b,hb,q⟩:=h y hy;rcases zI.1 hb with rfl |hb;exact absurd ⟨y,hy,q⟩ hx;exact⟨b,hb,q⟩
  simp only[zO];omega
def z2w{l:Z Nat}(h:l.Nodup){k p:Nat}(hk:k<l.length)(hp:l[k]=p):l.idxOf p=k:=by have hm:p∈l:=hp ▸ List.getElem_mem hk;have h1:=List.idxOf_lt_length_iff.2 hm;have h2:=List.getElem_idxOf h1;have h3:=List.pairwise_iff_getElem.1 h;rcases Nat.lt_trichotomy (l.idxOf p) k with e |e |e;exact absurd (h2.trans hp.symm) (h3 _ _ h1 hk e);exact e;exact absurd (hp.trans h2.symm) (h3 _ _ hk h1 e)
def z6z{N:Z PN}{K:Nat}(hl:N.length<=1000000)(hs:∀x∈N,x.arcs.length<=1000000)(hk:∀x∈N,0<=x.kind)(hu:∀x∈N,x.arcs.Pairwise fun a b=>a.f<b.f)(hf:∀x∈N,∀a∈x.arcs,0<=a.f)(wf:Wf N):CO N:=by
 have up:∀x∈N,kC (x.arcs.map gA):=fun x hx=>by unfold kC;rw[List.pairwise_map];exact hu x hx
 refine⟨fun y hy=>?_,up,hl,hs⟩;rw[iO];obtain⟨x,hx,rfl⟩:=List.mem_map.1 hy;refine⟨hk x hx,(up x hx).dis,fun a ha=>?_⟩;obtain⟨b,hb,rfl⟩:=List.mem_map.1 ha;have:=(wf x hx).arcs b hb;exact⟨hf x hx b hb,by simp only[gA];omega,by simp only[gA];omega⟩
def CO.up'{N:Z PN}(c:CO N):∀x∈N,x.arcs.Pairwise fun a b=>a.f<b.f:=fun x hx=>by
 have:=c.up x hx;unfold kC at this;rw[List.pairwise_map]at this;exact this
section
variable{ws:Z Nat}{g:Int}{Nu:Z PN}{C:Z Gcell}{aD d:Nat->Nat}{D n:Nat}
def Wh(u:US ws g Nu C aD d D)(co:CO Nu)(tc:TC ws Nu.length (core Nu).Nodes [] C aD)(hn:D<n/\Nu.length<n)(hN:2*Nu.length<=1000000)(hC:tot C<=1000000)
  (hk:∀x∈Nu,0<=x.kind/\x.kind<(ws.length:Int)) (hf:∀x∈Nu,∀a∈x.arcs,0<=a.f/\a.f<1000) (hg:0<=g) {s:Int} (h0:0<=s) (hs:s+(Nu.length:Int)<=1000000) {r:Nat} (hr:r<Nu.length) (hrr:aD r=r):
  ∃(c:Nat)(N3:Z PN)(k:Nat)(out:Z Nat)(V:Nat->Nat),Do g n Nu s r=some (c,N3,s+(k:Int))/\Xf ws g Nu (qG C aD Nu.length) r N3 c k out V:=by
 have hL:=YD (ws:=ws) co;obtain⟨out,o1,o2⟩:=z63 u hn.1 (by omega) hC (r:=r) n 0 [r] (by simp) (fun k hk=>by simp at hk;subst hk;exact hr) (fun k hk=>by simp at hk;subst hk;exact hrr) (by simp) (by omega) (by simp) (fun j p hj=>by omega) (fun S hS _ p hp=>by simp at hp;subst hp;exact hS);have CW:=bh o2.nd o2.lt;obtain⟨Nm,m1,m2⟩:=z7j u hn.1 co.sm o2.lt ⟨by omega,by omega⟩;have mP:=m2.km.len;have aH:∀p∈out,p<Nm.length:=fun p hp=>by rw[mP];exact o2.lt p hp
 obtain⟨N2,p1,p2⟩:=ut (g:=g) o2.nd aH out [] Nm s rfl (P1.nil out) h0 (by omega);have nod:∀p∈out,∃x y,Nu[p]? = some x/\Nm[p]? = some y/\KM g x y/\gE g y=gE g x/\bW g y=bW g x/\(dQ C p).kind=gE g x/\(dQ C p).arcs=(bW g x).map gA:=fun p hp=>by obtain⟨x,hx⟩:=eE (o2.lt p hp);obtain⟨y,hy,hk⟩:=m2.km.st p x hx;obtain⟨e1,e2,e3⟩:=hk.kk.pk g;exact⟨x,y,hx,hy,hk,e1,e3,u.kd p x hx (o2.rp p hp),u.ar p x hx (o2.rp p hp)⟩
 have arcF:∀p∈out,∀x,Nu[p]? = some x->(bW g x).Pairwise (fun a b=>a.f≠b.f)/\∀a∈bW g x,(0<=a.f/\a.f<1000)/\a.to<Nu.length/\aD a.to∈out:=fun p hp x hx=>by
  have e:=u.ar p x hx (o2.rp p hp);refine⟨?_,fun a ha=>⟨?_,u.to hx a ha,o2.clo p hp x hx a ha⟩⟩;have:=u.ds p (o2.lt p hp);rw[e]at this;unfold jA at this;rw[List.pairwise_map]at this;exact this;have hm:gA a∈(dQ C p).arcs:=by rw[e];exact List.mem_map_of_mem ha
  obtain⟨j,c,q1,q2,q3⟩:=tc.snd p _ (o2.lt p hp) (o2.rp p hp) hm;obtain⟨z,hz,rfl⟩:=Fa q1;obtain⟨b,hb,e2⟩:=List.mem_map.1 q3;have:=hf z (zX hz) b hb;have e3:b.f=a.f:=congrArg aT.Feat e2;omega
 obtain⟨N3,q1,q2⟩:=ur u hn.1 m2.km.kp mP o2.nd aH p2 (fun p hp y hy=>by obtain⟨x,y',hx,pB,_,_,e3,_,_⟩:=nod p hp;rw[hy]at pB;cases pB;rw[e3];exact⟨by have:=u.alen hx (o2.rp p hp);omega,arcF p hp x hx⟩) out [] N2 rfl ⟨rfl,fun _ _=>rfl,fun _ _ _ h=>by simp at h,fun _ _=>rfl⟩;have hN3:N3.length=Nu.length+(out.filter (dI g Nm)).length:=by rw[q2.len,p2.len,mP]
 have B0:(out.filter (dI g Nm)).length<=out.length:=List.length_filter_le _ _;have old:∀(i:Nat)(x:PN),Nu[i]? = some x->∃y,N3[i]? = some y/\KK x y/\(y.cpA=x.cpA\/y.cpA=g)/\(y.chA=x.chA\/y.chA=g)/\(DF N3.length y.cp):=fun i x hx=>by
  obtain⟨y,hy,hk⟩:=m2.km.st i x hx;have hi:=nJ hy;have EH:DF N3.length x.cp:=DF.le (by omega) (u.wf.at hx).cp;rw[q2.old i hi];by_cases Ic:i∈out
  ·refine⟨_,p2.old2 i y hy Ic,⟨hk.kk.kind,hk.kk.arcs,hk.kk.fw,hk.kk.fwA,hk.kk.mt,hk.kk.mtA,hk.kk.more,hk.kk.moA⟩,.inr rfl,hk.2,?_⟩;show iP g Nm out i<N3.length;unfold iP;split
   ·next hc=>have:=List.idxOf_lt_length_iff.2 (List.mem_filter.2 ⟨Ic,hc⟩:i∈out.filter (dI g Nm));omega
   omega
  refine⟨y,p2.old1 i y hy Ic,hk.kk,.inl ?_,hk.2,?_⟩;rw[hk.1];rw[hk.1];exact EH
 have new:∀k,k<(out.filter (dI g Nm)).length->∃p x d',(out.filter (dI g Nm))[k]? = some p/\p∈out/\dI g Nm p=true/\Nu[p]? = some x/\N3[Nu.length+k]? = some (gC (gE g x) d')/\uu d' ((bW g x).map (KL g Nm out aD)):=fun k hk=>by obtain⟨p,hp⟩:=eE hk;have xL:=List.mem_filter.1 (zX hp);obtain⟨x,y,hx,hy,_,e1,e3,_,_⟩:=nod p xL.1;obtain⟨d',k1,k2⟩:=q2.don k p y hp hy;rw[e1,mP]at k1;rw[e3]at k2;exact⟨p,x,d',hp,xL.1,xL.2,hx,k1,k2⟩
 have pil:∀p∈out,iP g Nm out p<N3.length:=fun p hp=>by
  unfold iP;split
  ·next hc=>have:=List.idxOf_lt_length_iff.2 (List.mem_filter.2 ⟨hp,hc⟩:p∈out.filter (dI g Nm));omega
  have:=o2.lt p hp;omega
 have nds:∀y∈N3,(0<=y.kind/\y.kind<(ws.length:Int))/\(y.arcs.Pairwise fun a b=>a.f<b.f)/\(∀a∈y.arcs,0<=a.f/\a.f<1000)/\y.arcs.length<=1000000/\jK N3.length y/\Old (g+1) y:=fun y hy=>by
  obtain⟨i,hi⟩:=List.getElem?_of_mem hy;by_cases gG:i<Nu.length;obtain⟨x,hx⟩:=eE gG;obtain⟨y',h1,h2,h3,h4,h5⟩:=old i x hx;rw[hi]at h1;cases h1;have gJ:=zX hx;have w:=u.wf x gJ;have m:=u.mid x gJ;refine⟨by rw[h2.kind];exact hk x gJ,by rw[h2.arcs];exact co.up' x gJ,by rw[h2.arcs];exact hf x gJ,by rw[h2.arcs];exact co.sm x gJ,⟨?_,?_,?_,h5⟩,?_⟩;rw[h2.arcs];exact fun a ha=>by have:=w.arcs a ha;omega
  rw[h2.fw];exact DF.le (by omega) w.fw;rw[h2.more];exact fun a ha=>by have:=w.more a ha;omega
  have q1:=m.fw;have q2:=m.mt;have q3:=m.mo;have q4:=m.cp;have q5:=m.ch;exact⟨by rw[h2.fwA];omega,by rw[h2.mtA];omega,by rw[h2.moA];omega,by rcases h3 with e |e<;>omega,by rcases h4 with e |e<;>omega⟩;have HD:i<N3.length:=nJ hi;obtain⟨p,x,d',k1,k2,k3,k4,k5,k6⟩:=new (i-Nu.length) (by omega);rw[show Nu.length+(i-Nu.length)=i by omega,hi]at k5;cases k5;obtain⟨x',y',uO,_,_,_,_,e4,_⟩:=nod p k2;rw[k4]at uO;cases uO;have kr:=u.kr p (o2.lt p k2) (o2.rp p k2);rw[e4]at kr;have hda:∀a∈d',∃b∈bW g x,a=KL g Nm out aD b:=fun a ha=>by obtain⟨b,hb,e⟩:=List.mem_map.1 (k6.pm.mem_iff.1 ha);exact⟨b,hb,e.symm⟩
  refine⟨kr,k6.up,fun a ha=>?_,?_,⟨fun a ha=>?_,trivial,nofun,trivial⟩,⟨by show(0:Int)<g+1;omega,by show(0:Int)<g+1;omega,by show(0:Int)<g+1;omega,by show(0:Int)<g+1;omega,by show(0:Int)<g+1;omega⟩⟩;obtain⟨b,hb,rfl⟩:=hda a ha;exact((arcF p k2 x k4).2 b hb).1;show d'.length<=1000000;rw[k6.pm.length_eq,yA];have:=u.alen k4 (o2.rp p k2);omega;obtain⟨b,hb,rfl⟩:=hda a ha;exact pil _ ((arcF p k2 x k4).2 b hb).2.2
 have co3:CO N3:=z6z (K:=0) (by omega) (fun y hy=>(nds y hy).2.2.2.1) (fun y hy=>(nds y hy).1.1) (fun y hy=>(nds y hy).2.1) (fun y hy a ha=>((nds y hy).2.2.1 a ha).1) fun y hy=>(nds y hy).2.2.2.2.1;have ex:Ex Nu.length Nu N3:=⟨by omega,fun i x _ hx=>by obtain⟨y,h1,h2,_⟩:=old i x hx;exact⟨y,h1,h2.kind,h2.arcs⟩⟩;have img:∀p∈out,∃x y,Nu[p]? = some x/\N3[iP g Nm out p]? = some y/\y.kind=gE g x/\y.arcs.Perm ((bW g x).map (KL g Nm out aD)):=fun p hp=>by
  obtain⟨x,y,hx,hy,hk,e1,e3,e4,e5⟩:=nod p hp;cases hc:dI g Nm p with
  |true=>
   have hm:=List.mem_filter.2 (⟨hp,hc⟩:p∈out/\dI g Nm p=true);obtain⟨q,x',d',k1,k2,k3,k4,k5,k6⟩:=new ((out.filter (dI g Nm)).idxOf p) (List.idxOf_lt_length_iff.2 hm);have:q=p:=by have h1:=List.getElem?_eq_getElem (List.idxOf_lt_length_iff.2 hm);rw[List.getElem_idxOf]at h1;rw[h1]at k1;exact(Option.some.inj k1).symm
   subst this;rw[hx]at k4;cases k4;refine⟨x,gC (gE g x) d',hx,?_,rfl,k6.pm⟩;rw[iP,hc,if_pos rfl,mP];exact k5
  |false=>
   obtain⟨z,h1,h2,_⟩:=old p x hx;have hb:=m2.bs p hp hc x hx;have iF:=m2.cl p hp hc x hx;unfold Ik at hb;simp only[Bool.or_eq_false_iff]at hb;obtain⟨b1,b2,b3⟩:=hb;have Ib:gE g x=x.kind:=by simpa using b1
   have eY:g8 g x=[]:=by
    have:¬ ((g8 g x).length:Int)>0:=by simpa using b2
    exact List.eq_nil_of_length_eq_zero (by omega)
   have yk:bW g x=x.arcs:=by rw[bW,eY,List.append_nil]
   have h?:(bW g x).map (KL g Nm out aD)=x.arcs:=by
    rw[yk]
    conv=>rhs;rw[<-List.map_id' x.arcs]
    refine List.map_congr_left fun a ha=>?_;have h3:aD a.to=a.to:=by have:=List.any_eq_false.1 b3 a ha;simp only[Bool.not_eq_true,Bool.not_eq_false']at this;rw[beq_eq]at this;simpa using this
    have h4:=iF a ha;simp only[KL,h3,iP,h4];rfl
   refine⟨x,z,hx,by rw[iP,hc];exact h1,by rw[h2.kind,Ib],?_⟩;rw[h?,h2.arcs]
 have inj:∀p∈out,∀q∈out,iP g Nm out p=iP g Nm out q->p=q:=fun p hp q hq e=>by
  have h1:=aH p hp;have h2:=aH q hq;unfold iP at e;cases hc:dI g Nm p<;>cases hd:dI g Nm q<;>rw[hc,hd]at e<;>simp only[if_true,Bool.false_eq_true,if_false]at e;exact e;omega;omega;have e2:(out.filter (dI g Nm)).idxOf p=(out.filter (dI g Nm)).idxOf q:=by omega
  have oP:=List.idxOf_lt_length_iff.2 (List.mem_filter.2 (⟨hp,hc⟩:p∈out/\dI g Nm p=true));have yj:=List.idxOf_lt_length_iff.2 (List.mem_filter.2 (⟨hq,hd⟩:q∈out/\dI g Nm q=true));have g1:=List.getElem_idxOf oP;have g2:=List.getElem_idxOf yj;rw[<-g1,<-g2];congr 1
 have qnd:∀p∈out,nd (qG C aD Nu.length) (p:Int)=RE aD (dQ C p):=fun p hp=>QI (o2.lt p hp) (o2.rp p hp);have qarc:∀p∈out,∀x,Nu[p]? = some x->∀b,b∈(nd (qG C aD Nu.length) (p:Int)).Arcs↔∃a∈bW g x,b=⟨a.f,(aD a.to:Int)⟩:=fun p hp x hx b=>by rw[qnd p hp];simp only[RE];rw[u.ar p x hx (o2.rp p hp),List.map_map,List.mem_map];constructor;rintro⟨a,ha,rfl⟩;exact⟨a,ha,by simp[TU,gA,rI]⟩;rintro⟨a,ha,rfl⟩;exact⟨a,ha,by simp[TU,gA,rI]⟩
 have imgc:∀p∈out,(nd (core N3) (iP g Nm out p:Int)).Typex=(nd (qG C aD Nu.length) (p:Int)).Typex/\∀b,b∈(nd (core N3) (iP g Nm out p:Int)).Arcs↔∃a∈(nd (qG C aD Nu.length) (p:Int)).Arcs,∃q:Nat,a.To=(q:Int)/\q∈out/\b=⟨a.Feat,(iP g Nm out q:Int)⟩:=fun p hp=>by
  obtain⟨x,y,hx,hy,Ib,xL⟩:=img p hp;rw[E9 hy];refine⟨?_,fun b=>?_⟩;rw[qnd p hp];show y.kind=(dQ C p).kind;rw[Ib,u.kd p x hx (o2.rp p hp)];have hq:=qarc p hp x hx;constructor;intro hb;obtain⟨a,ha,rfl⟩:=List.mem_map.1 hb;obtain⟨a0,ha0,rfl⟩:=List.mem_map.1 (xL.mem_iff.1 ha);exact⟨⟨a0.f,(aD a0.to:Int)⟩,(hq _).2 ⟨a0,ha0,rfl⟩,aD a0.to,rfl,o2.clo p hp x hx a0 ha0,rfl⟩;rintro⟨a,ha,q,e1,e2,rfl⟩;obtain⟨a0,ha0,rfl⟩:=(hq a).1 ha;have e1:((aD a0.to:Nat):Int)=(q:Int):=e1;have:q=aD a0.to:=by omega
  subst this;exact List.mem_map.2 ⟨KL g Nm out aD a0,xL.mem_iff.2 (List.mem_map_of_mem ha0),rfl⟩
 have hQ:jL (qG C aD Nu.length):=u.qgok hL (fun c hc a ha=>((co.gok c hc).arc a ha).1) tc;have hQl:(qG C aD Nu.length).Nodes.length=Nu.length:=by simp[qG]
 have F_:o4 (qG C aD Nu.length) (core N3) (fun v=>(iP g Nm out v.toNat:Int)) (fun v=>∃p:Nat,v=(p:Int)/\p∈out):=by
  refine⟨?_,?_,?_,?_⟩;rintro v ⟨p,rfl,hp⟩ a ha;obtain⟨x,_,hx,_⟩:=img p hp;obtain⟨a0,ha0,rfl⟩:=(qarc p hp x hx a).1 (sM.1 ha);exact⟨aD a0.to,rfl,o2.clo p hp x hx a0 ha0⟩;rintro v w ⟨p,rfl,hp⟩ ⟨q,rfl,hq⟩ e;simp only[zZ]at e;rw[inj p hp q hq (by omega)];rintro v ⟨p,rfl,hp⟩;simp only[zZ];exact(imgc p hp).1;rintro v ⟨p,rfl,hp⟩;simp only[zZ];have i1:fG (core N3) (iP g Nm out p:Int):=⟨by omega,by rw[iO];have:=pil p hp;omega⟩;have i2:fG (qG C aD Nu.length) (p:Int):=⟨by omega,by rw[hQl];have:=o2.lt p hp;omega⟩;have su:kC (sar (core N3) (iP g Nm out p:Int)):=Q2 (co3.gok _ (tK i1).2).dis;have ss:kC ((sar (qG C aD Nu.length) (p:Int)).map fun a=>(⟨a.Feat,(iP g Nm out a.To.toNat:Int)⟩:aT)):=by have:kC (sar (qG C aD Nu.length) (p:Int)):=Q2 (hQ _ (tK i2).2).dis;unfold kC at*;rw[List.pairwise_map];exact this
  refine ed su ss fun b=>?_;rw[sM,(imgc p hp).2 b,List.mem_map];constructor;rintro⟨a,ha,q,e1,e2,rfl⟩;exact⟨a,sM.2 ha,by rw[e1,zZ]⟩;rintro⟨a,ha,rfl⟩;have ha:=sM.1 ha;obtain⟨x,_,hx,_⟩:=img p hp;obtain⟨a0,ha0,rfl⟩:=(qarc p hp x hx a).1 ha;exact⟨_,ha,aD a0.to,rfl,o2.clo p hp x hx a0 ha0,rfl⟩
 have hrQ:fG (qG C aD Nu.length) (r:Int):=⟨by omega,by rw[hQl];omega⟩;have O4:=(F_.canon hQ co3.gok (r:=(r:Int)) hrQ ⟨r,rfl,o2.hd⟩ ⟨by simp only[zZ];omega,by rw[iO];simp only[zZ];have:=pil r o2.hd;omega⟩).2;simp only[zZ]at O4;obtain⟨g1,_⟩:=JP hQ hrQ;have kO:∀p∈out,aD p=p/\p<Nu.length/\(p:Int)∈bH (qG C aD Nu.length) (r:Int)/\Rc (qG C aD Nu.length) (r:Int) (p:Int):=o2.ind _ ⟨hrr,hr,by obtain⟨t,ht⟩:=g1.head;rw[ht];simp,Rc.refl _ _⟩ fun p x a ⟨h1,pI,h2,h3⟩ hx ha=>by
  have hm:(⟨a.f,(aD a.to:Int)⟩:aT)∈(nd (qG C aD Nu.length) (p:Int)).Arcs:=by rw[QI pI h1];simp only[RE];rw[u.ar p x hx h1,List.map_map,List.mem_map];exact⟨a,ha,by simp[TU,gA,rI]⟩
  exact⟨u.rok.idem _ (u.to hx a ha),u.rok.lt _ (u.to hx a ha),g1.clo _ h2 _ hm,h3.snoc hm⟩
 have Z_:out.length<=(bH (qG C aD Nu.length) (r:Int)).length:=Hk (R:=fun(v:Int) (p:Nat)=>v=(p:Int)) (fun v x y e1 e2=>by omega) _ out o2.nd fun p hp=>⟨(p:Int),(kO p hp).2.2.1,rfl⟩;have P_:∀p∈out,Rc (qG C aD Nu.length) (r:Int) (p:Int):=fun p hp=>(kO p hp).2.2.2;refine⟨iP g Nm out r,N3,(out.filter (dI g Nm)).length,out,iP g Nm out,?_,⟨co3,ex,fun y hy=>(nds y hy).2.2.2.2.1,hN3,fun y hy=>(nds y hy).2.2.2.2.2,fun y hy=>(nds y hy).1,fun y hy=>(nds y hy).2.2.1,⟨rfl,o2.hd⟩,fun p hp=>⟨o2.lt p hp,pil p hp⟩,imgc,inj,fun p hp h=>?_,fun i h1 h2=>?_,B0,P_,fun p hp a ha=>?_,O4,Z_⟩⟩;obtain⟨x,y,hx,hy,_⟩:=nod r o2.hd;have CU:N3[r]? = some { y with cp:=some (iP g Nm out r),cpA:=g }:=by rw[q2.old r (aH r o2.hd)];exact p2.old2 r y hy o2.hd
 have e0:N7 g n out N2 Nm.length=some N3:=q1;have Y_:FF g { y with cp:=some (iP g Nm out r),cpA:=g }=some (iP g Nm out r):=by simp[FF]
 rw[Do,o1,aM,m1,aM,p1,aM];simp only;rw[<-mP,e0,aM,CU,aM,Y_,aM];unfold iP at h ⊢;rcases hc:dI g Nm p with _|_;simp;rw[hc,if_pos rfl]at h;omega;obtain⟨p,x,d',k1,k2,k3,k4,k5,k6⟩:=new (i-Nu.length) (by omega);refine⟨p,k2,?_⟩;have oP:(out.filter (dI g Nm)).idxOf p=i-Nu.length:=by have h3:=(zG.1 k1);obtain⟨h4,h5⟩:=h3;exact z2w (o2.nd.filter _) h4 h5
 rw[iP,k3,if_pos rfl,oP,mP];omega;obtain⟨x,_,hx,_⟩:=img p hp;obtain⟨a0,ha0,rfl⟩:=(qarc p hp x hx a).1 ha;exact⟨aD a0.to,o2.clo p hp x hx a0 ha0,rfl⟩
end
def Sm.core{N N':Z PN}(h:Sm N N'):Go.Proofs.core N'=Go.Proofs.core N:=by
 have:N'.map cN=N.map cN:=by apply List.ext_getElem?;intro i;rw[List.getElem?_map,List.getElem?_map];by_cases hi:i<N.length;obtain⟨x,hx⟩:=eE hi;obtain⟨x',h1,h2,h3⟩:=h.st i x hx;rw[hx,h1];simp only[zM,cN,h2,h3];have:=h.len;rw[List.getElem?_eq_none (by omega),List.getElem?_eq_none (by omega)]
 simp only[Go.Proofs.core,this]
variable{N:Z PN}
variable{N':Z PN}
def Sm.back(h:Sm N N'){x':PN}(hx:x'∈N'):∃x∈N,x'.kind=x.kind/\x'.arcs=x.arcs:=by obtain⟨i,hi⟩:=List.getElem?_of_mem hx;obtain⟨x,h0⟩:=eE (h.lt.1 (nJ hi));obtain⟨y,h1,h2,h3⟩:=h.st i x h0;rw[hi]at h1;cases h1;exact⟨x,zX h0,h2,h3⟩
def CO.sm'(c:CO N)(h:Sm N N'):CO N':=⟨by rw[h.core];exact c.gok,fun x hx=>by
 obtain⟨y,h1,h2,h3⟩:=h.back hx;rw[h3];exact c.up y h1,by rw[h.len];exact c.len,fun x hx=>by
 obtain⟨y,h1,h2,h3⟩:=h.back hx;rw[h3];exact c.sm y h1⟩
def nQ(N:Z PN):Nat:=(N.map fun x=>x.arcs.length).sum
def VP(N:Z PN):tot (N.map Cl)=nQ N:=by simp only[tot,nQ,List.map_map];congr 1;exact List.map_congr_left fun x _=>by simp[Cl]
def Sm.tot(h:Sm N N'):nQ N'=nQ N:=by
 have:N'.map (fun x=>x.arcs.length)=N.map fun x=>x.arcs.length:=by apply List.ext_getElem?;intro i;rw[List.getElem?_map,List.getElem?_map];by_cases hi:i<N.length;obtain⟨x,hx⟩:=eE hi;obtain⟨x',h1,h2,h3⟩:=h.st i x hx;rw[hx,h1];simp only[zM,h3];have:=h.len;rw[List.getElem?_eq_none (by omega),List.getElem?_eq_none (by omega)]
 rw[nQ,this];rfl
abbrev Cw:=Z Int×Int
structure wQ(H:eD)(ws:Z Nat)(P:PP)(fs:Z GFS)(v08:Z (Z Int))(E:Z Cw)(T:Nat):Prop where
 has:Has P fs
 hH:P.H=H
 wf:Wf P.N
 gen:1<=P.gen
 old:∀x∈P.N,Old (P.gen+1) x
 kr:∀x∈P.N,0<=x.kind/\x.kind<(ws.length:Int)
 ft:∀x∈P.N,∀a∈x.arcs,0<=a.f/\a.f<1000
 size:P.size=(P.N.length:Int)
 rt:∀r∈P.roots,r<P.N.length
 shr:∀a∈P.roots,∀b∈P.roots,∀x:Nat,Rc (core P.N) a x->Rc (core P.N) b x->∃p,Wk (core P.N) a p x/\Wk (core P.N) b p x
 spn:∀a∈P.roots,∀x:Nat,Rc (core P.N) a x->∃p∈v08,Wk (core P.N) a p x
 arc:∀a∈P.roots,∀x:Nat,Rc (core P.N) a x->∀y∈(nd (core P.N) x).Arcs,∃e∈E,Wk (core P.N) a e.1 x/\y.Feat=e.2
 tot:nQ P.N<=T
section
variable{H:eD}{ws:Z Nat}{P:PP}{fs:Z GFS}{v08:Z (Z Int)}{E:Z Cw}{T:Nat}
def wQ.sm(p:wQ H ws P fs v08 E T){Nu:Z PN}(h:Sm P.N Nu)(wf:Wf Nu)(hm:∀x∈Nu,Mid (P.gen+1) x):wQ H ws { P with N:=Nu,gen:=P.gen+1 } fs v08 E T:=by have hc:=h.core;have hg:=p.gen;refine⟨⟨p.has.co.sm' h,p.has.len,fun k f hf=>?_⟩,p.hH,wf,by show 1<=P.gen+1;omega,fun x hx=>?_,fun x hx=>?_,fun x hx=>?_,by rw[h.len];exact p.size,fun r hr=>by rw[h.len];exact p.rt r hr,?_,?_,?_,by rw[h.tot];exact p.tot⟩;obtain⟨r,h1,h2,h3⟩:=p.has.at_ k f hf;exact⟨r,h1,by rw[h.len];exact h2,by show cK (core Nu) _=_;rw[hc];exact h3⟩;have m:=hm x hx;have q1:=m.fw;have q2:=m.mt;have q3:=m.mo;have q4:=m.cp;have q5:=m.ch;exact⟨by show _<P.gen+1+1;omega,by show _<P.gen+1+1;omega,by show _<P.gen+1+1;omega,by show _<P.gen+1+1;omega,by show _<P.gen+1+1;omega⟩;obtain⟨y,h1,h2,h3⟩:=h.back hx;rw[h2];exact p.kr y h1;obtain⟨y,h1,h2,h3⟩:=h.back hx;rw[h3];exact p.ft y h1;show ∀a∈P.roots,∀b∈P.roots,∀x:Nat,Rc (core Nu) a x->Rc (core Nu) b x->∃p,Wk (core Nu) a p x/\Wk (core Nu) b p x;rw[hc];exact p.shr;show ∀a∈P.roots,∀x:Nat,Rc (core Nu) a x->∃p∈v08,Wk (core Nu) a p x;rw[hc];exact p.spn;show ∀a∈P.roots,∀x:Nat,Rc (core Nu) a x->∀y∈(nd (core Nu) x).Arcs,∃e∈E,Wk (core Nu) a e.1 x/\y.Feat=e.2;rw[hc];exact p.arc
structure DE(ws:Z Nat)(L:Z aU)(ra rb:Nat)(aD:Nat->Nat)(Q:GFS):Prop where
 qg:QG ws L aD Q
 gok:jL Q
 clo:pQ L aD
 good:¬ Io ws L aD
 eq:aD ra=aD rb
 low:∀q,pQ L q->q ra=q rb->∀i j,i<L.length->j<L.length->aD i=aD j->q i=q j
def Xa(ws:Z Nat)(L:Z aU)(ra rb:Nat):Prop:=∀q:Nat->Nat,pQ L q->q ra=q rb->Io ws L q
def z7p(hh:qU H ws)(p:wQ H ws P fs v08 E T)(hT:2*(1+T)<=1000000)(NV:P.gen<=1000000){n:Nat}(hn:3000000<=n){a b ra rb:Nat}(ha:P.roots[a]? = some ra)(hb:P.roots[b]? = some rb):
  (∃Nu,IU n P (a:Int) (b:Int)=some (none,{ P with N:=Nu,gen:=P.gen+1 })/\wQ H ws { P with N:=Nu,gen:=P.gen+1 } fs v08 E T/\Xa ws (core P.N).Nodes ra rb)\/
  (∃Nu C aD d D,IU n P (a:Int) (b:Int)=some (some (aD ra),{ P with N:=Nu,gen:=P.gen+1 })/\wQ H ws { P with N:=Nu,gen:=P.gen+1 } fs v08 E T/\Sm P.N Nu/\US ws (P.gen+1) Nu C aD d D/\D+tot C<=1+T/\TC ws Nu.length (core Nu).Nodes [] C aD/\DE ws (core P.N).Nodes ra rb aD (qG C aD Nu.length)):=by
 have KT:=p.rt ra (zX ha);have ZL:=p.rt rb (zX hb);have oF:=(zG.1 ha).1;have HK:=(zG.1 hb).1;have co:=p.has.co;have hg:=p.gen;have hw:IntKind.i64.wrap (P.gen+1)=P.gen+1:=oA (by omega) (by omega);have hL:=YD (ws:=ws) co;have B_:=VP P.N;have hTt:=p.tot;obtain⟨ok,Nu,g1,g2⟩:=tx hh (n:=n) (by omega) (g:=P.gen+1) (L:=(core P.N).Nodes) n [(ra,rb)] P.N (P.N.map Cl) id (fun _=>0) 0 hL (Dd co p.wf p.old p.kr) (fun w hw=>by simp at hw;subst hw;exact⟨KT,ZL⟩) (tc0 _) (by simp;omega) (by simp;omega) (by simp;omega);have e1:IU n P (a:Int) (b:Int)=a8 (IR P.H (P.gen+1) n n [(ra,rb)] P.N) fun r=>cond (!r.1) (some (none,{ P with N:=r.2,gen:=P.gen+1 })) (a8 (rL r.2 (P.gen+1) n ra) fun q=>some (some q,{ P with N:=r.2,gen:=P.gen+1 })):=by rw[IU,decide_eq_false (by omega),zD,decide_eq_false (by omega),zD,decide_eq_false (by omega),zD,decide_eq_false (by omega),zD,dP,ha,aM,dP,hb,aM,hw]
 rw[<-p.hH]at g1;rw[g1,aM]at e1;have pi:=p.sm g2.sm g2.wf g2.mid;have und:∀q:Nat->Nat,q ra=q rb->Cu P.N.length ([(ra,rb)].map wI) id q:=fun q hq=>⟨fun i j _ _ e=>by rw[show i=j from e],fun z hz=>by simp[wI]at hz;subst hz;simpa using hq⟩;cases ok with
 |false=>refine .inl ⟨Nu,e1,pi,fun q hq he=>g2.no rfl q hq (und q he)⟩|true=>
  obtain⟨C,aD,d,D,k1,k2,k3,k4,k5,k6⟩:=g2.yes rfl;have hl:=g2.sm.len;have Uu:ON Nu.length ws (core Nu).Nodes:=YD (co.sm' g2.sm);have Hq:TC ws Nu.length (core Nu).Nodes [] C aD:=by rw[g2.sm.core,hl];exact k3
  have fU:D+tot C<=1+T:=by simp at k2;omega
  simp only[Bool.not_true,zD]at e1;rw[k1.fnd (Kp.refl _) (by omega) (by omega),aM]at e1;refine .inr ⟨Nu,C,aD,d,D,e1,pi,g2.sm,k1,fU,Hq,?_⟩;have hc:=g2.sm.core;rw[hc]at Uu Hq;exact⟨k1.qg Uu Hq,k1.qgok Uu (fun c hc a ha=>((co.gok c hc).arc a ha).1) Hq,k1.clo Uu Hq,k1.good Uu (fun w hw=>(hh.ok w hw).1) Hq,k5 (ra,rb) (by simp),fun q hq he i j hi hj hr=>(k6 q hq (und q he)).r i j (by rw[iO]at hi;exact hi) (by rw[iO]at hj;exact hj) hr⟩
end
variable{N:Z PN}
variable{N':Z PN}
variable{i:Nat}
def Xo(e:Ex N.length N N')(hi:i<N.length):nd (core N') (i:Int)=nd (core N) (i:Int):=by obtain⟨x,hx⟩:=eE hi;obtain⟨x',h1,h2,h3⟩:=e.st i x hi hx;rw[E9 hx,E9 h1,cN,cN,h2,h3]
variable{v:Int}
variable{w:Int}
variable{p:Z Int}
def OX(c:CO N)(e:Ex N.length N N')(h:Wk (core N) v p w):fG (core N) v->Wk (core N') v p w:=by induction h with|nil v=>intro _;exact .nil v| @cons v w a p ha hw ih=>intro hv;have hg:=(c.gok _ (tK hv).2).arc a ha;have h1:=hv.2;rw[iO]at h1;have:=Xo e (i:=v.toNat) (by have:=hv.1;omega);rw[show((v.toNat:Nat):Int)=v by have:=hv.1;omega]at this;exact .cons (by rw[this];exact ha) (ih ⟨hg.2.1,hg.2.2⟩)
def EV(c:CO N)(e:Ex N.length N N')(h:Wk (core N') v p w):fG (core N) v->Wk (core N) v p w:=by induction h with|nil v=>intro _;exact .nil v| @cons v w a p ha hw ih=>intro hv;have h1:=hv.2;rw[iO]at h1;have:=Xo e (i:=v.toNat) (by have:=hv.1;omega);rw[show((v.toNat:Nat):Int)=v by have:=hv.1;omega]at this;rw[this]at ha;have hg:=(c.gok _ (tK hv).2).arc a ha;exact .cons ha (ih ⟨hg.2.1,hg.2.2⟩)
section
variable{ws:Z Nat}{g:Int}{Nu:Z PN}{Q:GFS}{r:Nat}{N3:Z PN}{c k:Nat}{out:Z Nat}{V:Nat->Nat}
def Xf.to(h:Xf ws g Nu Q r N3 c k out V)(hw:Wk Q v p w):∀{v0 w0:Nat},v=(v0:Int)->v0∈out->(∀x∈out,∀a∈(nd Q (x:Int)).Arcs,∃q∈out,a.To=(q:Int))->w=(w0:Int)->Wk (core N3) (V v0:Int) p (V w0:Int):=by induction hw with|nil v=>intro v0 w0 e1 _ _ e2;rw[show w0=v0 by omega];exact .nil _| @cons v w a p ha hw ih=>intro v0 w0 e1 hv iF e2;subst e1;obtain⟨q,hq,e⟩:=iF v0 hv a ha;have hm:(⟨a.Feat,(V q:Int)⟩:aT)∈(nd (core N3) (V v0:Int)).Arcs:=((h.img v0 hv).2 _).2 ⟨a,ha,q,e,hq,rfl⟩;exact Wk.cons (a:=⟨a.Feat,(V q:Int)⟩) hm (ih e hq iF e2)
def Xf.from(h:Xf ws g Nu Q r N3 c k out V)(hw:Wk (core N3) v p w):∀{v0:Nat},v=(V v0:Int)->v0∈out->∃w0∈out,w=(V w0:Int)/\Wk Q (v0:Int) p (w0:Int):=by induction hw with|nil v=>intro v0 e1 hv;exact⟨v0,hv,e1,.nil _⟩| @cons v w a p ha hw ih=>intro v0 e1 hv;subst e1;obtain⟨b,hb,q,e,hq,e2⟩:=((h.img v0 hv).2 a).1 ha;subst e2;obtain⟨w0,h1,h2,h3⟩:=ih rfl hq;exact⟨w0,h1,h2,Wk.cons (a:=b) hb (by rw[e];exact h3)⟩
end
section
variable{ws:Z Nat}{N:Z PN}{ra rb:Nat}{aD:Nat->Nat}{Q:GFS}
def RR(N:Z PN)(ra rb i:Nat):Prop:=Rc (core N) (ra:Int) (i:Int)\/Rc (core N) (rb:Int) (i:Int)
def RR.arc(h:RR N ra rb i){x:PN}(hx:N[i]? = some x){a:aT}(ha:a∈(cN x).Arcs)(h0:0<=a.To):RR N ra rb a.To.toNat:=by
 have e:((a.To.toNat:Nat):Int)=a.To:=by omega
 rw[<-E9 hx]at ha;rcases h with h |h;left;rw[e];exact h.snoc ha;right;rw[e];exact h.snoc ha
def DE.cls(U:DE ws (core N).Nodes ra rb aD Q)(c:CO N){j:Nat}(hi:i<N.length)(hj:j<N.length)(h:aD i=aD j)(hr:RR N ra rb i):RR N ra rb j:=by
 classical
 have hq:pQ (core N).Nodes (fun i=>if RR N ra rb i then N.length else i):=fun i j x y a b hi hj e ha hb hf=>by obtain⟨x0,pD,rfl⟩:=Fa hi;obtain⟨y0,AL,rfl⟩:=Fa hj;have h1:=nJ pD;have h2:=nJ AL;have a0:=((c.gok _ (zX hi)).arc a ha).2.1;have b0:=((c.gok _ (zX hj)).arc b hb).2.1;by_cases r1:RR N ra rb i;by_cases r2:RR N ra rb j;show(if _ then _ else _)=if _ then _ else _;rw[if_pos (r1.arc pD ha a0),if_pos (r2.arc AL hb b0)];have e:(if RR N ra rb i then N.length else i)=if RR N ra rb j then N.length else j:=e;rw[if_pos r1,if_neg r2]at e;omega;by_cases r2:RR N ra rb j;have e:(if RR N ra rb i then N.length else i)=if RR N ra rb j then N.length else j:=e;rw[if_neg r1,if_pos r2]at e;omega;have e:(if RR N ra rb i then N.length else i)=if RR N ra rb j then N.length else j:=e;rw[if_neg r1,if_neg r2]at e;subst e;rw[pD]at AL;cases AL;have:=(c.gok _ (zX hi)).dis.eq a ha b hb hf;rw[this]
 have:=U.low _ hq (by show(if _ then _ else _)=if _ then _ else _;rw[if_pos (show RR N ra rb ra from Or.inl (Rc.refl _ _)),if_pos (show RR N ra rb rb from Or.inr (Rc.refl _ _))]) i j (by rw[iO];exact hi) (by rw[iO];exact hj) h;have this:(if RR N ra rb i then N.length else i)=if RR N ra rb j then N.length else j:=this;rw[if_pos hr]at this;by_cases r2:RR N ra rb j;exact r2;rw[if_neg r2]at this;omega
def DE.back(U:DE ws (core N).Nodes ra rb aD Q)(c:CO N)(hw:Wk Q v p w):(∃j,j<N.length/\v=(aD j:Int)/\RR N ra rb j)->∃j,j<N.length/\w=(aD j:Int)/\RR N ra rb j:=by
 induction hw with
 |nil v=>exact id| @cons v w a p ha hw ih=>
  rintro⟨j,hj,rfl,hr⟩;have hl:=iO N;have rt:=U.qg.rt j (by omega);have hn:∃x,Q.Nodes[aD j]? = some x:=eE (by rw[U.qg.len];exact rt.1);obtain⟨x,hx⟩:=hn;have e:nd Q (aD j:Int)=x:=by simp[nd,hx]
  rw[e]at ha;obtain⟨j2,y,a0,q1,q2,q3,q4,q5⟩:=U.qg.snd _ x a hx rt.2 ha;obtain⟨y0,AL,rfl⟩:=Fa q1;have hj2:=nJ AL;have hg:=(c.gok _ (zX q1)).arc a0 q3;have r2:=U.cls c hj hj2 q2.symm hr;exact ih ⟨a0.To.toNat,by omega,q5,r2.arc AL q3 hg.2.1⟩
end
def XV:Z (Z Int)->Nat->Z (Nat×Int)
 |[],_=>[]|l::M,s=>l.map (fun x=>(s,x))++XV M (s+1)
def qzj:∀(M:Z (Z Int))(s:Nat),(XV M s).length=(M.map List.length).sum
 |[],_=>rfl|l::M,s=>by simp[XV,qzj M]
def tk:∀{M:Z (Z Int)}{s:Nat}{x:Nat×Int},x∈XV M s->∃j l,M[j]? = some l/\x.1=s+j/\x.2∈l
 |[],_,_,h=>by cases h
 |l::M,s,x,h=>by rcases yD.1 h with h |h;obtain⟨y,hy,rfl⟩:=List.mem_map.1 h;exact⟨0,l,rfl,rfl,hy⟩;obtain⟨j,l',h1,h2,h3⟩:=tk h;exact⟨j+1,l',by simpa using h1,by omega,h3⟩
def z5y:∀{M:Z (Z Int)}{s:Nat},(∀l∈M,l.Nodup)->(XV M s).Nodup
 |[],_,_=>List.nodup_nil|l::M,s,h=>by rw[XV,List.nodup_append];refine⟨?_,z5y fun q hq=>h q (by simp[hq]),fun a ha b hb e=>?_⟩;have:=h l (by simp);unfold List.Nodup at*;rw[List.pairwise_map];exact this.imp fun q e=>q (Prod.mk.inj e).2;obtain⟨x,_,rfl⟩:=List.mem_map.1 ha;obtain⟨j,_,_,h2,_⟩:=tk hb;rw[<-e]at h2;have h2:s=s+1+j:=h2;omega
def z0k(N:Z PN)(k:Nat):nQ N=nQ (N.take k)+nQ (N.drop k):=by rw[nQ,nQ,nQ,<-List.sum_append,<-List.map_append,List.take_append_drop]
def z4g(N:Z PN)(s:Nat):nQ N=(XV (N.map fun x=>x.arcs.map dR.f) s).length:=by rw[qzj,nQ,List.map_map];congr 1;exact List.map_congr_left fun x _=>by simp
structure OL(ws:Z Nat)(L:Z aU)(ra rb:Nat)(res:I GFS):Prop where
 no:res=none->Xa ws L ra rb
 yes:∀f,res=some f->∃aD Q,DE ws L ra rb aD Q/\f=cK Q ((aD ra:Nat):Int)
section
variable{H:eD}{ws:Z Nat}{P:PP}{fs:Z GFS}{v08:Z (Z Int)}{E:Z Cw}{T:Nat}
def z0n(hh:qU H ws)(p:wQ H ws P fs v08 E T)(hT:2*(1+T)<=1000000)(NV:P.gen<=1000000)(hN:2*P.N.length<=1000000)(hR:P.roots.length<=1000000){n:Nat}(hn:3000000<=n){a b ra rb:Nat}(ha:P.roots[a]? = some ra)(hb:P.roots[b]? = some rb):
  ∃res P',yF n P (a:Int) (b:Int)=some (((if res.isSome then(P.roots.length:Int)else 0),res.isSome),P')/\OL ws (core P.N).Nodes ra rb res/\wQ H ws P' (fs++res.toList) v08 E (T+E.length)/\P'.gen=P.gen+1/\P.N.length<=P'.N.length/\(res=none->P'.N.length=P.N.length)/\(∀f,res=some f->P'.N.length<=P.N.length+f.Nodes.length):=by
 rcases z7p hh p hT NV hn ha hb with⟨Nu,g1,g2,g3⟩|⟨Nu,C,aD,d,D,g1,g2,g3,g4,g5,g6,U⟩;have w:=Zd g1 p.wf;have hl:Nu.length=P.N.length:=w.1.len;refine⟨none,_,by rw[yF,g1];rfl,⟨fun _=>g3,nofun⟩,?_,rfl,Nat.le_of_eq hl.symm,fun _=>hl,nofun⟩;simp only[Option.toList_none,List.append_nil];exact⟨g2.has,g2.hH,g2.wf,g2.gen,g2.old,g2.kr,g2.ft,g2.size,g2.rt,g2.shr,g2.spn,g2.arc,Nat.le_trans g2.tot (Nat.le_add_right _ _)⟩;have KT:=p.rt ra (zX ha);have ZL:=p.rt rb (zX hb);have hl:=g3.len;have hc:=g3.core;have hg:=p.gen;have co:CO Nu:=g2.has.co;have eA:P.size=(P.N.length:Int):=p.size;obtain⟨c,N3,k,out,V,k1,K⟩:=Wh (n:=n) g4 co g6 ⟨by omega,by omega⟩ (by omega) (by omega) g2.kr g2.ft (by omega) (s:=P.size) (by omega) (by omega) (r:=aD ra) (g4.rok.lt _ (by omega)) (g4.rok.idem _ (by omega));have Ij:=p.has.co;have qJ:Ex Nu.length Nu N3:=K.ex;have hL:∀(j:Nat)(c:aU)(a:aT),(core P.N).Nodes[j]? = some c->a∈c.Arcs->0<=a.To/\a.To<((core P.N).Nodes.length:Int):=fun j c a hj ha=>((Ij.gok _ (zX hj)).arc a ha).2
 have J5:∀{v:Nat}{q:Z Int}{w:Int},v<P.N.length->Wk (core P.N) v q w->Wk (core N3) v q w:=fun{v q w} hv h=>OX co qJ (by rw[hc];exact h) ⟨by omega,by rw[iO];omega⟩;have DO:∀{v:Nat}{q:Z Int}{w:Int},v<P.N.length->Wk (core N3) v q w->Wk (core P.N) v q w:=fun{v q w} hv h=>by rw[<-hc];exact EV co qJ h ⟨by omega,by rw[iO];omega⟩
 have Dc:∀{v x:Nat}{q:Z Int},v<P.N.length->Wk (core P.N) v q x->x<P.N.length:=fun{v x q} hv h=>by have:=(h.ing Ij.gok ⟨by omega,by rw[iO];omega⟩).2;rw[iO]at this;omega
 have qn:∀i,i<P.N.length->aD (aD i)=aD i:=fun i hi=>(U.qg.rt i (by rw[iO];exact hi)).2;have hr0:=U.eq;have org:∀x∈out,aD x=x/\x<P.N.length/\∃j,j<P.N.length/\aD j=x/\RR P.N ra rb j:=fun x hx=>by
  obtain⟨q,hq⟩:=K.rch x hx;obtain⟨j,h1,h2,h3⟩:=U.back Ij hq ⟨ra,KT,rfl,.inl (Rc.refl _ _)⟩;have h2:x=aD j:=by omega
  have:=(K.lt x hx).1;exact⟨by rw[h2];exact qn j h1,by omega,j,h1,h2.symm,h3⟩
 have yl:∀{v:Nat}{q:Z Int}{j x:Nat},(v=ra\/v=rb)->Wk (core P.N) v q j->aD j=x->x∈out->Wk (core N3) c q (V x:Int):=fun{v q j x} hv hw hj hx=>by have h1:=U.qg.wk hL (v:=(v:Int)) (w:=(j:Int)) hw (by rw[iO];rcases hv with rfl |rfl<;>omega);simp only[zZ,hj]at h1;have h2:aD v=aD ra:=hv.elim (fun h=>by rw[h]) (fun h=>by rw[h];exact hr0.symm);rw[h2]at h1;have:=K.to h1 rfl K.rt.2 K.cl rfl;rw[<-K.rt.1]at this;exact this
 have rootOf:∀{v:Nat},(v=ra\/v=rb)->v∈P.roots/\v<P.N.length:=fun{v} hv=>by rcases hv with rfl |rfl;exact⟨zX ha,KT⟩;exact⟨zX hb,ZL⟩
 have rr:∀{j:Nat},RR P.N ra rb j->∃v,(v=ra\/v=rb)/\Rc (core P.N) (v:Int) (j:Int):=fun{j} h=>by rcases h with h |h;exact⟨ra,.inl rfl,h⟩;exact⟨rb,.inr rfl,h⟩
 have frc:∀x:Nat,Rc (core N3) (c:Int) (x:Int)->∃y∈out,x=V y:=fun x ⟨q,hq⟩=>by obtain⟨w0,h1,h2,_⟩:=K.from hq (v0:=aD ra) (by rw[K.rt.1]) K.rt.2;exact⟨w0,h1,by omega⟩
 have cN3:c<N3.length:=by rw[K.rt.1];exact(K.lt _ K.rt.2).2
 have E_:∀x:Nat,Rc (core N3) (c:Int) (x:Int)->∃p∈v08,Wk (core N3) (c:Int) p (x:Int):=fun x hx=>by obtain⟨y,hy,rfl⟩:=frc x hx;obtain⟨_,_,j,h1,h2,h3⟩:=org y hy;obtain⟨v,hv,Si⟩:=rr h3;obtain⟨z,hz,hw⟩:=p.spn v (rootOf hv).1 j Si;exact⟨z,hz,yl hv hw h2 hy⟩
 have Up:∀x:Nat,Rc (core N3) (c:Int) (x:Int)->∀y∈(nd (core N3) (x:Int)).Arcs,∃e∈E,Wk (core N3) (c:Int) e.1 (x:Int)/\y.Feat=e.2:=fun x hx y hy=>by
  obtain⟨x0,pD,rfl⟩:=frc x hx;obtain⟨h0,h0',j,h1,h2,h3⟩:=org x0 pD;obtain⟨b,hb,q,e1,hq,rfl⟩:=((K.img x0 pD).2 y).1 hy;obtain⟨z,hz⟩:∃z,(qG C aD Nu.length).Nodes[x0]? = some z:=eE (by rw[U.qg.len,iO];exact h0');have e2:nd (qG C aD Nu.length) (x0:Int)=z:=by simp[nd,hz]
  rw[e2]at hb;obtain⟨j2,y2,a0,q1,q2,q3,q4,q5⟩:=U.qg.snd _ z b hz h0 hb;obtain⟨y0,AL,rfl⟩:=Fa q1;have r2:=U.cls Ij h1 (nJ AL) (by rw[h2,q2]) h3;obtain⟨v,hv,Si⟩:=rr r2;obtain⟨e,he,hw,hf⟩:=p.arc v (rootOf hv).1 j2 Si a0 (by rw[E9 AL];exact q3);exact⟨e,he,yl hv hw q2 pD,by show b.Feat=_;rw[q4,hf]⟩
 have Sp:∀b'∈P.roots,∀x:Nat,Rc (core N3) (c:Int) (x:Int)->Rc (core N3) (b':Int) (x:Int)->∃p,Wk (core N3) (c:Int) p (x:Int)/\Wk (core N3) (b':Int) p (x:Int):=fun b' bV x hx ⟨q,hq⟩=>by
  have HK:=p.rt b' bV;have hq:=DO HK hq;have NE:=Dc HK hq;obtain⟨y,hy,e⟩:=frc x hx;have oQ:=K.low y hy (by omega);obtain⟨h0,h0',j,h1,h2,h3⟩:=org y hy;have r2:=U.cls Ij h1 h0' (by rw[h2,h0]) h3;obtain⟨v,hv,Si⟩:=rr r2;have exy:x=y:=by omega
  subst exy;obtain⟨q2,w1,w2⟩:=p.shr v (rootOf hv).1 b' bV x Si ⟨q,hq⟩;have:=yl hv w1 h0 hy;rw[oQ]at this;exact⟨q2,this,J5 HK w2⟩
 have O4:cK (core N3) (c:Int)=cK (qG C aD Nu.length) (aD ra:Int):=K.can;have CW:out.length<=(cK (qG C aD Nu.length) (aD ra:Int)).Nodes.length:=by have:=K.ord;simp only[cK,yA];exact this
 have hk:=K.k;have hlen3:=K.len;refine⟨some (cK (qG C aD Nu.length) (aD ra:Int)),⟨P.H,N3,P.roots++[c],P.size+(k:Int),P.gen+1⟩,?_,⟨nofun,fun f e=>⟨aD,_,U,by cases e;rfl⟩⟩,?_,rfl,by show P.N.length<=N3.length;omega,nofun,fun f e=>by cases e;show N3.length<=_;omega⟩;rw[yF,g1,aM];simp only;rw[k1,aM,aG,if_pos hR];rfl;have Am:Ex P.N.length P.N N3:=⟨by omega,fun i x hi hx=>by obtain⟨x',h1,h2,h3⟩:=g3.st i x hx;obtain⟨x2,h4,h5,h6⟩:=qJ.st i x' (by omega) h1;exact⟨x2,h4,h5.trans h2,h6.trans h3⟩⟩;refine⟨⟨K.co,by simp[p.has.len],fun i f hf=>?_⟩,p.hH,K.wf,by show 1<=P.gen+1;omega,K.old,K.kr,K.ft,by show P.size+(k:Int)=(N3.length:Int);omega,fun r hr=>?_,?_,?_,?_,?_⟩;by_cases hi:i<fs.length;rw[List.getElem?_append_left hi]at hf;obtain⟨r,h1,h2,h3⟩:=p.has.at_ i f hf;exact⟨r,by show(P.roots++[c])[i]? = _;rw[List.getElem?_append_left (by rw[p.has.len];exact hi)];exact h1,by show r<N3.length;omega,by rw[<-h3];exact qpg Ij K.co Am h2⟩;have Ac:=(zG.1 hf).1;simp at Ac;have:i=fs.length:=by omega
 subst this;simp at hf;subst hf;exact⟨c,by show(P.roots++[c])[_]? = _;rw[<-p.has.len];simp,cN3,O4⟩;show r<N3.length;rcases yD.1 hr with hr |hr;have:=p.rt r hr;omega;simp at hr;subst hr;exact cN3;intro a' jJ b' bV x hx hy;have jJ:a'∈P.roots++[c]:=jJ;have bV:b'∈P.roots++[c]:=bV;rcases yD.1 jJ with ha1 |ha1<;>rcases yD.1 bV with hb1 |hb1;obtain⟨q1,AQ⟩:=hx;obtain⟨q2,oO⟩:=hy;obtain⟨q,w1,w2⟩:=p.shr a' ha1 b' hb1 x ⟨q1,DO (p.rt _ ha1) AQ⟩ ⟨q2,DO (p.rt _ hb1) oO⟩;exact⟨q,J5 (p.rt _ ha1) w1,J5 (p.rt _ hb1) w2⟩;simp at hb1;subst hb1;obtain⟨q,w1,w2⟩:=Sp a' ha1 x hy hx;exact⟨q,w2,w1⟩;simp at ha1;subst ha1;exact Sp b' hb1 x hx hy;simp at ha1 hb1;subst ha1;subst hb1;obtain⟨q,hq⟩:=hx;exact⟨q,hq,hq⟩;intro a' jJ x hx;have jJ:a'∈P.roots++[c]:=jJ;rcases yD.1 jJ with ha1 |ha1;obtain⟨q1,AQ⟩:=hx;obtain⟨z,hz,w⟩:=p.spn a' ha1 x ⟨q1,DO (p.rt _ ha1) AQ⟩;exact⟨z,hz,J5 (p.rt _ ha1) w⟩;simp at ha1;subst ha1;exact E_ x hx;intro a' jJ x hx y hy;have jJ:a'∈P.roots++[c]:=jJ;rcases yD.1 jJ with ha1 |ha1;obtain⟨q1,AQ⟩:=hx;have AQ:=DO (p.rt _ ha1) AQ;have hy:y∈(nd (core N3) (x:Int)).Arcs:=hy;rw[Xo Am (Dc (p.rt _ ha1) AQ)]at hy;obtain⟨e,he,w,hf⟩:=p.arc a' ha1 x ⟨q1,AQ⟩ y hy;exact⟨e,he,J5 (p.rt _ ha1) w,hf⟩;simp at ha1;subst ha1;exact Up x hx y hy;show nQ N3<=T+E.length;have h1:nQ (N3.take P.N.length)=nQ P.N:=by
  have:(N3.take P.N.length).map (fun x=>x.arcs.length)=P.N.map fun x=>x.arcs.length:=by apply List.ext_getElem?;intro i;rw[List.getElem?_map,List.getElem?_map,List.getElem?_take];by_cases hi:i<P.N.length;obtain⟨x,hx⟩:=eE hi;obtain⟨x',h1,h2,h3⟩:=Am.st i x hi hx;rw[if_pos hi,hx,h1];simp only[zM,h3];rw[if_neg hi,List.getElem?_eq_none (by omega)]
  rw[nQ,this];rfl
 have h2:nQ (N3.drop P.N.length)<=E.length:=by
  rw[z4g _ P.N.length];have SA:∀(j:Nat)(x:PN),(N3.drop P.N.length)[j]? = some x->N3[P.N.length+j]? = some x:=fun j x h=>by rw[List.getElem?_drop]at h;exact h
  refine Hk (R:=fun(e:Cw) (z:Nat×Int)=>Wk (core N3) (c:Int) e.1 (z.1:Int)/\z.2=e.2) (fun e x y h1 h2=>?_) E _ (z5y fun l hl=>?_) fun z hz=>?_;have:=Wk.det K.co.gok h1.1 ⟨by omega,by rw[iO];omega⟩ h2.1;exact Prod.ext (by omega) (h1.2.trans h2.2.symm);obtain⟨x,hx,rfl⟩:=List.mem_map.1 hl;obtain⟨j,hj⟩:=List.getElem?_of_mem hx;have:=K.co.up' x (zX (SA j x hj));unfold List.Nodup;rw[List.pairwise_map];exact this.imp fun{a b} h e=>by omega
  obtain⟨j,l,q1,q2,q3⟩:=tk hz;rw[List.getElem?_map]at q1;rcases hx:(N3.drop P.N.length)[j]? with _|x;rw[hx]at q1;cases q1;rw[hx]at q1;cases q1;have hx3:=SA j x hx;obtain⟨a,ha,e⟩:=List.mem_map.1 q3;obtain⟨y,hy,k_⟩:=K.new (P.N.length+j) (by omega) (nJ hx3);obtain⟨_,_,i,i1,i2,i3⟩:=org y hy;obtain⟨v,hv,⟨q,hvq⟩⟩:=rr i3;have hw:=yl hv hvq i2 hy;rw[k_]at hw;obtain⟨e',xP,w,hf⟩:=Up (P.N.length+j) ⟨q,hw⟩ (gA a) (by rw[E9 hx3];exact List.mem_map_of_mem ha);exact⟨e',xP,by rw[q2];exact w,by rw[<-hf,<-e];rfl⟩
 have h3:=z0k N3 P.N.length;have h4:=p.tot;omega
end
def wQ.new{H:eD}{ws:Z Nat}:wQ H ws (tI H) [] [] [] 0:=by refine⟨Has.new H,rfl,nofun,Int.le_refl _,nofun,nofun,nofun,rfl,nofun,nofun,nofun,nofun,zF _⟩
def qum(f:GFS){K:Nat}(hK:∀x∈f.Nodes,x.Arcs.length<=K):∀m,m<=f.Nodes.length->∃(v08:Z (Z Int))(E:Z Cw),v08.length<=m/\E.length<=K*m/\∀i:Nat,i<m->Rc f 0 (i:Int)->(∃z∈v08,Wk f 0 z (i:Int))/\∀y∈(nd f (i:Int)).Arcs,∃e∈E,Wk f 0 e.1 (i:Int)/\y.Feat=e.2
 |0,_=>⟨[],[],zF _,Nat.zero_le _,fun i hi=>by omega⟩|m+1,hm=>by
  obtain⟨v08,E,h1,h2,h3⟩:=qum f hK m (by omega);by_cases hr:Rc f 0 (m:Int);obtain⟨z,hz⟩:=hr;obtain⟨x,hx⟩:=eE (l:=f.Nodes) (i:=m) (by omega);have e:nd f (m:Int)=x:=by simp[nd,hx]
  have NE:=hK x (zX hx);refine⟨z::v08,x.Arcs.map (fun a=>(z,a.Feat))++E,by simp;omega,by simp[Nat.mul_succ];omega,fun i hi tN=>?_⟩;rcases Nat.lt_succ_iff_lt_or_eq.1 hi with hi |rfl;obtain⟨⟨z',k1,k2⟩,k3⟩:=h3 i hi tN;exact⟨⟨z',by simp[k1],k2⟩,fun y hy=>by obtain⟨e',e1,e2⟩:=k3 y hy;exact⟨e',List.mem_append_right _ e1,e2⟩⟩;exact⟨⟨z,by simp,hz⟩,fun y hy=>by rw[e]at hy;exact⟨(z,y.Feat),List.mem_append_left _ (List.mem_map.2 ⟨y,hy,rfl⟩),hz,rfl⟩⟩;refine⟨v08,E,by omega,by rw[Nat.mul_succ];omega,fun i hi tN=>?_⟩;rcases Nat.lt_succ_iff_lt_or_eq.1 hi with hi |rfl;exact h3 i hi tN;exact absurd tN hr
section
variable{N:Z PN}{f:GFS}
def bg(hg:jL f){i:Nat}(hi:i<f.Nodes.length):nd (core (N++f.Nodes.map (m6 N.length))) ((N.length+i:Nat):Int)=⟨(nd f (i:Int)).Typex,(nd f (i:Int)).Arcs.map (mS N.length)⟩:=by
 obtain⟨x,hx⟩:=eE hi;have h1:(N++f.Nodes.map (m6 N.length))[N.length+i]? = some (m6 N.length x):=by rw[List.getElem?_append_right (by omega),Nat.add_sub_cancel_left,List.getElem?_map,hx];rfl
 rw[E9 h1,cN,Zt fun a ha=>((hg x (zX hx)).arc a ha).2.1];simp[nd,hx,m6,gC]
def UJ(hg:jL f){v w:Int}{p:Z Int}(h:Wk f v p w):fG f v->Wk (core (N++f.Nodes.map (m6 N.length))) (v+(N.length:Int)) p (w+(N.length:Int)):=by induction h with|nil v=>intro _;exact .nil _| @cons v w a p ha hw ih=>intro hv;have h1:=(hg _ (tK hv).2).arc a ha;have h2:=hv.1;have h3:=hv.2;have e:=bg (N:=N) hg (i:=v.toNat) (by omega);rw[show((N.length+v.toNat:Nat):Int)=v+(N.length:Int) by omega,show((v.toNat:Nat):Int)=v by omega]at e;exact Wk.cons (a:=mS N.length a) (by rw[e];exact List.mem_map_of_mem ha) (ih ⟨h1.2.1,h1.2.2⟩)
def LB(hg:jL f){v w:Int}{p:Z Int}(h:Wk (core (N++f.Nodes.map (m6 N.length))) v p w):∀{u:Int},v=u+(N.length:Int)->fG f u->∃u',w=u'+(N.length:Int)/\fG f u'/\Wk f u p u':=by induction h with|nil v=>intro u e hu;exact⟨u,e,hu,.nil _⟩| @cons v w a p ha hw ih=>intro u e hu;subst e;have h2:=hu.1;have h3:=hu.2;have e:=bg (N:=N) hg (i:=u.toNat) (by omega);rw[show((N.length+u.toNat:Nat):Int)=u+(N.length:Int) by omega,show((u.toNat:Nat):Int)=u by omega]at e;rw[e]at ha;obtain⟨b,hb,rfl⟩:=List.mem_map.1 ha;have h1:=(hg _ (tK hu).2).arc b hb;obtain⟨u',k1,k2,k3⟩:=ih (u:=b.To) rfl ⟨h1.2.1,h1.2.2⟩;exact⟨u',k1,k2,Wk.cons (a:=b) hb k3⟩
end
def z4f(a b:Z PN):nQ (a++b)=nQ a+nQ b:=by simp[nQ]
def z0l{K:Nat}:∀{M:Z PN},(∀x∈M,x.arcs.length<=K)->nQ M<=K*M.length
 |[],_=>by simp[nQ]
 |x::M,h=>by have h1:=h x (by simp);have h2:=z0l (M:=M) fun y hy=>h y (by simp[hy]);simp only[nQ,zQ,List.sum_cons,zO,Nat.mul_add,Nat.mul_one]at h2 ⊢;omega
def z89{H:eD}{ws:Z Nat}{P:PP}{fs:Z GFS}{v08:Z (Z Int)}{E:Z Cw}{T:Nat}(hh:qU H ws)(p:wQ H ws P fs v08 E T){f:GFS}(hf:FM H f)(hN:P.N.length+f.Nodes.length<=1000000)(hR:P.roots.length<=1000000):
  ∃P' Z' E',sH P f=some ((P.roots.length:Int),P')/\wQ H ws P' (fs++[f]) Z' E' (T+12*f.Nodes.length)/\Z'.length<=v08.length+f.Nodes.length/\E'.length<=E.length+12*f.Nodes.length/\P'.gen=P.gen/\P'.N.length=P.N.length+f.Nodes.length:=by
 have hh1:=hh.tl;have hh2:=hh.fl;have hg:=hf.gok;have co:=p.has.co;have hs:=hf.sm;have NV:=p.gen;have eA:=p.size;obtain⟨P',q1,q2,q3,q4,q5⟩:=p.has.put hf hN hR;have hP:=qzc hf.sm (by decide) hf.ne hf.gok hR;rw[hP]at q1;cases q1;have co':CO (P.N++f.Nodes.map (m6 P.N.length)):=q2.co;have qJ:=z5z P.N f;obtain⟨Zf,Ef,z1,z2,z3⟩:=qum f hs.arcs f.Nodes.length (zF _);have J5:∀{v:Nat}{q:Z Int}{w:Int},v<P.N.length->Wk (core P.N) v q w->Wk (core (P.N++f.Nodes.map (m6 P.N.length))) v q w:=fun{v q w} hv h=>OX co qJ h ⟨by omega,by rw[iO];omega⟩;have DO:∀{v:Nat}{q:Z Int}{w:Int},v<P.N.length->Wk (core (P.N++f.Nodes.map (m6 P.N.length))) v q w->Wk (core P.N) v q w:=fun{v q w} hv h=>EV co qJ h ⟨by omega,by rw[iO];omega⟩;have Dc:∀{v x:Nat}{q:Z Int},v<P.N.length->Wk (core P.N) v q x->x<P.N.length:=fun{v x q} hv h=>by have:=(h.ing co.gok ⟨by omega,by rw[iO];omega⟩).2;rw[iO]at this;omega
 have i0:fG f 0:=⟨Int.le_refl _,by have:=hf.ne;omega⟩;have nw:∀{x:Nat}{q:Z Int},Wk (core (P.N++f.Nodes.map (m6 P.N.length))) (P.N.length:Int) q x->∃i:Nat,x=P.N.length+i/\i<f.Nodes.length/\Wk f 0 q (i:Int):=fun{x q} h=>by obtain⟨u,h1,h2,h3⟩:=LB hg h (u:=0) (by omega) i0;have a1:=h2.1;have a2:=h2.2;exact⟨u.toNat,by omega,by omega,by rw[show((u.toNat:Nat):Int)=u by omega];exact h3⟩
 have nu:∀{i:Nat}{q:Z Int},Wk f 0 q (i:Int)->Wk (core (P.N++f.Nodes.map (m6 P.N.length))) (P.N.length:Int) q ((P.N.length+i:Nat):Int):=fun{i q} h=>by have:=UJ (N:=P.N) hg h i0;rw[show(0:Int)+(P.N.length:Int)=(P.N.length:Int) by omega,show(i:Int)+(P.N.length:Int)=((P.N.length+i:Nat):Int) by omega]at this;exact this
 have mem:∀x∈P.N++f.Nodes.map (m6 P.N.length),x∈P.N\/∃y∈f.Nodes,x=m6 P.N.length y:=fun x hx=>by rcases yD.1 hx with hx |hx;exact .inl hx;obtain⟨y,hy,e⟩:=List.mem_map.1 hx;exact .inr ⟨y,hy,e.symm⟩
 have So:IntKind.i64.wrap (P.size+f.Nodes.length)=P.size+f.Nodes.length:=oA (by omega) (by omega);refine⟨_,v08++Zf,E++Ef,hP,⟨q2,p.hH,(tz hP p.wf p.rt).1,NV,fun x hx=>?_,fun x hx=>?_,fun x hx=>?_,?_,(tz hP p.wf p.rt).2.1,?_,?_,?_,?_⟩,by simp;omega,by simp;omega,rfl,by simp⟩;rcases mem x hx with hx |⟨y,hy,rfl⟩;exact p.old x hx;exact⟨by show(0:Int)<P.gen+1;omega,by show(0:Int)<P.gen+1;omega,by show(0:Int)<P.gen+1;omega,by show(0:Int)<P.gen+1;omega,by show(0:Int)<P.gen+1;omega⟩;rcases mem x hx with hx |⟨y,hy,rfl⟩;exact p.kr x hx;have:=(hf.nok y hy).1;show 0<=y.Typex/\y.Typex<(ws.length:Int);omega;rcases mem x hx with hx |⟨y,hy,rfl⟩;exact p.ft x hx;intro a ha;obtain⟨b,hb,rfl⟩:=List.mem_map.1 (show a∈y.Arcs.map (Rd P.N.length)from ha);have:=(hf.nok y hy).2.ok b hb;show 0<=b.Feat/\b.Feat<1000;omega;show IntKind.i64.wrap (P.size+f.Nodes.length)=_;rw[So,zU,yA];omega;intro a ha b hb x hx hy;have ha:a∈P.roots++[P.N.length]:=ha;have hb:b∈P.roots++[P.N.length]:=hb;obtain⟨s1,w1⟩:=hx;obtain⟨s2,w2⟩:=hy;rcases yD.1 ha with ha |ha<;>rcases yD.1 hb with hb |hb;obtain⟨q,k1,k2⟩:=p.shr a ha b hb x ⟨s1,DO (p.rt _ ha) w1⟩ ⟨s2,DO (p.rt _ hb) w2⟩;exact⟨q,J5 (p.rt _ ha) k1,J5 (p.rt _ hb) k2⟩;simp at hb;subst hb;obtain⟨i,e,_,_⟩:=nw w2;have:=Dc (p.rt _ ha) (DO (p.rt _ ha) w1);omega;simp at ha;subst ha;obtain⟨i,e,_,_⟩:=nw w1;have:=Dc (p.rt _ hb) (DO (p.rt _ hb) w2);omega;simp at ha hb;subst ha;subst hb;exact⟨s1,w1,w1⟩;intro a ha x hx;have ha:a∈P.roots++[P.N.length]:=ha;obtain⟨s1,w1⟩:=hx;rcases yD.1 ha with ha |ha;obtain⟨z,hz,k⟩:=p.spn a ha x ⟨s1,DO (p.rt _ ha) w1⟩;exact⟨z,List.mem_append_left _ hz,J5 (p.rt _ ha) k⟩;simp at ha;subst ha;obtain⟨i,rfl,hi,hw⟩:=nw w1;obtain⟨z,hz,k⟩:=(z3 i hi ⟨_,hw⟩).1;exact⟨z,List.mem_append_right _ hz,nu k⟩;intro a ha x hx y hy;have ha:a∈P.roots++[P.N.length]:=ha;obtain⟨s1,w1⟩:=hx;have hy:y∈(nd (core (P.N++f.Nodes.map (m6 P.N.length))) (x:Int)).Arcs:=hy;rcases yD.1 ha with ha |ha;have w2:=DO (p.rt _ ha) w1;rw[Xo qJ (Dc (p.rt _ ha) w2)]at hy;obtain⟨e,he,k,hf⟩:=p.arc a ha x ⟨s1,w2⟩ y hy;exact⟨e,List.mem_append_left _ he,J5 (p.rt _ ha) k,hf⟩;simp at ha;subst ha;obtain⟨i,rfl,hi,hw⟩:=nw w1;rw[bg hg hi]at hy;obtain⟨b,hb,rfl⟩:=List.mem_map.1 hy;obtain⟨e,he,k,hf⟩:=(z3 i hi ⟨_,hw⟩).2 b hb;exact⟨e,List.mem_append_right _ he,nu k,hf⟩;show nQ (P.N++f.Nodes.map (m6 P.N.length))<=_;rw[z4f];have h1:=z0l (K:=12) (M:=f.Nodes.map (m6 P.N.length)) fun x hx=>by obtain⟨y,hy,rfl⟩:=List.mem_map.1 hx;simp only[m6,gC,yA];exact hs.arcs y hy
 rw[yA]at h1;have:=p.tot;omega
structure Hm(ws:Z Nat)(L' L:Z aU)(φ:Nat->Nat):Prop where
 lt:∀i,i<L'.length->φ i<L.length
 fw:∀(i:Nat)(c:aU)(a:aT),L'[i]? = some c->a∈c.Arcs->∃y b,L[φ i]? = some y/\b∈y.Arcs/\b.Feat=a.Feat/\b.To=(φ a.To.toNat:Int)
 bw:∀(i:Nat)(y:aU)(b:aT),i<L'.length->L[φ i]? = some y->b∈y.Arcs->∃(j:Nat)(c:aU)(a:aT),L'[j]? = some c/\φ j=φ i/\a∈c.Arcs/\b.Feat=a.Feat/\b.To=(φ a.To.toNat:Int)
 ty:∀(i:Nat)(y:aU),i<L'.length->L[φ i]? = some y->∀k:Nat,(jV ws y.Typex).testBit k=true↔∀(j:Nat)(c:aU),L'[j]? = some c->φ j=φ i->(jV ws c.Typex).testBit k=true
structure LG(ws:Z Nat)(L:Z aU):Prop where
 ds:∀c∈L,jA c.Arcs
 to:∀c∈L,∀a∈c.Arcs,0<=a.To/\a.To<(L.length:Int)
 ty:∀c∈L,0<=c.Typex/\c.Typex<(ws.length:Int)
def wL(q:Nat->Nat)(W:Z (Nat×Nat)):Prop:=∀p∈W,q p.1=q p.2
structure UY(ws:Z Nat)(L:Z aU)(W:Z (Nat×Nat))(Y:Nat->Nat)(Q:GFS):Prop where
 hm:Hm ws L Q.Nodes Y
 gok:jL Q
 ty:∀(i:Nat)(y:aU),i<L.length->Q.Nodes[Y i]? = some y->0<=y.Typex/\y.Typex<(ws.length:Int)
 eq:wL Y W
 low:∀q,pQ L q->wL q W->∀i j,i<L.length->j<L.length->Y i=Y j->q i=q j
structure UA(ws:Z Nat)(L:Z aU)(W:Z (Nat×Nat))(r:Nat)(res:I GFS):Prop where
 no:res=none->∀q,pQ L q->wL q W->Io ws L q
 yes:∀f,res=some f->∃Y Q,UY ws L W Y Q/\f=cK Q ((Y r:Nat):Int)
def QG.hm{ws:Z Nat}{L:Z aU}{r:Nat->Nat}{g:GFS}(h:QG ws L r g):Hm ws L g.Nodes r :=
 ⟨fun i hi=>by rw[h.len];exact(h.rt i hi).1,fun i c a hi ha=>h.cov i c a hi ha,fun i y b hi hy hb=>by have:=h.snd (r i) y b hy (h.rt i hi).2 hb;simpa[(h.rt i hi).2]using this,fun i y hi hy=>(h.kd (r i) y hy (h.rt i hi).2).2⟩
section
variable{ws:Z Nat}{L:Z aU}{W:Z (Nat×Nat)}
def UY.clo{Y:Nat->Nat}{Q:GFS}(h:UY ws L W Y Q):pQ L Y:=fun i j c e a b hi hj he ha hb hf=>by
 obtain⟨y,x,h1,h2,h3,h4⟩:=h.hm.fw i c a hi ha;obtain⟨y',x',k1,k2,k3,k4⟩:=h.hm.fw j e b hj hb;rw[he,k1]at h1;cases h1;have:=(h.gok _ (zX k1)).dis.eq x h2 x' k2 (by omega);subst this;omega
def UY.good{Y:Nat->Nat}{Q:GFS}(hw:∀w∈ws,w≠0)(h:UY ws L W Y Q):¬ Io ws L Y:=fun⟨i,hi,hb⟩=>by
 obtain⟨y,hy⟩:=eE (h.hm.lt i hi);have hk:=h.ty i y hi hy;obtain⟨k,nL⟩:=Nat.exists_testBit_of_ne_zero (hw _ (zX (LY hk)));obtain⟨j,x,q1,q2,q3⟩:=hb k;have:=(h.hm.ty i y hi hy k).1 nL j x q1 q2;rw[q3]at this;cases this
def UA.uniq(hn:ws.Nodup)(hw:∀w∈ws,w≠0)(hg:LG ws L){r:Nat}(hr:r<L.length){res res':I GFS}(h:UA ws L W r res)(h':UA ws L W r res'):res=res':=by
 classical
 cases res with
 |none=>rcases res' with _|f;rfl;obtain⟨Y,Q,u,_⟩:=h'.yes f rfl;exact absurd (h.no rfl Y u.clo u.eq) (u.good hw)
 |some f=>
  obtain⟨Y,Q,u,rfl⟩:=h.yes f rfl;rcases res' with _|f';exact absurd (h'.no rfl Y u.clo u.eq) (u.good hw);obtain⟨BK,Q',u',rfl⟩:=h'.yes f' rfl;have e1:∀i j,i<L.length->j<L.length->Y i=Y j->BK i=BK j:=u.low BK u'.clo u'.eq;have e2:∀i j,i<L.length->j<L.length->BK i=BK j->Y i=Y j:=u'.low Y u.clo u.eq
  let V:Int->Int:=fun v=>if h:∃i,i<L.length/\v=(Y i:Int)then(BK h.choose:Int)else 0
  have S3:∀i,i<L.length->V (Y i:Int)=(BK i:Int):=fun i hi=>by have qJ:∃j,j<L.length/\(Y i:Int)=(Y j:Int):=⟨i,hi,rfl⟩;show(if h:∃j,j<L.length/\(Y i:Int)=(Y j:Int)then(BK h.choose:Int)else 0)=_;rw[dif_pos qJ];have hc:=qJ.choose_spec;rw[e1 i _ hi hc.1 (by omega)]
  have nq:∀i,i<L.length->∃y,Q.Nodes[Y i]? = some y/\nd Q (Y i:Int)=y:=fun i hi=>by obtain⟨y,hy⟩:=eE (u.hm.lt i hi);exact⟨y,hy,by simp[nd,hy]⟩
  have nq':∀i,i<L.length->∃y,Q'.Nodes[BK i]? = some y/\nd Q' (BK i:Int)=y:=fun i hi=>by obtain⟨y,hy⟩:=eE (u'.hm.lt i hi);exact⟨y,hy,by simp[nd,hy]⟩
  have iff_:∀i j,i<L.length->j<L.length->(Y i=Y j↔BK i=BK j):=fun i j hi hj=>⟨e1 i j hi hj,e2 i j hi hj⟩;have inL:∀{j:Nat}{c:aU},L[j]? = some c->j<L.length:=fun h=>(zG.1 h).1;have toL:∀{j:Nat}{c:aU}{a:aT},L[j]? = some c->a∈c.Arcs->a.To.toNat<L.length:=fun h ha=>by have:=hg.to _ (zX h) _ ha;omega
  have hS:o4 Q Q' V (fun v=>∃i,i<L.length/\v=(Y i:Int)):=by
   refine⟨?_,?_,?_,?_⟩;rintro v ⟨i,hi,rfl⟩ b hb;obtain⟨y,hy,ey⟩:=nq i hi;have hb:=sM.1 hb;rw[ey]at hb;obtain⟨j,c,a,q1,q2,q3,q4,q5⟩:=u.hm.bw i y b hi hy hb;exact⟨a.To.toNat,toL q1 q3,q5⟩;rintro v w ⟨i,hi,rfl⟩ ⟨j,hj,rfl⟩ e;rw[S3 i hi,S3 j hj]at e;rw[e2 i j hi hj (by omega)];rintro v ⟨i,hi,rfl⟩;obtain⟨y,hy,ey⟩:=nq i hi;obtain⟨y',pB,ey'⟩:=nq' i hi;rw[S3 i hi,ey,ey'];refine z6u hn (u'.ty i y' hi pB) (u.ty i y hi hy) (Nat.eq_of_testBit_eq fun k=>?_);rw[Bool.eq_iff_iff,u'.hm.ty i y' hi pB k,u.hm.ty i y hi hy k];exact⟨fun q j c hj hr=>q j c hj (e1 j i (inL hj) hi hr),fun q j c hj hr=>q j c hj (e2 j i (inL hj) hi hr)⟩;rintro v ⟨i,hi,rfl⟩;obtain⟨y,hy,ey⟩:=nq i hi;obtain⟨y',pB,ey'⟩:=nq' i hi;rw[S3 i hi];have su:kC (sar Q' (BK i:Int)):=by rw[sar,ey'];exact Q2 (u'.gok _ (zX pB)).dis
   have ss:kC ((sar Q (Y i:Int)).map fun a=>(⟨a.Feat,V a.To⟩:aT)):=by
    have:kC (sar Q (Y i:Int)):=by rw[sar,ey];exact Q2 (u.gok _ (zX hy)).dis
    unfold kC at*;rw[List.pairwise_map];exact this
   refine ed su ss fun b=>?_;rw[sM,ey',List.mem_map];constructor;intro hb;obtain⟨j,c,a,q1,q2,q3,q4,q5⟩:=u'.hm.bw i y' b hi pB hb;have kB:=e2 j i (inL q1) hi q2;obtain⟨z,b2,p1,p2,p3,p4⟩:=u.hm.fw j c a q1 q3;rw[kB,hy]at p1;cases p1;refine⟨b2,by rw[sM,ey];exact p2,?_⟩;rw[p4,S3 _ (toL q1 q3),<-q5,p3,<-q4];rintro⟨b2,hb2,rfl⟩;rw[sM,ey]at hb2;obtain⟨j,c,a,q1,q2,q3,q4,q5⟩:=u.hm.bw i y b2 hi hy hb2;have kB:=e1 j i (inL q1) hi q2;obtain⟨z,b3,p1,p2,p3,p4⟩:=u'.hm.fw j c a q1 q3;rw[kB,pB]at p1;cases p1;have:(⟨b2.Feat,V b2.To⟩:aT)=b3:=by rw[q5,S3 _ (toL q1 q3)];cases b3;simp only[aT.mk.injEq];simp only at p3 p4;exact⟨by rw[q4,p3],p4.symm⟩
   rw[this];exact p2
  have i1:=u.hm.lt r hr;have i2:=u'.hm.lt r hr;have:=(hS.canon u.gok u'.gok (r:=(Y r:Int)) ⟨by omega,by omega⟩ ⟨r,hr,rfl⟩ (by rw[S3 r hr];exact⟨by omega,by omega⟩)).2;rw[S3 r hr]at this;rw[this]
def UA.tr(hw:∀w∈ws,w≠0)(hg:LG ws L){L':Z aU}{φ:Nat->Nat}(hm:Hm ws L' L φ)(rC:LG ws L'){W':Z (Nat×Nat)}(ker:∀q,pQ L' q->wL q W'->∀i j,i<L'.length->j<L'.length->φ i=φ j->q i=q j)
  (w1:∀Y:Nat->Nat,wL Y W->∀p∈W',Y (φ p.1)=Y (φ p.2)) (w2:∀p∈W,∃x y,p=(φ x,φ y)/\x<L'.length/\y<L'.length/\∀q,pQ L' q->wL q W'->q x=q y) {r':Nat} (NK:r'<L'.length) {res:I GFS} (h:UA ws L W (φ r') res):UA ws L' W' r' res:=by
 classical
 have inL':∀{j:Nat}{c:aU},L'[j]? = some c->j<L'.length:=fun h=>(zG.1 h).1;have toL':∀{j:Nat}{c:aU}{a:aT},L'[j]? = some c->a∈c.Arcs->a.To.toNat<L'.length:=fun h ha=>by have:=rC.to _ (zX h) _ ha;omega
 let psh:(Nat->Nat)->Nat->Nat:=fun q x=>if h:∃i,i<L'.length/\x=φ i then 2*q h.choose else 2*x+1
 have hp:∀q,pQ L' q->wL q W'->∀i,i<L'.length->psh q (φ i)=2*q i:=fun q hq m8 i hi=>by have qJ:∃j,j<L'.length/\φ i=φ j:=⟨i,hi,rfl⟩;show(if h:∃j,j<L'.length/\φ i=φ j then 2*q h.choose else 2*φ i+1)=_;rw[dif_pos qJ];have hc:=qJ.choose_spec;rw[ker q hq m8 _ _ hi hc.1 hc.2]
 have ho:∀q x,(¬ ∃i,i<L'.length/\x=φ i)->psh q x=2*x+1:=fun q x hx=>by show(if h:∃j,j<L'.length/\x=φ j then 2*q h.choose else 2*x+1)=_;rw[dif_neg hx]
 have hc:∀q,pQ L' q->wL q W'->pQ L (psh q):=fun q hq m8 x y c e a b hx hy he ha hb hf=>by
  by_cases h1:∃i,i<L'.length/\x=φ i;obtain⟨i,hi,rfl⟩:=h1;by_cases h2:∃i,i<L'.length/\y=φ i;obtain⟨j,hj,rfl⟩:=h2;rw[hp q hq m8 i hi,hp q hq m8 j hj]at he;obtain⟨i',c',a',p1,p2,p3,p4,p5⟩:=hm.bw i c a hi hx ha;obtain⟨j',d',b',k1,k2,k3,k4,k5⟩:=hm.bw j e b hj hy hb;have e1:=ker q hq m8 i' i (inL' p1) hi p2;have e2:=ker q hq m8 j' j (inL' k1) hj k2;have:=hq i' j' c' d' a' b' p1 k1 (by omega) p3 k3 (by omega);rw[p5,k5,zZ,zZ,hp q hq m8 _ (toL' p1 p3),hp q hq m8 _ (toL' k1 k3),this];rw[hp q hq m8 i hi,ho q y h2]at he;omega;by_cases h2:∃i,i<L'.length/\y=φ i;obtain⟨j,hj,rfl⟩:=h2;rw[hp q hq m8 j hj,ho q x h1]at he;omega;rw[ho q x h1,ho q y h2]at he;have:x=y:=by omega
  subst this;rw[hx]at hy;cases hy;rw[(hg.ds c (zX hx)).eq a ha b hb hf]
 have m8:∀q,pQ L' q->wL q W'->wL (psh q) W:=fun q hq m8 p Ta=>by obtain⟨x,y,rfl,hx,hy,kM⟩:=w2 p Ta;show psh q (φ x)=psh q (φ y);rw[hp q hq m8 x hx,hp q hq m8 y hy,kM q hq m8]
 refine⟨fun vP q hq oO=>?_,fun f hf=>?_⟩;obtain⟨x,hx,hb⟩:=h.no vP _ (hc q hq oO) (m8 q hq oO);by_cases h1:∃i,i<L'.length/\x=φ i;obtain⟨i,hi,rfl⟩:=h1;refine⟨i,hi,fun k=>?_⟩;obtain⟨y,c,k1,k2,k3⟩:=hb k;rw[hp q hq oO i hi]at k2;by_cases h2:∃j,j<L'.length/\y=φ j;obtain⟨j,hj,rfl⟩:=h2;rw[hp q hq oO j hj]at k2;refine Classical.byContradiction fun fF=>?_;have:=(hm.ty j c hj k1 k).2 fun j' c' oS he=>by rcases J?:(jV ws c'.Typex).testBit k with _|_;exact absurd ⟨j',c',oS,by rw[ker q hq oO j' j (inL' oS) hj he];omega,J?⟩ fF;rfl
 rw[k3]at this;cases this;rw[ho q y h2]at k2;omega;obtain⟨c,yb⟩:=eE hx;have hk:=hg.ty c (zX yb);obtain⟨k,nL⟩:=Nat.exists_testBit_of_ne_zero (hw _ (zX (LY hk)));obtain⟨y,e,k1,k2,k3⟩:=hb k;rw[ho q x h1]at k2;by_cases h2:∃j,j<L'.length/\y=φ j;obtain⟨j,hj,rfl⟩:=h2;rw[hp q hq oO j hj]at k2;omega;rw[ho q y h2]at k2;have:y=x:=by omega
 subst this;rw[yb]at k1;cases k1;rw[nL]at k3;cases k3;obtain⟨Y,Q,u,rfl⟩:=h.yes f hf;have cls:∀x y,x<L.length->y<L.length->Y x=Y y->(∃i,i<L'.length/\x=φ i)->∃i,i<L'.length/\y=φ i:=fun x y hx hy he n_=>by
  have hq0:pQ L (fun x=>if ∃i,i<L'.length/\x=φ i then L.length else x):=fun x y c e a b hx hy he ha hb hf=>by have e0:(if ∃i,i<L'.length/\x=φ i then L.length else x)=if ∃i,i<L'.length/\y=φ i then L.length else y:=he;have NE:=(zG.1 hx).1;have hyl:=(zG.1 hy).1;show(if _ then _ else _)=if _ then _ else _;by_cases h1:∃i,i<L'.length/\x=φ i;by_cases h2:∃i,i<L'.length/\y=φ i;obtain⟨i,hi,rfl⟩:=h1;obtain⟨j,hj,rfl⟩:=h2;obtain⟨_,_,a',p1,_,p3,_,p5⟩:=hm.bw i c a hi hx ha;obtain⟨_,_,b',k1,_,k3,_,k5⟩:=hm.bw j e b hj hy hb;rw[if_pos ⟨_,toL' p1 p3,by rw[p5,zZ]⟩,if_pos ⟨_,toL' k1 k3,by rw[k5,zZ]⟩];rw[if_pos h1,if_neg h2]at e0;omega;by_cases h2:∃i,i<L'.length/\y=φ i;rw[if_neg h1,if_pos h2]at e0;omega;rw[if_neg h1,if_neg h2]at e0;subst e0;rw[hx]at hy;cases hy;rw[(hg.ds c (zX hx)).eq a ha b hb hf]
  have:=u.low _ hq0 (fun p Ta=>by obtain⟨x,y,rfl,hx,hy,_⟩:=w2 p Ta;show(if _ then _ else _)=if _ then _ else _;rw[if_pos ⟨x,hx,rfl⟩,if_pos ⟨y,hy,rfl⟩]) x y hx hy he;have this:(if ∃i,i<L'.length/\x=φ i then L.length else x)=if ∃i,i<L'.length/\y=φ i then L.length else y:=this;by_cases h2:∃i,i<L'.length/\y=φ i;exact h2;rw[if_pos n_,if_neg h2]at this;omega
 have inL:∀{j:Nat}{c:aU},L[j]? = some c->j<L.length:=fun h=>(zG.1 h).1;refine⟨fun i=>Y (φ i),Q,⟨⟨fun i hi=>u.hm.lt _ (hm.lt i hi),fun i c a hi ha=>?_,fun i y b hi hy hb=>?_,fun i y hi hy k=>?_⟩,u.gok,fun i y hi hy=>u.ty _ y (hm.lt i hi) hy,fun p Ta=>w1 Y u.eq p Ta,fun q hq oO i j hi hj he=>?_⟩,rfl⟩;obtain⟨y,b,h1,h2,h3,h4⟩:=hm.fw i c a hi ha;obtain⟨z,d,k1,k2,k3,k4⟩:=u.hm.fw (φ i) y b h1 h2;exact⟨z,d,k1,k2,by omega,by rw[k4,h4,zZ]⟩;obtain⟨x,c,a,p1,p2,p3,p4,p5⟩:=u.hm.bw (φ i) y b (hm.lt i hi) hy hb;obtain⟨j,hj,rfl⟩:=cls _ _ (hm.lt i hi) (inL p1) p2.symm ⟨i,hi,rfl⟩;obtain⟨j',c',a',k1,k2,k3,k4,k5⟩:=hm.bw j c a hj p1 p3;exact⟨j',c',a',k1,by show Y (φ j')=_;rw[k2,p2],k3,by omega,by rw[p5,k5,zZ]⟩;rw[u.hm.ty (φ i) y (hm.lt i hi) hy k];constructor;intro q j c hj he;obtain⟨z,hz⟩:=eE (hm.lt j (inL' hj));exact(hm.ty j z (inL' hj) hz k).1 (q (φ j) z hz he) j c hj rfl;intro q x c hx he;obtain⟨j,hj,rfl⟩:=cls _ _ (hm.lt i hi) (inL hx) he.symm ⟨i,hi,rfl⟩;refine(hm.ty j c hj hx k).2 fun j' c' oS xP=>q j' c' oS ?_;show Y (φ j')=_;rw[xP,he];have he:Y (φ i)=Y (φ j):=he;have:=u.low _ (hc q hq oO) (m8 q hq oO) _ _ (hm.lt i hi) (hm.lt j hj) he;rw[hp q hq oO i hi,hp q hq oO j hj]at this;omega
end
end Go.Proofs
namespace Go.Proofs
open Go Go.Rx Go.Vx Go.Shelf Go.Sort
set_option maxRecDepth 10000
inductive BI(f:GFS):Int->Int->Prop
 |one {u:Int} {a:aT}:a∈(nd f u).Arcs->BI f u a.To
 |snoc {u v:Int} {a:aT}:BI f u v->a∈(nd f v).Arcs->BI f u a.To
def BI.trans{f:GFS}{u v w:Int}(h:BI f u v)(h':BI f v w):BI f u w:=by induction h' with|one ha=>exact .snoc h ha|snoc _ ha ih=>exact .snoc ih ha
def wM(f:GFS)(s t:Z Int):Prop:=∀t1 u t2,t=t1++u::t2->∃w∈s++t1,∃a∈(nd f w).Arcs,a.To=u
def wM.nil(f:GFS)(s:Z Int):wM f s []:=fun t1 u t2 h=>by simp at h
def wM.cons{f:GFS}{s t:Z Int}{x:Int}(hx:∃w∈s,∃a∈(nd f w).Arcs,a.To=x)(h:wM f (s++[x]) t):wM f s (x::t):=fun t1 u t2 e=>by
 cases t1 with
 |nil=>simp only[List.nil_append,List.cons.injEq]at e;obtain⟨rfl,rfl⟩:=e;simpa using hx
 |cons y t1=>simp only[List.cons_append,List.cons.injEq]at e;obtain⟨rfl,rfl⟩:=e;obtain⟨w,hw,g⟩:=h t1 u t2 rfl;exact⟨w,by simpa using hw,g⟩
def wM.app{f:GFS}:∀{t s t':Z Int},wM f s t->wM f (s++t) t'->wM f s (t++t')
 |[],s,t',_,h'=>by simpa using h'
 |x::t,s,t',h,h'=>by have h1:=h [] x t rfl;rw[List.append_nil]at h1;refine wM.cons h1 (wM.app (t:=t) (fun t1 u t2 e=>?_) (by simpa using h'));obtain⟨w,hw,g⟩:=h (x::t1) u t2 (by rw[e];rfl);exact⟨w,by simpa using hw,g⟩
def qxl{f:GFS}(hg:jL f):∀(k:Nat)(o:Z Int)(v:Int),Seen f o->fG f v->v ∉ o->f.Nodes.length-o.length<=k->
  ∃t,dfs f k o v=o++v::t/\wM f (o++[v]) t/\∀u∈t,BI f v u
 |0,o,v,hs,hv,hn,hk=>by have h1:=(hs.snoc hv hn).len;simp only[zU,zO,zS]at h1;omega
 |k+1,o,v,hs,hv,hn,hk=>by
  have CS:=hs.snoc hv hn;have AV:=CS.len;simp only[zU,zO,zS]at AV;have key:∀(l:Z aT),(∀a∈l,a∈(nd f v).Arcs/\fG f a.To)->∀(t0:Z Int),Seen f (o++v::t0)->wM f (o++[v]) t0->(∀u∈t0,BI f v u)->
    ∃t,l.foldl (jN (dfs f k)) (o++v::t0)=o++v::t/\wM f (o++[v]) t/\∀u∈t,BI f v u:=by
   intro l;induction l with
   |nil=>intro _ t0 _ h1 h2;exact⟨t0,rfl,h1,h2⟩|cons a l ih=>
    intro hl t0 hp h1 h2;have EG:=hl a (by simp);have qE:=fun b hb=>hl b (List.mem_cons_of_mem a hb);simp only[List.foldl_cons];by_cases hm:a.To∈o++v::t0;have e:jN (dfs f k) (o++v::t0) a=o++v::t0:=by simp only[jN,hm,if_true]
    rw[e];exact ih qE t0 hp h1 h2;have e:jN (dfs f k) (o++v::t0) a=dfs f k (o++v::t0) a.To:=by simp only[jN,hm,if_false]
    have aN:(o++v::t0).length=o.length+1+t0.length:=by simp;omega
    obtain⟨t1,d1,d2,d3⟩:=qxl hg k (o++v::t0) a.To hp EG.2 hm (by omega);obtain⟨q1,_⟩:=Lr hg k (o++v::t0) a.To hp EG.2 hm (by omega);rw[e,d1];rw[d1]at q1;have e2:o++v::t0++a.To::t1=o++v::(t0++a.To::t1):=by simp
    rw[e2]at q1 ⊢;refine ih qE (t0++a.To::t1) q1 (h1.app (wM.cons ⟨v,by simp,a,EG.1,rfl⟩ (by simpa using d2))) fun u hu=>?_;rcases yD.1 hu with hu |hu
    exact h2 u hu;rcases zI.1 hu with rfl |hu;exact .one EG.1;exact(BI.one EG.1).trans (d3 u hu)
  obtain⟨t,g1,g2,g3⟩:=key (sar f v) (fun a ha=>⟨sM.1 ha,by have h1:=(hg _ (tK hv).2).arc a (sM.1 ha);exact⟨h1.2.1,h1.2.2⟩⟩) [] CS (wM.nil _ _) (by simp);exact⟨t,g1,g2,g3⟩
def z3j{f:GFS}(hg:jL f){r:Int}(hr:fG f r):∃t,bH f r=r::t/\wM f [r] t/\∀u∈t,BI f r u:=by obtain⟨t,h1,h2,h3⟩:=qxl hg f.Nodes.length [] r (Seen.nil f) hr (by simp) (by simp);exact⟨t,h1,h2,h3⟩
end Go.Proofs
