import Derived.Test.YtmflfedkfdkipaaGreatP19
set_option linter.all false
namespace Go.Proofs
open Go Go.Rx Go.Vx
set_option maxRecDepth 10000
def Lj(f g:GFS):X aO:=f.Nodes++g.Nodes.map (KL f.Nodes.length)
def xj(f g:GFS):(Lj f g).length=f.Nodes.length+g.Nodes.length:=by simp[Lj]
variable{f:GFS}
variable{g:GFS}
variable{i:Nat}
def qf(h:i<f.Nodes.length):(Lj f g)[i]? = f.Nodes[i]?:=by rw[Lj,List.getElem?_append_left h]
def qe:(Lj f g)[f.Nodes.length+i]? = (g.Nodes[i]?).map (KL f.Nodes.length):=by rw[Lj,List.getElem?_append_right qq0,Nat.add_sub_cancel_left,List.getElem?_map]
variable{v:Int}
def RV{o:X Int}(hn:o.Nodup)(h:o[i]? = some v):o.idxOf v=i:=by obtain⟨hk,hv⟩:=zG.1 h;have hm:v∈o:=hv ▸ List.getElem_mem hk;have h1:=List.idxOf_lt_length_iff.2 hm;have h2:=List.getElem_idxOf h1;have h3:=List.pairwise_iff_getElem.1 hn;rcases Nat.lt_trichotomy (o.idxOf v) i with e |e |e;exact absurd (h2.trans hv.symm) (h3 _ _ h1 hk e);exact e;exact absurd (hv.trans h2.symm) (h3 _ _ hk h1 e)
def D4.rc{u:Int}(h:D4 f u v):Rc f u v:=by induction h with|one ha=>exact(Rc.refl f _).snoc ha|snoc _ ha ih=>exact ih.snoc ha
def v01(hg:kT f){r:Int}(hr:gS f r):∀v∈bP f r,Rc f r v:=fun v hv=>by
 obtain⟨t,e,_,h⟩:=z5o hg hr;rw[e]at hv;rcases zI.1 hv with rfl |hv;exact Rc.refl f _;exact(h v hv).rc
structure qo(g:GFS)(r:Int):Prop where
 nd:(bP g r).Nodup
 ing:∀v∈bP g r,gS g v
 hd:(bP g r)[0]? = some r
 pos:0<(bP g r).length
 at_:∀(i:Nat)(v:Int),(bP g r)[i]? = some v->(cO g r).Nodes[i]? = some (mK g (bP g r) v)
 clo:∀v∈bP g r,∀a∈(Go.Proofs.nd g v).Arcs,a.To∈bP g r
 arc:∀v∈bP g r,∀a,a∈(mK g (bP g r) v).Arcs↔∃b∈(Go.Proofs.nd g v).Arcs,a=⟨b.Feat,((bP g r).idxOf b.To:Int)⟩
def tw(hg:kT g){r:Int}(hr:gS g r):qo g r:=by obtain⟨o,_⟩:=NC hg hr;obtain⟨t,ht⟩:=o.head;refine⟨o.seen.nd,o.seen.ing,by rw[ht];rfl,by rw[ht];simp,fun i v h=>by simp[cO,h],o.clo,fun v hv a=>?_⟩;simp only[mK,List.mem_map];constructor;rintro⟨b,hb,rfl⟩;exact⟨b,tO.1 hb,rfl⟩;rintro⟨b,hb,rfl⟩;exact⟨b,tO.2 hb,rfl⟩
def Ej{L:X aO}{q:Nat->Nat}(hq:o9 L q)(hL:∀(j:Nat)(c:aO)(a:aR),L[j]? = some c->a∈c.Arcs->0<=a.To/\a.To<(L.length:Int)){v':Int}{p:X Int}(h:Wk ⟨L⟩ v p v'):∀{w w':Int},(0<=v/\v<(L.length:Int))->(0<=w/\w<(L.length:Int))->Wk ⟨L⟩ w p w'->q v.toNat=q w.toNat->q v'.toNat=q w'.toNat:=by
 induction h with
 |nil v=>intro w w' _ _ h e;cases h;exact e| @cons v v' a p ha hw ih=>
  intro w w' hv tA h e;obtain⟨b,hb,hf,nV⟩:=h.inv rfl;obtain⟨c,hc⟩:=fE (l:=L) (i:=v.toNat) qq0;obtain⟨d,hd⟩:=fE (l:=L) (i:=w.toNat) qq0;have e1:nd ⟨L⟩ v=c:=by simp[nd,hc]
  have e2:nd ⟨L⟩ w=d:=by simp[nd,hd]
  rw[e1]at ha;rw[e2]at hb;exact ih (hL _ c a hc ha) (hL _ d b hd hb) nV (hq _ _ c d a b hc hd e ha hb hf.symm)
def KG(ws:X Nat)(f:GFS):Prop:=∀x∈f.Nodes,0<=x.Typex/\x.Typex<(ws.length:Int)
def tq{ws:X Nat}(hf:kT f)(hg:kT g)(h1:KG ws f)(h2:KG ws g):LG ws (Lj f g):=by
 have key:∀c∈Lj f g,jC c.Arcs/\(∀a∈c.Arcs,0<=a.To/\a.To<((Lj f g).length:Int))/\0<=c.Typex/\c.Typex<(ws.length:Int):=fun c hc=>by rw[xj];rcases yD.1 hc with hc |hc;have:=hf c hc;exact⟨this.dis,fun a ha=>by have:=this.arc a ha;omega,h1 c hc⟩;obtain⟨x,hx,rfl⟩:=List.mem_map.1 hc;have:=hg x hx;refine⟨?_,fun a ha=>?_,h2 x hx⟩;have hd:=this.dis;unfold jC at hd ⊢;simp only[KL];rw[List.pairwise_map];exact hd;obtain⟨b,hb,rfl⟩:=List.mem_map.1 ha;have:=this.arc b hb;simp only[EX];omega
 exact⟨fun c hc=>(key c hc).1,fun c hc=>(key c hc).2.1,fun c hc=>(key c hc).2.2⟩
def JN.ua{ws:X Nat}{L:X aO}{ra rb:Nat}{res:V GFS}(h:JN ws L ra rb res):UA ws L [(ra,rb)] ra res:=by have pr:∀q:Nat->Nat,EM q [(ra,rb)]->q ra=q rb:=fun q hq=>hq (ra,rb) qq4;refine⟨fun e q hq hp=>h.no e q hq (pr q hp),fun f e=>?_⟩;obtain⟨aH,Q,u,rfl⟩:=h.yes f e;exact⟨aH,Q,⟨u.qg.hm,u.gok,fun i y hi hy=>(u.qg.kd (aH i) y hy (u.qg.rt i hi).2).1,fun p hp=>by simp at hp;subst hp;exact u.eq,fun q hq hp=>u.low q hq (pr q hp)⟩,rfl⟩
section
variable{ws:X Nat}{N:X PN}{ra rb:Nat}
def AT(o1 o2:X Int)(i:Nat):Nat:=if i<o1.length then((o1[i]?).getD 0).toNat else((o2[i-o1.length]?).getD 0).toNat
def Fz{o1 o2:X Int}(h:o1[i]? = some v):AT o1 o2 i=v.toNat:=by rw[AT,if_pos (zG.1 h).1,h];rfl
def Fy{o1 o2:X Int}(h:o2[i]? = some v):AT o1 o2 (o1.length+i)=v.toNat:=by rw[AT,if_neg qq0,Nat.add_sub_cancel_left,h];rfl
def z1k(co:CO N)(hk:∀x∈N,0<=x.kind/\x.kind<(ws.length:Int))(hw:∀w∈ws,w≠0)(LV:ra<N.length)(Bq:rb<N.length)(shr:∀x:Nat,Rc (core N) ra x->Rc (core N) rb x->∃p,Wk (core N) ra p x/\Wk (core N) rb p x){res:V GFS}(h:JN ws (core N).Nodes ra rb res):
  UA ws (Lj (cO (core N) ra) (cO (core N) rb)) [(0,(cO (core N) ra).Nodes.length)] 0 res:=by
 have hg:=co.gok;have iS:=j7 N;have ia:gS (core N) (ra:Int):=⟨by omega,by omega⟩;have ib:gS (core N) (rb:Int):=⟨by omega,by omega⟩;have A:=tw hg ia;have B:=tw hg ib;have CA:=Hf hg ia;have CB:=Hf hg ib;have la:(cO (core N) ra).Nodes.length=(bP (core N) ra).length:=CA.len;have lb:(cO (core N) rb).Nodes.length=(bP (core N) rb).length:=CB.len;have hkc:∀v,gS (core N) v->0<=(nd (core N) v).Typex/\(nd (core N) v).Typex<(ws.length:Int):=fun v hv=>by obtain⟨x,hx,e⟩:=List.mem_map.1 (wB hv).2;rw[<-e];exact hk x hx
 have ka:KG ws (cO (core N) ra):=fun x hx=>by simp only[cO]at hx;obtain⟨v,hv,rfl⟩:=List.mem_map.1 hx;exact hkc v (A.ing v hv)
 have kb:KG ws (cO (core N) rb):=fun x hx=>by simp only[cO]at hx;obtain⟨v,hv,rfl⟩:=List.mem_map.1 hx;exact hkc v (B.ing v hv)
 have hlg:LG ws (core N).Nodes:=⟨fun c hc=>(hg c hc).dis,fun c hc a ha=>((hg c hc).arc a ha).2,fun c hc=>by obtain⟨x,hx,rfl⟩:=List.mem_map.1 hc;exact hk x hx⟩;have Kl:=tq (ws:=ws) CA.ok CB.ok ka kb;have iD:(Lj (cO (core N) ra) (cO (core N) rb)).length=(bP (core N) ra).length+(bP (core N) rb).length:=by rw[xj,la,lb]
 have pS:∀(j:Nat)(c:aO)(a:aR),(Lj (cO (core N) ra) (cO (core N) rb))[j]? = some c->a∈c.Arcs->0<=a.To/\a.To<((Lj (cO (core N) ra) (cO (core N) rb)).length:Int):=fun j c a hj ha=>Kl.to c (zX hj) a ha;have at_:∀i,i<(bP (core N) ra).length+(bP (core N) rb).length->∃(v:Int)(c:aO),gS (core N) v/\AT (bP (core N) ra) (bP (core N) rb) i=v.toNat/\(Lj (cO (core N) ra) (cO (core N) rb))[i]? = some c/\c.Typex=(nd (core N) v).Typex/\
   (∀a∈c.Arcs,∃b∈(nd (core N) v).Arcs,a.Feat=b.Feat/\b.To=(AT (bP (core N) ra) (bP (core N) rb) a.To.toNat:Int))/\(∀b∈(nd (core N) v).Arcs,∃a∈c.Arcs,a.Feat=b.Feat/\b.To=(AT (bP (core N) ra) (bP (core N) rb) a.To.toNat:Int)):=fun i hi=>by
  by_cases h1:i<(bP (core N) ra).length;obtain⟨v,hv⟩:=fE h1;have yV:=zX hv;have key:∀b∈(nd (core N) v).Arcs,b.To=(AT (bP (core N) ra) (bP (core N) rb) ((((bP (core N) ra).idxOf b.To:Nat):Int)).toNat:Int):=fun b hb=>by have hm:=A.clo v yV b hb;have:=(A.ing _ hm).1;rw[zZ,Fz (YN hm)];omega
  refine⟨v,mK (core N) (bP (core N) ra) v,A.ing v yV,Fz hv,by rw[qf qq0];exact A.at_ i v hv,rfl,fun a ha=>?_,fun b hb=>?_⟩;obtain⟨b,hb,rfl⟩:=(A.arc v yV a).1 ha;exact⟨b,hb,rfl,key b hb⟩;exact⟨_,(A.arc v yV _).2 ⟨b,hb,rfl⟩,rfl,key b hb⟩;obtain⟨v,hv⟩:=fE (l:=bP (core N) rb) (i:=i-(bP (core N) ra).length) qq0;have yV:=zX hv;have ei:i=(bP (core N) ra).length+(i-(bP (core N) ra).length):=by omega
  have key:∀b∈(nd (core N) v).Arcs,b.To=(AT (bP (core N) ra) (bP (core N) rb) ((((bP (core N) rb).idxOf b.To:Nat):Int)+((cO (core N) ra).Nodes.length:Int)).toNat:Int):=fun b hb=>by have hm:=B.clo v yV b hb;have:=(B.ing _ hm).1;rw[show((((bP (core N) rb).idxOf b.To:Nat):Int)+((cO (core N) ra).Nodes.length:Int)).toNat=(bP (core N) ra).length+(bP (core N) rb).idxOf b.To by omega,Fy (YN hm)];omega
  refine⟨v,KL (cO (core N) ra).Nodes.length (mK (core N) (bP (core N) rb) v),B.ing v yV,by rw[ei];exact Fy hv,by rw[ei,<-la,qe,la,B.at_ _ v hv];rfl,rfl,fun a ha=>?_,fun b hb=>?_⟩;obtain⟨a0,ha0,rfl⟩:=List.mem_map.1 ha;obtain⟨b,hb,rfl⟩:=(B.arc v yV a0).1 ha0;exact⟨b,hb,rfl,key b hb⟩;exact⟨_,List.mem_map_of_mem ((B.arc v yV _).2 ⟨b,hb,rfl⟩),rfl,key b hb⟩
 have inl:∀{j:Nat}{c:aO},(Lj (cO (core N) ra) (cO (core N) rb))[j]? = some c->j<(bP (core N) ra).length+(bP (core N) rb).length:=fun h=>by have:=(zG.1 h).1;omega
 have cnd:∀(v:Int)(y:aO),gS (core N) v->(core N).Nodes[v.toNat]? = some y->y=nd (core N) v:=fun v y hv hy=>by simp[nd,hy]
 have hm:Hm ws (Lj (cO (core N) ra) (cO (core N) rb)) (core N).Nodes (AT (bP (core N) ra) (bP (core N) rb)):=by
  refine⟨fun i hi=>?_,fun i c a hi ha=>?_,fun i y b hi hy hb=>?_,fun i y hi hy k=>?_⟩;obtain⟨v,c,h1,h2,_⟩:=at_ i qq0;rw[h2];have:=h1.1;have:=h1.2;omega;obtain⟨v,c',h1,h2,h3,h4,h5,h6⟩:=at_ i (inl hi);rw[hi]at h3;cases h3;obtain⟨b,hb,e1,e2⟩:=h5 a ha;have:=h1.1;have:=h1.2;obtain⟨y,hy⟩:=fE (l:=(core N).Nodes) (i:=v.toNat) qq0;have e:=cnd v y h1 hy;exact⟨y,b,by rw[h2];exact hy,by rw[e];exact hb,e1.symm,e2⟩;obtain⟨v,c,h1,h2,h3,h4,h5,h6⟩:=at_ i qq0;rw[h2]at hy;rw[cnd v y h1 hy]at hb;obtain⟨a,ha,e1,e2⟩:=h6 b hb;exact⟨i,c,a,h3,rfl,ha,e1.symm,e2⟩;obtain⟨v,c,h1,h2,h3,h4,_⟩:=at_ i qq0;rw[h2]at hy;rw[cnd v y h1 hy];constructor;intro q j d hj he;obtain⟨v',d',k1,k2,k3,k4,_⟩:=at_ j (inl hj);rw[hj]at k3;cases k3;have:v'=v:=by rw[h2,k2]at he;have:=h1.1;have:=k1.1;omega
  rw[k4,this];exact q;intro q;rw[<-h4];exact q i c h3 rfl
 have wl:∀{v w:Int}{p:X Int},Wk (core N) v p w->v∈bP (core N) ra->w∈bP (core N) ra/\Wk ⟨Lj (cO (core N) ra) (cO (core N) rb)⟩ ((bP (core N) ra).idxOf v:Int) p ((bP (core N) ra).idxOf w:Int):=fun{v w p} h=>by
  induction h with
  |nil v=>intro hv;exact⟨hv,.nil _⟩| @cons v w a p ha hw ih=>
   intro hv;obtain⟨h1,h2⟩:=ih (A.clo v hv a ha);refine⟨h1,Wk.cons (a:=⟨a.Feat,((bP (core N) ra).idxOf a.To:Int)⟩) ?_ h2⟩;have hi:=List.idxOf_lt_length_iff.2 hv;have:(Lj (cO (core N) ra) (cO (core N) rb))[(bP (core N) ra).idxOf v]? = some (mK (core N) (bP (core N) ra) v):=by rw[qf qq0];exact A.at_ _ v (YN hv)
   rw[nd,zZ];simp only[this,Option.getD_some];exact(A.arc v hv _).2 ⟨a,ha,rfl⟩
 have wr:∀{v w:Int}{p:X Int},Wk (core N) v p w->v∈bP (core N) rb->w∈bP (core N) rb/\Wk ⟨Lj (cO (core N) ra) (cO (core N) rb)⟩ ((bP (core N) rb).idxOf v+(cO (core N) ra).Nodes.length:Int) p ((bP (core N) rb).idxOf w+(cO (core N) ra).Nodes.length:Int):=fun{v w p} h=>by
  induction h with
  |nil v=>intro hv;exact⟨hv,.nil _⟩| @cons v w a p ha hw ih=>
   intro hv;obtain⟨h1,h2⟩:=ih (B.clo v hv a ha);refine⟨h1,Wk.cons (a:=EX (cO (core N) ra).Nodes.length ⟨a.Feat,((bP (core N) rb).idxOf a.To:Int)⟩) ?_ h2⟩;have:(Lj (cO (core N) ra) (cO (core N) rb))[(cO (core N) ra).Nodes.length+(bP (core N) rb).idxOf v]? = some (KL (cO (core N) ra).Nodes.length (mK (core N) (bP (core N) rb) v)):=by rw[qe,B.at_ _ v (YN hv)];rfl
   rw[nd,show((bP (core N) rb).idxOf v+(cO (core N) ra).Nodes.length:Int).toNat=(cO (core N) ra).Nodes.length+(bP (core N) rb).idxOf v by omega];simp only[this,Option.getD_some];exact List.mem_map_of_mem ((B.arc v hv _).2 ⟨a,ha,rfl⟩)
 have za:(bP (core N) ra).idxOf (ra:Int)=0:=RV A.nd A.hd;have zb:(bP (core N) rb).idxOf (rb:Int)=0:=RV B.nd B.hd;have ma:(ra:Int)∈bP (core N) ra:=zX A.hd;have mb:(rb:Int)∈bP (core N) rb:=zX B.hd;have p0:AT (bP (core N) ra) (bP (core N) rb) 0=ra:=by rw[Fz A.hd];omega
 have p1:AT (bP (core N) ra) (bP (core N) rb) (cO (core N) ra).Nodes.length=rb:=by have:=Fy (o1:=bP (core N) ra) B.hd;rw[Nat.add_zero]at this;rw[la,this];omega
 have two:∀q,o9 (Lj (cO (core N) ra) (cO (core N) rb)) q->EM q [(0,(cO (core N) ra).Nodes.length)]->∀i j,i<(bP (core N) ra).length->j<(bP (core N) rb).length->AT (bP (core N) ra) (bP (core N) rb) i=AT (bP (core N) ra) (bP (core N) rb) ((bP (core N) ra).length+j)->q i=q ((bP (core N) ra).length+j):=fun q hq hp i j hi hj he=>by
  obtain⟨v,hv⟩:=fE hi;obtain⟨w,nV⟩:=fE hj;have yV:=zX hv;have yU:=zX nV;rw[Fz hv,Fy nV]at he;have v0:=(A.ing v yV).1;have w0:=(B.ing w yU).1;have e:v=w:=by omega
  subst e;have r1:=v01 hg ia v yV;have r2:=v01 hg ib v yU;have ev:((v.toNat:Nat):Int)=v:=by omega
  obtain⟨p,k1,k2⟩:=shr v.toNat (by rw[ev];exact r1) (by rw[ev];exact r2);rw[ev]at k1 k2;have g1:=(wl k1 ma).2;have g2:=(wr k2 mb).2;have:=Ej hq pS g1 (by rw[za];have:=A.pos;omega) (by rw[zb];have:=B.pos;omega) g2 (by rw[za,zb];have:=hp (0,(cO (core N) ra).Nodes.length) qq4;simpa using this);rw[RV A.nd hv,RV B.nd nV,la]at this;rw[show((j:Int)+((bP (core N) ra).length:Int)).toNat=(bP (core N) ra).length+j by omega,zZ]at this;exact this
 refine UA.tr (L:=(core N).Nodes) (W:=[(ra,rb)]) (φ:=AT (bP (core N) ra) (bP (core N) rb)) hw hlg hm Kl (fun q hq hp i j hi hj he=>?_) (fun I jI p hp=>?_) (fun p hp=>?_) (by have:=A.pos;omega) (by rw[p0];exact h.ua);by_cases h1:i<(bP (core N) ra).length<;>by_cases h2:j<(bP (core N) ra).length;obtain⟨v,hv⟩:=fE h1;obtain⟨w,nV⟩:=fE h2;rw[Fz hv,Fz nV]at he;have v0:=(A.ing v (zX hv)).1;have w0:=(A.ing w (zX nV)).1;have e:v=w:=by omega
 subst e;rw[<-RV A.nd hv,<-RV A.nd nV];have ej:j=(bP (core N) ra).length+(j-(bP (core N) ra).length):=by omega
 rw[ej]at he ⊢;exact two q hq hp i _ h1 qq0 he;have ei:i=(bP (core N) ra).length+(i-(bP (core N) ra).length):=by omega
 rw[ei]at he ⊢;exact(two q hq hp j _ h2 qq0 he.symm).symm;have ei:i=(bP (core N) ra).length+(i-(bP (core N) ra).length):=by omega
 have ej:j=(bP (core N) ra).length+(j-(bP (core N) ra).length):=by omega
 obtain⟨v,hv⟩:=fE (l:=bP (core N) rb) (i:=i-(bP (core N) ra).length) qq0;obtain⟨w,nV⟩:=fE (l:=bP (core N) rb) (i:=j-(bP (core N) ra).length) qq0;rw[ei,ej,Fy hv,Fy nV]at he;have v0:=(B.ing v (zX hv)).1;have w0:=(B.ing w (zX nV)).1;have e:v=w:=by omega
 subst e;have g1:=RV B.nd hv;have g2:=RV B.nd nV;rw[show i=j by omega];simp at hp;subst hp;rw[p0,p1];exact jI (ra,rb) qq4;simp at hp;subst hp;exact⟨0,(cO (core N) ra).Nodes.length,by rw[p0,p1],by have:=A.pos;omega,by have:=B.pos;omega,fun q _ hq=>hq (0,(cO (core N) ra).Nodes.length) qq4⟩
end
section
variable{ws:X Nat}
structure OkG(ws:X Nat)(f:GFS):Prop where
 gok:kT f
 kg:KG ws f
 ne:0<f.Nodes.length
 can:cO f 0=f
end
section
variable{H:cZ}{ws:X Nat}{P:PP}{fs:X GFS}
def z6p{l:X aR}(hd:jC l)(h:∀a∈l,0<=a.Feat/\a.Feat<1000):l.length<=1000:=by
 have:=Ju (R:=fun(i:Nat) (x:Int)=>x=(i:Int)) (fun i x y h1 h2=>qq0) (List.range 1000) (l.map aR.Feat) (by
  unfold List.Nodup;rw[List.pairwise_map];exact hd) fun x hx=>by
  obtain⟨a,ha,rfl⟩:=List.mem_map.1 hx;have:=h a ha;exact⟨a.Feat.toNat,List.mem_range.2 qq0,by omega⟩
 simpa using this
structure qc(ws:X Nat)(z e:Nat)(f:GFS):Prop where
 ok:OkG ws f
 nl:f.Nodes.length<=z
 al:∀x∈f.Nodes,x.Arcs.length<=1000
 ft:∀x∈f.Nodes,∀a∈x.Arcs,a.Feat<1000
variable{f:GFS}
def uZ.rd{v10:X (X Int)}{E:X Ff}{T:Nat}(p:uZ H ws P fs v10 E T){k:Nat}(h:fs[k]? = some f):qc ws v10.length E.length f:=by
 obtain⟨r,h1,h2,rfl⟩:=p.has.at_ k f h;have co:=p.has.co;have hr:gS (core P.N) (r:Int):=⟨by omega,by rw[j7];omega⟩;have C:=Hf co.gok hr;have A:=tw co.gok hr;have hrm:=zX h1;have nodeF:∀x∈(cO (core P.N) r).Nodes,(0<=x.Typex/\x.Typex<(ws.length:Int))/\jC x.Arcs/\∀a∈x.Arcs,0<=a.Feat/\a.Feat<1000:=fun x hx=>by
  refine⟨?_,(C.ok x hx).dis,fun a ha=>?_⟩
  all_goals
   simp only[cO]at hx;obtain⟨v,hv,rfl⟩:=List.mem_map.1 hx;obtain⟨y,hy,e⟩:=List.mem_map.1 (wB (A.ing v hv)).2
  rw[show(mK (core P.N) (bP (core P.N) r) v).Typex=(nd (core P.N) v).Typex from rfl,<-e];exact p.kr y hy;obtain⟨b,hb,rfl⟩:=(A.arc v hv a).1 ha;rw[<-e]at hb;obtain⟨a0,ha0,rfl⟩:=List.mem_map.1 hb;exact p.ft y hy a0 ha0
 refine⟨⟨C.ok,fun x hx=>(nodeF x hx).1,C.pos,(qx7 co.gok hr).1⟩,?_,fun x hx=>z6p (nodeF x hx).2.1 (nodeF x hx).2.2,fun x hx a ha=>((nodeF x hx).2.2 a ha).2⟩;rw[C.len];refine Ju (R:=fun(q:X Int) (v:Int)=>Wk (core P.N) (r:Int) q v) (fun q v w h1 h2=>Wk.det co.gok h2 hr h1) v10 _ A.nd fun v hv=>?_;have h0:=(A.ing v hv).1;have e:((v.toNat:Nat):Int)=v:=by omega
 have:=v01 co.gok hr v hv;rw[<-e]at this;obtain⟨q,hq,w⟩:=p.spn r hrm v.toNat this;exact⟨q,hq,by rw[e]at w;exact w⟩
structure PB(H:cZ)(ws:X Nat)(P:PP)(fs:X GFS)(z e j:Nat):Prop where
 ex:∃v10 E T,uZ H ws P fs v10 E T/\v10.length<=z/\E.length<=e/\T<=1152*j
 gen:P.gen<=(j:Int)+1
 nl:P.N.length<=96*j
 rl:fs.length<=j
def PB.new:PB H ws (uC H) [] 0 0 0:=⟨⟨[],[],0,uZ.new,zF _,zF _,zF _⟩,Int.le_refl _,zF _,zF _⟩
variable{z e j:Nat}
def PB.has(p:PB H ws P fs z e j):Has P fs:=by obtain⟨_,_,_,h,_⟩:=p.ex;exact h.has
def PB.rd(p:PB H ws P fs z e j){k:Nat}{f:GFS}(h:fs[k]? = some f):qc ws z e f:=by obtain⟨v10,E,T,q,h1,h2,_⟩:=p.ex;have:=q.rd h;exact⟨this.ok,Nat.le_trans this.nl h1,this.al,this.ft⟩
def PB.put(hh:nT H ws)(p:PB H ws P fs z e j)(hj:j<=200)(hf:KB H f):∃P',yE P f=some ((fs.length:Int),P')/\PB H ws P' (fs++[f]) (z+f.Nodes.length) (e+12*f.Nodes.length) (j+1)/\P'.N.length=P.N.length+f.Nodes.length:=by obtain⟨v10,E,T,q,h1,h2,h3⟩:=p.ex;have h4:=p.gen;have h5:=p.nl;have h6:=p.rl;have h7:=hf.sm.nodes;obtain⟨P',Z',E',g1,g2,g3,g4,g5,g6⟩:=za9 hh q hf qq0 (by rw[q.has.len];omega);rw[q.has.len]at g1;exact⟨P',g1,⟨⟨Z',E',_,g2,by omega,by omega,by omega⟩,by rw[g5];omega,by omega,by simp;omega⟩,g6⟩
variable{n:Nat}
def PB.unify(hh:nT H ws)(p:PB H ws P fs z e j)(hj:j<=200)(hz:z<=96)(he:e<=1152)(hn:3000000<=n){a b:Nat}{f':GFS}(ha:fs[a]? = some f)(hb:fs[b]? = some f'):
  ∃res P',vA n P (a:Int) (b:Int)=some ((if res.isSome then(fs.length:Int)else 0,res.isSome),P')/\UA ws (Lj f f') [(0,f.Nodes.length)] 0 res/\PB H ws P' (fs++res.toList) z e (j+1)/\P.N.length<=P'.N.length/\(res=none->P'.N.length=P.N.length)/\∀f,res=some f->P'.N.length<=P.N.length+f.Nodes.length:=by
 obtain⟨v10,E,T,q,h1,h2,h3⟩:=p.ex;have h4:=p.gen;have h5:=p.nl;have h6:=p.rl;obtain⟨ra,k1,k2,rfl⟩:=q.has.at_ a f ha;obtain⟨rb,l1,l2,rfl⟩:=q.has.at_ b f' hb;obtain⟨res,P',g1,g2,g3,g4,g5,g6,g7⟩:=z3d hh q qq0 qq0 qq0 (by rw[q.has.len];omega) hn k1 l1;rw[q.has.len]at g1;have hU:=z1k q.has.co q.kr (fun w hw=>(hh.ok w hw).1) k2 l2 (fun x=>q.shr ra (zX k1) rb (zX l1) x) g2;have hk:P'.N.length<=P.N.length+96:=by rcases res with _|f;have:=g6 rfl;omega;have h8:=g7 f rfl;have:=(g3.rd (k:=fs.length) (f:=f) qq4).nl;omega
 exact⟨res,P',g1,hU,⟨⟨v10,E,_,g3,h1,h2,by omega⟩,by rw[g4];omega,by omega,by cases res<;>simp<;>omega⟩,g5,g6,g7⟩
def PB.test(hh:nT H ws)(p:PB H ws P fs z e j)(hj:j<=200)(hn:3000000<=n){a b:Nat}{f':GFS}(ha:fs[a]? = some f)(hb:fs[b]? = some f'):
  ∃res P',AH n P (a:Int) (b:Int)=some (res.isSome,P')/\UA ws (Lj f f') [(0,f.Nodes.length)] 0 res/\PB H ws P' fs z e (j+1)/\P'.N.length=P.N.length:=by obtain⟨v10,E,T,q,h1,h2,h3⟩:=p.ex;have h4:=p.gen;have h5:=p.nl;have h6:=p.rl;obtain⟨ra,k1,k2,rfl⟩:=q.has.at_ a f ha;obtain⟨rb,l1,l2,rfl⟩:=q.has.at_ b f' hb;obtain⟨res,P',g1,g2,g3,g4,g5,g6,g7⟩:=z6k hh q qq0 qq0 hn k1 l1;have hU:=z1k q.has.co q.kr (fun w hw=>(hh.ok w hw).1) k2 l2 (fun x=>q.shr ra (zX k1) rb (zX l1) x) g2;exact⟨res,P',g1,hU,⟨⟨v10,E,_,g3,h1,h2,by omega⟩,by rw[g4];omega,by omega,by omega⟩,g5⟩
def PB.out(p:PB H ws P fs z e j){a b:Int}(h:¬ ((0<=a/\a<(fs.length:Int))/\0<=b/\b<(fs.length:Int))):vA n P a b=some ((0,false),P)/\AH n P a b=some (false,P):=by rw[<-p.has.len]at h;exact⟨qxt h,z1e h⟩
def PB.read(p:PB H ws P fs z e j){n:Nat}(hj:j<=200)(hn:3000000<=n){k:Nat}{f:GFS}(h:fs[k]? = some f):AI n P (k:Int)=some (f,true):=p.has.read (by have:=p.nl;omega) h
def PB.eq(p:PB H ws P fs z e j)(hz:z<=1000)(hn:3000000<=n){k:Nat}(h:fs[k]? = some f):NT n f f=some true:=by have:=p.rd h;have hs:dI f 1000:=⟨Nat.le_trans this.nl hz,this.al⟩;rw[g_ hs hs hn,A_.2 rfl];rfl
def PB.more(p:PB H ws P fs z e j){j':Nat}(h:j<=j'):PB H ws P fs z e j':=by obtain⟨v10,E,T,q,h1,h2,h3⟩:=p.ex;have h4:=p.gen;have h5:=p.nl;have h6:=p.rl;exact⟨⟨v10,E,T,q,h1,h2,by omega⟩,by omega,by omega,by omega⟩
end
variable{N:Nat}
variable{L:X aO}
variable{r:Nat->Nat}
def CD.clo{W:X (Int×Int)}{r':Nat->Nat}{out:X Int}{C:X Gcell}(hL:A4 N [] L)(h:CD N L W r out C r'):o9 L r':=fun i j x y a b hi hj e ha hb hf=>by
 obtain⟨a',p1,p2,p3⟩:=h.tc.cov i x a hi ha;obtain⟨b',q1,q2,q3⟩:=h.tc.cov j y b hj hb;have il:=(zG.1 hi).1;rw[hL.len]at il;rw[<-e]at q1;have:a'=b':=(h.ds _ (h.ck.lt il)).eq a' p1 b' q1 qq0;subst this;have e1:=p3 r' (fun _ _ _ _ e=>e) (fun _ hz=>by cases hz);have e2:=q3 r' (fun _ _ _ _ e=>e) (fun _ hz=>by cases hz);omega
variable{i:Nat}
def z2l(h:i<N):(A9 0 N)[i]? = some (i:Int):=by simp[A9,h]
def tdo(r:Nat->Nat)(i:Nat):X m6:=((List.range i).filter fun(j:Nat)=>r j != j).map fun(j:Nat)=>⟨(j:Int),(r j:Int)⟩
def xy{v12:Type}{l:X v12}(hi:i<N){x:v12}(hx:l[i]? = some x):i9 l 0 N (i:Int)=some x:=by have:=xx hi hx;rwa [zZ]at this
def z6j(r:Nat->Nat)(i:Nat):tdo r (i+1)=tdo r i++(if r i=i then[]else[⟨(i:Int),(r i:Int)⟩]):=by simp only[tdo,List.range_succ,List.filter_append,List.map_append];by_cases e:r i=i;rw[if_pos e];simp[e];rw[if_neg e];simp[e]
def z36(r:Nat->Nat)(i:Nat):(tdo r i).length<=i:=by have:=List.length_filter_le (fun(j:Nat)=>r j != j) (List.range i);simpa[tdo]using this
def z75{N:Nat}{L:X aO}{cl r3:X Int}{r:Nat->Nat}(mH:L.length=N)(hN:N<=1000)(h:CK N cl r){n:Nat}:∀(m i:Nat),N-i<m->i<=N->
  SD L cl n r3 m (i:Int) (tdo r i) ((L.take i).map aO.Arcs++List.replicate (N-i) [])=Rq L n r3 (tdo r N) (L.map aO.Arcs)
 |0,i,hm,_=>by omega
 |m+1,i,hm,hi=>by
  unfold SD;have eW:=z36 r i;by_cases aE:i<N;have fJ:i<L.length:=by omega
  obtain⟨x,hx,_⟩:=fP fJ;have hw:IntKind.i64.wrap ((i:Int)+1)=((i+1:Nat):Int):=kX aE qq0;have hv:i9 ((L.take i).map aO.Arcs++List.replicate (N-i) ([]:X aR)) 0 L.length (i:Int)=some []:=by refine xy fJ ?_;rw[List.getElem?_append_right (by simp only[yA,List.length_take];omega)];simp only[yA,List.length_take,List.getElem?_replicate];rw[if_pos qq0]
  have B8:((L.take i).map aO.Arcs++List.replicate (N-i) ([]:X aR)).set i x.Arcs=(L.take (i+1)).map aO.Arcs++List.replicate (N-(i+1)) []:=by
   obtain⟨k,hk⟩:∃k,N-i=k+1:=⟨N-i-1,by omega⟩;rw[hk,show N-(i+1)=k by omega,jG hx,List.map_append,List.replicate_succ,List.set_append_right _ _ (by simp only[yA,List.length_take];omega)];have:i-((L.take i).map aO.Arcs).length=0:=by simp only[yA,List.length_take];omega
   rw[this];simp
  have ih:=z75 (r3:=r3) mH hN h (n:=n) m (i+1) qq0 qq0;simp only[jB fJ,zC,cP,hx,aM,hv,h.get i aE,Rr,hw,zZ,B8];rw[z6j]at ih;by_cases e:r i=i;have eb:((r i:Int) != (i:Int))=false:=by rw[e];simp
  rw[if_pos e,List.append_nil]at ih;rw[eb,zD,ih];have eb:((r i:Int) != (i:Int))=true:=by simp only[bne_iff_ne,ne_eq];omega
  rw[if_neg e]at ih;rw[eb,zC,fW qq0,ih];have:i=N:=by omega
  subst this;have fJ:¬ i<L.length:=by omega
  simp only[jV fJ,zD];rw[zW qq0,Nat.sub_self,List.replicate_zero,List.append_nil]
def Et(x:aO):Gcell:=⟨-1,0,x.Arcs⟩
def xz{x:aO}(h:L[i]? = some x):bQ (L.map Et) i=Et x:=by simp[bQ,h]
structure CR(N:Nat)(L:X aO)(r r':Nat->Nat)(out:X Int):Prop where
 ck:CK N out r'
 clo:o9 L r'
 up:∀i j,i<N->j<N->r i=r j->r' i=r' j
 low:∀q,o9 L q->(∀i j,i<N->j<N->r i=r j->q i=q j)->∀i j,i<N->j<N->r' i=r' j->q i=q j
def z3a{K:Nat}:∀{cells:X Gcell},(∀c∈cells,c.arcs.length<=K)->tot cells<=K*cells.length
 |[],_=>by simp[tot]
 |c::l,h=>by have h1:=h c qq4;have h2:=z3a (cells:=l) fun d hd=>h d (by simp[hd]);simp only[tot,zQ,List.sum_cons,zO,Nat.mul_add,Nat.mul_one]at h2 ⊢;omega
variable{n:Nat}
def z4k(hL:A4 N [] L)(hN:N<=200)(hD:∀x∈L,jC x.Arcs/\x.Arcs.length<=1200){cl:X Int}(h:CK N cl r)(hn:2000000<=n):∃out r',Qi n L cl=some out/\CR N L r r' out:=by
 have mH:=hL.len;have eW:=z36 r N;have hap:=quf (N:=N) qq0 (n:=n) qq0;have l1:=z75 (r3:=A9 0 N) mH qq0 h (n:=n) n 0 qq0 qq0;rw[show tdo r 0=[]from rfl,List.take_zero,List.map_nil,List.nil_append,Nat.sub_zero,zV]at l1;have Vd:tot (L.map Et)<=1200*N:=by
  have:=z3a (K:=1200) (cells:=L.map Et) fun c hc=>by obtain⟨x,hx,rfl⟩:=List.mem_map.1 hc;exact(hD x hx).2
  rwa [yA,mH]at this
 have mem:∀{i:Nat},i<N->∃x,L[i]? = some x:=fun{i} hi=>⟨_,List.getElem?_eq_getElem qq0⟩;have BK:CS N L ((tdo r N).map ua) (L.map aO.Arcs) (A9 0 N) (L.map Et) id:=⟨⟨iy 0 N,fun i hi=>z2l hi,fun _ _=>zF _,fun _ _=>rfl⟩,by simp[mH],by simp[mH],fun i hi _=>by
   obtain⟨x,hx⟩:=mem hi;rw[List.getElem?_map,hx,xz hx];rfl,fun i hi=>by
   obtain⟨x,hx⟩:=mem hi;rw[xz hx];exact(hD x (zX hx)).1,fun p hp=>by
   obtain⟨q,hq,rfl⟩:=List.mem_map.1 hp;obtain⟨j,hj,rfl⟩:=List.mem_map.1 hq;have:=List.mem_range.1 (List.mem_filter.1 hj).1;have:=h.lt this;simp only[ua];exact⟨by omega,by omega⟩,⟨fun j x a hj ha=>⟨a,by show a∈(bQ _ j).arcs;rw[xz hj];exact ha,rfl,fun q _ _=>rfl⟩,fun i b hi _ hb=>by
   obtain⟨x,hx⟩:=mem hi;rw[xz hx]at hb;exact⟨i,x,hx,rfl,hb⟩,fun i hi _ k=>by
   obtain⟨x,hx⟩:=mem hi;have:eP [] (bQ (L.map Et) i).kind=0:=by simp[eP]
   rw[this,Nat.zero_testBit];exact⟨fun e=>(by cases e),fun g=>(by have:=g i x hx rfl;simp[eP]at this)⟩⟩⟩
 obtain⟨out,C',r',g1,g2⟩:=ie hL (show N<=1000 by omega) hn n 0 (tdo r N) (L.map aO.Arcs) (A9 0 N) (L.map Et) id (by rw[List.drop_zero];exact BK) qq0 qq0 qq0;rw[List.drop_zero]at g2;rw[zV]at g1;refine⟨out,r',?_,g2.ck,g2.clo hL,fun i j hi hj e=>?_,fun q hq hu i j hi hj e=>?_⟩;rw[Qi,mH,hap,aM,fW qq0,zZ,l1,Rq,g1];have key:∀i,i<N->r' i=r' (r i):=fun i hi=>by by_cases e:r i=i;rw[e];have:=g2.prs ((i:Int),(r i:Int)) (List.mem_map.2 ⟨⟨(i:Int),(r i:Int)⟩,List.mem_map.2 ⟨i,List.mem_filter.2 ⟨List.mem_range.2 hi,by simpa using e⟩,rfl⟩,rfl⟩);simpa using this
 rw[key i hi,key j hj,e];refine(g2.und q hq ⟨fun i j _ _ e=>by rw[show i=j from e],fun p hp=>?_⟩).r i j hi hj e;obtain⟨z,hz,rfl⟩:=List.mem_map.1 hp;obtain⟨k,hk,rfl⟩:=List.mem_map.1 hz;have hkN:=List.mem_range.1 (List.mem_filter.1 hk).1;simp only[ua,zZ];exact hu k (r k) hkN (h.lt hkN) (h.idem k hkN).symm
def z2a{a b:Nat}(ha:a<4611686018427387904)(hb:b<4611686018427387904)(hn:5<=n):H8 n (bt a) (bt b)=some (bt (a&&&b)):=by obtain⟨k,rfl⟩:=Nat.exists_eq_add_of_le' hn;by_cases h:a=0;subst h;rw[Nat.zero_and];have:=wj (n:=k+5) hn;simp only[H8,QA,Iq,zS,NW,this,aM];rfl;have h1:=Q2 (a:=a) (b:=b) qq0 qq0;have h2:=wi (w:=a&&&b) (n:=k+5) hn;have e:H8 (k+5) [(a:Int)] (bt b)=a8 (S7 (k+5) (bt b) 0) fun kA=>aF ((0+1)*8<=140737488355328/\0+1<=140737488355328) (NW (k+5) [K5 .u64 (a:Int) kA]):=rfl;rw[qW h,e,ik,aM,fW qq0,NW,h1,h2];rfl
def z2j{h:cZ}{ws:X Nat}(hh:nT h ws){c:Nat}{n:Nat}(hn:5<=n):∀(m i:Nat),ws.length-i<m->i<=ws.length->(∀(k:Nat),k<i->ws[k]? ≠some c)->
  (c∈ws->∃k:Nat,YX h (bt c) n m (i:Int)=some ((k:Int),true)/\ws[k]? = some c)/\(c ∉ ws->YX h (bt c) n m (i:Int)=some (0,false))
 |0,i,hm,_,_=>by omega
 |m+1,i,hm,hi,eT=>by have hl:=hh.tl;have hln:=hh.len;unfold YX;by_cases aE:i<ws.length;obtain⟨w,hw,yU⟩:=fP aE;obtain⟨t,ht,he⟩:=hh.at hw;simp only[hl,jB aE,zC,cP,ht,aM,he,e_ hn,kX aE (show ws.length<=9223372036854775807 by omega)];by_cases e:w=c;simp only[e,yC,zC];exact⟨fun _=>⟨i,rfl,by rw[hw,e]⟩,fun q=>absurd (e ▸ yU) q⟩;simp only[e,yB,zD];exact z2j hh hn m (i+1) qq0 qq0 (fun k hk=>by by_cases e2:k=i;subst e2;rw[hw];intro q;exact e (Option.some.inj q);exact eT k qq0);simp only[hl,jV aE,zD,yq];refine⟨fun hc=>?_,fun _=>trivial⟩;obtain⟨q,hq⟩:=List.mem_iff_getElem?.1 hc;have:=(zG.1 hq).1;exact absurd hq (eT q qq0)
def XK{h:cZ}{ws:X Nat}(hh:nT h ws){s t:Int}(hs:0<=s/\s<(ws.length:Int))(ht:0<=t/\t<(ws.length:Int))(hn:2000<=n):
  ∃r,Px n h s t=some r/\(r.2=false->eP ws s&&&eP ws t=0)/\(r.2=true->(0<=r.1/\r.1<(ws.length:Int))/\eP ws r.1=eP ws s&&&eP ws t):=by
 have c1:=FC hs;have c2:=FC ht;obtain⟨x,hx,ex⟩:=hh.at c1;obtain⟨y,hy,ey⟩:=hh.at c2;have m1:=zX c1;have m2:=zX c2;have hln:=hh.len;have i1:aB h.Types s=some x:=by rw[show s=((s.toNat:Nat):Int) by omega,cP];exact hx
 have i2:aB h.Types t=some y:=by rw[show t=((t.toNat:Nat):Int) by omega,cP];exact hy
 obtain⟨f1,f2⟩:=z2j hh (c:=eP ws s&&&eP ws t) (n:=n) qq0 n 0 qq0 qq0 (fun k hk=>qq0);rw[zV]at f1 f2;simp only[Px,i1,i2,aM,ex,ey,z2a (hh.ok _ m1).2 (hh.ok _ m2).2 (show 5<=n by omega),ku];by_cases e:eP ws s&&&eP ws t=0;rw[f2 (fun q=>(hh.ok _ q).1 e)];exact⟨_,rfl,fun _=>e,fun q=>by cases q⟩;obtain⟨k,g1,g2⟩:=f1 (hh.cls _ m1 _ m2 e);rw[g1];refine⟨_,rfl,(fun q=>by cases q),fun _=>⟨?_,?_⟩⟩;have:=(zG.1 g2).1;simp only;omega;simp only[eP,zZ,g2,Option.getD_some]
structure TI(ws:X Nat)(N:Nat)(L:X aO)(r:Nat->Nat)(i:Nat)(o:X Int):Prop where
 len:o.length=N
 at_:∀c,c<N->∃t,o[c]? = some t/\(0<=t/\t<(ws.length:Int))/\∀k,(eP ws t).testBit k=true↔(eP ws 0).testBit k=true/\∀(j:Nat)(x:aO),j<i->L[j]? = some x->r j=c->(eP ws x.Typex).testBit k=true
def KOk(ws:X Nat)(L:X aO):Prop:=∀x∈L,0<=x.Typex/\x.Typex<(ws.length:Int)
def qwq{h:cZ}{ws:X Nat}(hh:nT h ws){N:Nat}{L:X aO}(mH:L.length=N)(hN:N<=1000)(hk:KOk ws L){cl:X Int}{r:Nat->Nat}(hc:CK N cl r){n:Nat}(hn:2000<=n):∀(m i:Nat)(o:X Int),N-i<m->i<=N->TI ws N L r i o->
  (∃o',TI ws N L r N o'/\Z1 h L cl n m (i:Int) o=Rl L cl n o')\/(Z1 h L cl n m (i:Int) o=some ([],false)/\∃c,c<N/\∀k,¬ ((eP ws 0).testBit k=true/\∀(j:Nat)(x:aO),L[j]? = some x->r j=c->(eP ws x.Typex).testBit k=true))
 |0,i,o,hm,_,_=>by omega
 |m+1,i,o,hm,hi,hI=>by
  unfold Z1;by_cases aE:i<N;have fJ:i<L.length:=by omega
  obtain⟨x,hx,g8⟩:=fP fJ;have vM:=hc.lt aE;obtain⟨t,t1,t2,t3⟩:=hI.at_ (r i) vM;have hv:i9 o 0 L.length (r i:Int)=some t:=xy qq0 t1;obtain⟨q,q1,q2,q3⟩:=XK hh t2 (hk x g8) hn;simp only[jB fJ,zC,cP,hc.get i aE,aM,hv,hx,q1,zZ,kX fJ (show L.length<=9223372036854775807 by omega)];cases hb:q.2 with
  |false=>refine .inr ⟨by simp only[Bool.not_false,zC],r i,vM,fun k jS=>?_⟩;have h0:=q2 hb;have:=congrArg (fun z=>z.testBit k) h0;simp only[Nat.testBit_and,Nat.zero_testBit,Bool.and_eq_false_iff]at this;rcases this with g |g;have:=(t3 k).2 ⟨jS.1,fun j y hj hy hr=>jS.2 j y hy hr⟩;rw[g]at this;cases this;have:=jS.2 i x hx rfl;rw[g]at this;cases this
  |true=>obtain⟨q4,q5⟩:=q3 hb;simp only[Bool.not_true,zD];refine qwq hh mH hN hk hc hn m (i+1) (o.set (r i) q.1) qq0 qq0 ⟨by simp[hI.len],fun c CV=>?_⟩;by_cases e:r i=c;subst e;refine⟨q.1,by rw[List.getElem?_set_self (by rw[hI.len];exact vM)],q4,fun k=>?_⟩;rw[q5,Nat.testBit_and,Bool.and_eq_true,t3];constructor;rintro⟨⟨g1,g2⟩,g3⟩;refine⟨g1,fun j y hj hy hr=>?_⟩;by_cases ej:j=i;subst ej;rw[hx]at hy;cases hy;exact g3;exact g2 j y qq0 hy hr;rintro⟨g1,g2⟩;exact⟨⟨g1,fun j y hj hy hr=>g2 j y qq0 hy hr⟩,g2 i x qq0 hx rfl⟩;obtain⟨t',u1,u2,u3⟩:=hI.at_ c CV;refine⟨t',by rw[List.getElem?_set_ne e];exact u1,u2,fun k=>?_⟩;rw[u3];constructor;rintro⟨g1,g2⟩;refine⟨g1,fun j y hj hy hr=>?_⟩;by_cases ej:j=i;subst ej;exact absurd hr e;exact g2 j y qq0 hy hr;rintro⟨g1,g2⟩;exact⟨g1,fun j y hj hy hr=>g2 j y qq0 hy hr⟩
  have:i=N:=by omega
  subst this;have fJ:¬ i<L.length:=by omega
  simp only[jV fJ,zD];exact .inl ⟨o,hI,rfl⟩
def qwr{N:Nat}{L:X aO}(mH:L.length=N)(hN:N<=1000){cl:X Int}{r:Nat->Nat}(hc:CK N cl r){o0:X Int}(ho:o0.length=N):∀(m i:Nat)(o:X Int),N-i<m->i<=N->o.length=N->(∀c,c<N->o[c]? = if c<i then o0[r c]? else o0[c]?)->
  ∃o',Ja L cl m (i:Int) o=some (o',true)/\o'.length=N/\∀c,c<N->o'[c]? = o0[r c]?
 |0,i,o,hm,_,_,_=>by omega
 |m+1,i,o,hm,hi,BC,hI=>by
  unfold Ja;by_cases aE:i<N;have fJ:i<L.length:=by omega
  have vM:=hc.lt aE;have pU:=hc.le i aE;have jX:=hc.idem i aE;have Xr:∀c,c<N->∃v,o0[c]? = some v:=fun c CV=>⟨_,List.getElem?_eq_getElem qq0⟩;obtain⟨v,hv⟩:=Xr (r i) vM;have h1:o[r i]? = some v:=by rw[hI _ vM];split;rw[jX];exact hv;exact hv
  obtain⟨w,hw⟩:=Xr i aE;have h2:o[i]? = some w:=by rw[hI i aE,if_neg qq0];exact hw
  simp only[jB fJ,zC,cP,hc.get i aE,aM,xy (show r i<L.length by omega) h1,xy fJ h2,zZ,kX fJ (show L.length<=9223372036854775807 by omega)];refine qwr mH hN hc ho m (i+1) (o.set i v) qq0 qq0 (by simp[BC]) fun c CV=>?_;by_cases e:i=c;subst e;rw[List.getElem?_set_self qq0,if_pos qq0,hv];rw[List.getElem?_set_ne e,hI c CV];by_cases e2:c<i;rw[if_pos e2,if_pos qq0];rw[if_neg e2,if_neg qq0];have:i=N:=by omega
  subst this;have fJ:¬ i<L.length:=by omega
  rw[jV fJ];simp only[zD,lm,mH,zZ];rw[fW BC.symm];exact⟨o,rfl,BC,fun c CV=>by rw[hI c CV,if_pos CV]⟩
structure qb(ws:X Nat)(N:Nat)(L:X aO)(r:Nat->Nat)(o:X Int):Prop where
 len:o.length=N
 at_:∀i,i<N->∃t,o[i]? = some t/\(0<=t/\t<(ws.length:Int))/\∀k,(eP ws t).testBit k=true↔∀(j:Nat)(x:aO),L[j]? = some x->r j=r i->(eP ws x.Typex).testBit k=true
def z6n{h:cZ}{ws:X Nat}(hh:nT h ws)(mH:L.length=N)(hN:N<=1000)(hk:KOk ws L){cl:X Int}(hc:CK N cl r)(hn:2000<=n):
  (∃o,Ic n h L cl=some (o,true)/\qb ws N L r o/\¬ VW ws L r)\/(Ic n h L cl=some ([],false)/\VW ws L r):=by
 have iQ:=hh.pos;have B6:∀(j:Nat)(x:aO)(k:Nat),L[j]? = some x->(eP ws x.Typex).testBit k=true->(eP ws 0).testBit k=true:=fun j x k hj hb=>by have hm:=zX (FC (hk x (zX hj)));have:=congrArg (fun z=>z.testBit k) (hh.top _ hm);simp only[Nat.testBit_and,hb,Bool.and_true]at this;exact this
 have h0:TI ws N L r 0 (List.replicate N 0):=⟨by simp,fun c CV=>⟨0,by rw[List.getElem?_replicate,if_pos CV],⟨by omega,by omega⟩,fun k=>⟨fun g=>⟨g,fun j x hj=>qq0⟩,fun g=>g.1⟩⟩⟩;have:=qwq hh mH hN hk hc hn n 0 (List.replicate N 0) qq0 qq0 h0;rw[zV]at this;simp only[Ic,mH,zZ];rw[fW qq0];rcases this with⟨o',g1,g2⟩|⟨g1,c,CV,g2⟩;refine .inl ?_;obtain⟨o,p1,p2,p3⟩:=qwr mH hN hc g1.len n 0 o' qq0 qq0 g1.len (fun c CV=>by rw[if_neg qq0]);rw[zV]at p1;have zR:∀i,i<N->∃t,o[i]? = some t/\(0<=t/\t<(ws.length:Int))/\∀k,(eP ws t).testBit k=true↔∀(j:Nat)(x:aO),L[j]? = some x->r j=r i->(eP ws x.Typex).testBit k=true:=fun i hi=>by obtain⟨t,t1,t2,t3⟩:=g1.at_ (r i) (hc.lt hi);refine⟨t,by rw[p3 i hi];exact t1,t2,fun k=>?_⟩;rw[t3];constructor;rintro⟨_,q2⟩ j x hj hr;exact q2 j x (by have:=(zG.1 hj).1;omega) hj hr;intro q;refine⟨?_,fun j x _ hj hr=>q j x hj hr⟩;have hx:L[i]? = some L[i]:=List.getElem?_eq_getElem qq0;exact B6 i _ k hx (q i _ hx rfl)
 refine⟨o,by rw[g2,Rl,p1],⟨p2,zR⟩,fun⟨i,hi,hb⟩=>?_⟩;rw[mH]at hi;obtain⟨t,t1,t2,t3⟩:=zR i hi;obtain⟨k,jS⟩:=Nat.exists_testBit_of_ne_zero (hh.ok _ (zX (FC t2))).1;obtain⟨j,x,q1,q2,q3⟩:=hb k;have:=(t3 k).1 jS j x q1 q2;rw[q3]at this;cases this;refine .inr ⟨g1,?_⟩;have hz:∃i,i<N/\r i=c:=by refine Classical.byContradiction fun eT=>?_;have cR:=(hh.ok _ (zX (FC (ws:=ws) (t:=0) ⟨by omega,by omega⟩))).1;obtain⟨k,jS⟩:=Nat.exists_testBit_of_ne_zero cR;exact g2 k ⟨jS,fun j x hj hr=>absurd ⟨j,by have:=(zG.1 hj).1;omega,hr⟩ eT⟩
 obtain⟨i,hi,rfl⟩:=hz;refine⟨i,by omega,fun k=>Classical.byContradiction fun eT=>?_⟩;have bY:∀(j:Nat)(x:aO),L[j]? = some x->r j=r i->(eP ws x.Typex).testBit k=true:=fun j x hj hr=>by rcases hb:(eP ws x.Typex).testBit k with _|_;exact absurd ⟨j,x,hj,hr,hb⟩ eT;rfl
 have hx:L[i]? = some L[i]:=List.getElem?_eq_getElem qq0;exact g2 k ⟨B6 i _ k hx (bY i _ hx rfl),bY⟩
def z8i{x4:aO}{f:Int}(hl:x4.Arcs.length<=1000000):∀(m i:Nat),x4.Arcs.length-i<m->i<=x4.Arcs.length->Is f x4 m (i:Int)=some (match (x4.Arcs.drop i).find? fun x=>x.Feat==f with |some x=>(x.To,true)|none=>(0,false))
 |0,i,hm,_=>by omega
 |m+1,i,hm,hi=>by unfold Is;by_cases aE:i<x4.Arcs.length;obtain⟨x,hx,_⟩:=fP aE;simp only[jB aE,zC,cP,hx,aM,kX aE (show x4.Arcs.length<=9223372036854775807 by omega),aX hx,List.find?_cons];rcases e:x.Feat==f with _|_;simp only[zD];exact z8i hl m (i+1) qq0 qq0;simp only[zC];simp only[jV aE,zD,bW aE,yj,List.find?_nil]
def zap{g:X aO}{c:Nat}{x:aO}{f:Int}(hx:g[c]? = some x)(hl:x.Arcs.length<=1000000){n:Nat}(hn:x.Arcs.length<n):Pv n ⟨g⟩ (c:Int) f=some (match x.Arcs.find? fun x=>x.Feat==f with |some x=>(x.To,true)|none=>(0,false)):=by have:=z8i (f:=f) hl n 0 qq0 qq0;rw[zV,List.drop_zero]at this;simp only[Pv,cP,hx,aM,this]
structure QP(N:Nat)(L:X aO)(r:Nat->Nat)(ty:X Int)(P:Nat->aR->Prop)(K:Nat)(g:X aO):Prop where
 len:g.length=N
 ty:∀(c:Nat)(x:aO),g[c]? = some x->ty[c]? = some x.Typex
 ds:∀(c:Nat)(x:aO),g[c]? = some x->jC x.Arcs/\x.Arcs.length<=K
 cov:∀(j:Nat)(c:aO)(a:aR),L[j]? = some c->a∈c.Arcs->P j a->∃x b,g[r j]? = some x/\b∈x.Arcs/\b.Feat=a.Feat/\b.To=(r a.To.toNat:Int)
 snd:∀(i:Nat)(x:aO)(b:aR),g[i]? = some x->b∈x.Arcs->∃(j:Nat)(c:aO)(a:aR),L[j]? = some c/\r j=i/\a∈c.Arcs/\b.Feat=a.Feat/\b.To=(r a.To.toNat:Int)
def I'{N:Nat}{L:X aO}{cl ty:X Int}{r:Nat->Nat}(hL:A4 N [] L)(hN:N<=200)(hc:CK N cl r)(hq:o9 L r){n:Nat}(hn:1000000<=n){i:Nat}(hiN:i<N){y:aO}(hy:L[i]? = some y)(hyl:y.Arcs.length<=1200){rc:Int->X aO->V GFS}{Q:V GFS->Prop}
  (IA:∀g,QP N L r ty (fun j _=>j<i+1) (1200*(i+1)) g->Q (rc (IntKind.i64.wrap ((i:Int)+1)) g)):∀(m k:Nat)(g:X aO),y.Arcs.length-k<m->k<=y.Arcs.length->QP N L r ty (fun j a=>j<i\/(j=i/\a∈y.Arcs.take k)) (1200*i+k) g->
  Q (SL L cl n (i:Int) rc (r i:Int) m (k:Int) g)
 |0,k,g,hm,_,_=>by omega
 |m+1,k,g,hm,hk,hI=>by
  unfold SL;have uK:=hI.len;have vM:=hc.lt hiN;by_cases aE:k<y.Arcs.length;obtain⟨a,ha,BL⟩:=fP aE;obtain⟨x,hx⟩:∃x,g[r i]? = some x:=⟨_,List.getElem?_eq_getElem qq0⟩;obtain⟨hxd,LU⟩:=hI.ds _ x hx;have hw:IntKind.i64.wrap ((k:Int)+1)=((k+1:Nat):Int):=kX aE qq0;have pS:=hL.ar i y a hy BL;have hct:=hc.at pS;simp only[cP,hy,aM,jB aE,zC,ha,zap (f:=a.Feat) hx (show x.Arcs.length<=1000000 by omega) (show x.Arcs.length<n by omega),Sq,hw];have Bi:∀b,b∈y.Arcs.take (k+1)↔b∈y.Arcs.take k\/b=a:=fun b=>by rw[jG ha,yD,List.mem_singleton]
  cases hf:x.Arcs.find? (fun w=>w.Feat==a.Feat)with
  |some w=>
   have yU:=List.mem_of_find?_eq_some hf;have ON:w.Feat=a.Feat:=by have:=List.find?_some hf;simpa using this
   simp only[Bool.not_true,zD];refine I' hL hN hc hq hn hiN hy hyl IA m (k+1) g qq0 qq0 ⟨hI.len,hI.ty,fun c z hz=>⟨(hI.ds c z hz).1,by have:=(hI.ds c z hz).2;omega⟩,fun j c b hj hb hP=>?_,hI.snd⟩;rcases hP with hP |⟨rfl,hP⟩;exact hI.cov j c b hj hb (.inl hP);rcases(Bi b).1 hP with hP |rfl;exact hI.cov _ c b hj hb (.inr ⟨rfl,hP⟩);obtain⟨j',c',a',p1,p2,p3,p4,p5⟩:=hI.snd _ x w hx yU;refine⟨x,w,hx,yU,ON,?_⟩;rw[p5,hq j' _ c' c a' b p1 hj p2 p3 hb qq0]
  |none=>
   have eT:∀w∈x.Arcs,w.Feat≠a.Feat:=fun w hw e=>by have:=List.find?_eq_none.1 hf w hw;simp[e]at this
   simp only[Bool.not_false,zC,hx,aM,hct,zZ,Nat.zero_add];rw[fW qq0];have B8:∀c z,(g.set (r i) ⟨x.Typex,x.Arcs++[⟨a.Feat,(r a.To.toNat:Int)⟩]⟩)[c]? = some z->(c=r i/\z=⟨x.Typex,x.Arcs++[⟨a.Feat,(r a.To.toNat:Int)⟩]⟩)\/(c≠r i/\g[c]? = some z):=fun c z hz=>by by_cases e:r i=c;subst e;rw[List.getElem?_set_self qq0]at hz;exact .inl ⟨rfl,(Option.some.inj hz).symm⟩;rw[List.getElem?_set_ne e]at hz;exact .inr ⟨fun q=>e q.symm,hz⟩
   refine I' hL hN hc hq hn hiN hy hyl IA m (k+1) _ qq0 qq0 ⟨by rw[List.length_set];exact hI.len,fun c z hz=>?_,fun c z hz=>?_,fun j c b hj hb hP=>?_,fun j z b hz hb=>?_⟩;rcases B8 c z hz with⟨rfl,rfl⟩|⟨_,hz⟩;exact hI.ty _ x hx;exact hI.ty c z hz;rcases B8 c z hz with⟨rfl,rfl⟩|⟨_,hz⟩;refine⟨?_,by simp only[zU,zO,zS];omega⟩;unfold jC at*;rw[List.pairwise_append];exact⟨hxd,List.pairwise_singleton _ _,fun w hw v hv=>by simp at hv;subst hv;exact eT w hw⟩;exact⟨(hI.ds c z hz).1,by have:=(hI.ds c z hz).2;omega⟩;have old:(j<i\/(j=i/\b∈y.Arcs.take k))->∃x' b',(g.set (r i) ⟨x.Typex,x.Arcs++[⟨a.Feat,(r a.To.toNat:Int)⟩]⟩)[r j]? = some x'/\b'∈x'.Arcs/\b'.Feat=b.Feat/\b'.To=(r b.To.toNat:Int):=fun hp=>by obtain⟨x',b',q1,q2,q3,q4⟩:=hI.cov j c b hj hb hp;by_cases e:r i=r j;rw[<-e,hx]at q1;cases q1;exact⟨_,b',by rw[<-e,List.getElem?_set_self qq0],List.mem_append_left _ q2,q3,q4⟩;exact⟨x',b',by rw[List.getElem?_set_ne e];exact q1,q2,q3,q4⟩
   rcases hP with hP |⟨rfl,hP⟩;exact old (.inl hP);rcases(Bi b).1 hP with hP |rfl;exact old (.inr ⟨rfl,hP⟩);exact⟨_,⟨b.Feat,(r b.To.toNat:Int)⟩,List.getElem?_set_self qq0,List.mem_append_right _ (List.mem_singleton.2 rfl),rfl,rfl⟩;rcases B8 j z hz with⟨rfl,rfl⟩|⟨_,hz⟩;rcases yD.1 hb with hb |hb;exact hI.snd _ x b hx hb;simp at hb;subst hb;exact⟨i,y,a,hy,rfl,BL,rfl,rfl⟩;exact hI.snd j z b hz hb
  have:k=y.Arcs.length:=by omega
  subst this;simp only[cP,hy,aM,jV aE,zD,sr];rw[List.take_length]at hI;refine IA g ⟨hI.len,hI.ty,fun c z hz=>⟨(hI.ds c z hz).1,by have:=(hI.ds c z hz).2;omega⟩,fun j c b hj hb hP=>?_,hI.snd⟩;by_cases e:j=i;subst e;rw[hy]at hj;cases hj;exact hI.cov _ _ b hy hb (.inr ⟨rfl,hb⟩);exact hI.cov j c b hj hb (.inl qq0)
def z8b{N:Nat}{L:X aO}{cl ty:X Int}{r:Nat->Nat}(hL:A4 N [] L)(hN:N<=200)(hc:CK N cl r)(hq:o9 L r)(lU:∀x∈L,x.Arcs.length<=1200){v:Int}{n:Nat}(hn:1000000<=n):∀(m i:Nat)(g:X aO),N-i<m->i<=N->QP N L r ty (fun j _=>j<i) (1200*i) g->
  ∃g',QP N L r ty (fun j _=>j<N) (1200*N) g'/\LJ L cl v n m (i:Int) g=Jp cl v n g'
 |0,i,g,hm,_,_=>by omega
 |m+1,i,g,hm,hi,hI=>by
  unfold LJ;have mH:=hL.len;by_cases aE:i<N;have fJ:i<L.length:=by omega
  obtain⟨y,hy,E6⟩:=fP fJ;simp only[jB fJ,zC,cP,hc.get i aE,aM];have:=I' (ty:=ty) hL hN hc hq hn aE hy (lU y E6) (rc:=LJ L cl v n m) (Q:=fun o=>∃g',QP N L r ty (fun j _=>j<N) (1200*N) g'/\o=Jp cl v n g') (fun g hg=>by rw[kX fJ qq0];exact z8b hL hN hc hq lU hn m (i+1) g qq0 qq0 hg) n 0 g (by have:=lU y E6;omega) qq0 ⟨hI.len,hI.ty,fun c x hx=>by have:=hI.ds c x hx;exact⟨this.1,by omega⟩,fun j c a hj ha hP=>by rcases hP with hP |⟨_,hP⟩;exact hI.cov j c a hj ha hP;simp at hP,hI.snd⟩;rw[zV]at this;exact this;have:i=N:=by omega
  subst this;have fJ:¬ i<L.length:=by omega
  rw[jV fJ];exact⟨g,hI,rfl⟩
def z8a{N:Nat}{L:X aO}{cl ty:X Int}(mH:L.length=N)(hN:N<=200)(ht:ty.length=N){v:Int}{n:Nat}:∀(m i:Nat),N-i<m->i<=N->
  Jo L cl ty v n m (i:Int) ((ty.take i).map fun t=>aO.mk t [])=Sp L cl v n (ty.map fun t=>aO.mk t [])
 |0,i,hm,_=>by omega
 |m+1,i,hm,hi=>by
  unfold Jo;by_cases aE:i<N;have fJ:i<L.length:=by omega
  obtain⟨t,hx,_⟩:=fP (l:=ty) (show i<ty.length by omega);have ih:=z8a (cl:=cl) (v:=v) (n:=n) mH hN ht m (i+1) qq0 qq0;rw[jG hx,List.map_append]at ih;simp only[jB fJ,zC,cP,hx,aM,kX fJ (show L.length<=9223372036854775807 by omega)];rw[fW (by simp only[yA,List.length_take];omega)];exact ih;have:i=N:=by omega
  subst this;have fJ:¬ i<L.length:=by omega
  rw[jV fJ,zW qq0];rfl
def zab{ws:X Nat}{N:Nat}{L:X aO}{cl ty:X Int}{r:Nat->Nat}(hL:A4 N [] L)(hN:N<=200)(hc:CK N cl r)(hq:o9 L r)(lU:∀x∈L,x.Arcs.length<=1200/\∀a∈x.Arcs,0<=a.Feat)(wS:qb ws N L r ty){n:Nat}(hn:1000000<=n){v:Int}(hv:0<=v/\v<(N:Int)):
  ∃g,QG ws L r ⟨g⟩/\kT ⟨g⟩/\Rm n L cl ty v=some (cO ⟨g⟩ (r v.toNat:Int)):=by
 have mH:=hL.len;have h1:=z8a (cl:=cl) (v:=v) (n:=n) mH hN wS.len n 0 qq0 qq0;rw[zV,List.take_zero,List.map_nil]at h1;have h0:QP N L r ty (fun j _=>j<0) (1200*0) (ty.map fun t=>aO.mk t []):=⟨by simp[wS.len],fun c x hx=>by
   rw[List.getElem?_map]at hx;rcases e:ty[c]? with _|t;rw[e]at hx;cases hx;rw[e]at hx;cases hx;rfl,fun c x hx=>by
   rw[List.getElem?_map]at hx;rcases e:ty[c]? with _|t;rw[e]at hx;cases hx;rw[e]at hx;cases hx;exact⟨List.Pairwise.nil,zF _⟩,fun j c a _ _ h=>absurd h qq0,fun i x b hx hb=>by
   rw[List.getElem?_map]at hx;rcases e:ty[i]? with _|t;rw[e]at hx;cases hx;rw[e]at hx;cases hx;cases hb⟩
 obtain⟨g,g1,g2⟩:=z8b hL hN hc hq (fun x hx=>(lU x hx).1) (v:=v) hn n 0 _ qq0 qq0 h0;rw[zV]at g2;have mem:∀{i:Nat},i<N->∃x,L[i]? = some x:=fun{i} hi=>⟨_,List.getElem?_eq_getElem qq0⟩;have tyat:∀c x,g[c]? = some x->c<N/\(0<=x.Typex/\x.Typex<(ws.length:Int))/\∀k,(eP ws x.Typex).testBit k=true↔∀(j:Nat)(y:aO),L[j]? = some y->r j=r c->(eP ws y.Typex).testBit k=true:=fun c x hx=>by
  have CV:c<N:=by have:=(zG.1 hx).1;have:=g1.len;omega
  obtain⟨t,t1,t2,t3⟩:=wS.at_ c CV;have:=g1.ty c x hx;rw[t1]at this;cases this;exact⟨CV,t2,t3⟩
 have hQ:QG ws L r ⟨g⟩:=⟨by show g.length=_;rw[g1.len,mH],fun i hi=>by rw[mH]at hi ⊢;exact⟨hc.lt hi,hc.idem i hi⟩,fun i x hx hr=>by obtain⟨_,t2,t3⟩:=tyat i x hx;rw[hr]at t3;exact⟨t2,t3⟩,fun i x hx _=>(g1.ds i x hx).1,fun j c a hj ha=>g1.cov j c a hj ha (by have:=(zG.1 hj).1;omega),fun i x b hx _ hb=>g1.snd i x b hx hb⟩;have hG:kT ⟨g⟩:=fun x hx=>by obtain⟨i,hi⟩:=List.getElem?_of_mem hx;refine⟨(tyat i x hi).2.1.1,(g1.ds i x hi).1,fun b hb=>?_⟩;obtain⟨j,c,a,q1,q2,q3,q4,q5⟩:=g1.snd i x b hi hb;have pS:=hL.ar j c a q1 q3;have:=hc.lt (i:=a.To.toNat) qq0;have hf:=(lU c (zX q1)).2 a q3;have uK:(GFS.mk g).Nodes.length=N:=g1.len;rw[uK];exact⟨by omega,by omega,by omega⟩
 refine⟨g,hQ,hG,?_⟩;have hrv:=hc.lt (i:=v.toNat) qq0;have hS:dI ⟨g⟩ 300000:=⟨by show g.length<=300000;rw[g1.len];omega,fun x hx=>by obtain⟨i,hi⟩:=List.getElem?_of_mem hx;have:=(g1.ds i x hi).2;omega⟩;have fG:=qzp hG hS qq0 (r:=(r v.toNat:Int)) ⟨by omega,by show _<((g.length:Nat):Int);rw[g1.len];omega⟩ (n:=n) qq0;rw[Rm,h1,Sp,g2];simp only[Jp,hc.at hv,aM,fG]
def GL:V GFS->GFS×PE
 |some g=>(g,true)|none=>(⟨[]⟩,false)
def zad{h:cZ}{ws:X Nat}(hh:nT h ws){f g:GFS}(hf:kT f)(hg:kT g)(kf:KG ws f)(kg:KG ws g)(lf:0<f.Nodes.length)(lg:0<g.Nodes.length)(hN:f.Nodes.length+g.Nodes.length<=200)
  (af:∀x∈f.Nodes,x.Arcs.length<=1200) (ag:∀x∈g.Nodes,x.Arcs.length<=1200) {n:Nat} (hn:2000000<=n):
  ∃res,Qg n h f g=some (GL res)/\UA ws (Lj f g) [(0,f.Nodes.length)] 0 res:=by
 have Kl:=tq hf hg kf kg;have hl:=xj f g;generalize hNN:f.Nodes.length+g.Nodes.length=N at*;have mem:∀c∈Lj f g,c.Arcs.length<=1200/\∀a∈c.Arcs,0<=a.Feat:=fun c hc=>by rcases yD.1 hc with hc |hc;exact⟨af c hc,fun a ha=>((hf c hc).arc a ha).1⟩;obtain⟨x,hx,rfl⟩:=List.mem_map.1 hc;refine⟨by simpa[KL]using ag x hx,fun a ha=>?_⟩;obtain⟨b,hb,rfl⟩:=List.mem_map.1 ha;exact((hg x hx).arc b hb).1
 have hL:A4 N [] (Lj f g):=⟨hl,fun j c a hj ha=>by have:=Kl.to c (zX hj) a ha;rw[hl]at this;exact this⟩;have e1:Hy n f.Nodes g.Nodes=some (Lj f g):=z8w qq0 qq0 (fun x hx=>⟨ag x hx,fun a ha=>by have:=(hg x hx).arc a ha;omega⟩) qq0;have e2:Ie n ((Lj f g).length:Int)=some (A9 0 N):=by rw[hl];exact quf qq0 qq0
 have c0:CK N (A9 0 N) (fun i=>i):=⟨iy ..,fun i hi=>z2l hi,fun i _=>zF i,fun _ _=>rfl⟩;have e3:=z2k c0 qq0 (a:=0) (b:=(f.Nodes.length:Int)) qq0 qq0 (n:=n) qq0;have c1:=c0.mrg (a:=0) (b:=f.Nodes.length) qq0 qq0;simp only[zZ,Int.toNat_zero]at e3;obtain⟨out,r',e4,Ww⟩:=z4k hL hN (fun x hx=>⟨Kl.ds x hx,(mem x hx).1⟩) c1 hn;have ba:min 0 f.Nodes.length=0:=by omega
 have hmx:max 0 f.Nodes.length=f.Nodes.length:=by omega
 have low:∀q,o9 (Lj f g) q->EM q [(0,f.Nodes.length)]->∀i j,i<N->j<N->r' i=r' j->q i=q j:=fun q hq hp i j hi hj he=>by
  refine Ww.low q hq (fun i j hi hj e=>?_) i j hi hj he;have h0:q 0=q f.Nodes.length:=hp (0,f.Nodes.length) (List.mem_singleton.2 rfl);have key:∀i,q (fZ (fun i=>i) 0 f.Nodes.length i)=q i:=fun i=>by by_cases p:i=f.Nodes.length;rw[p];simp only[fZ,if_true];exact h0;simp only[fZ,if_neg p]
  rw[ba,hmx]at e;rw[<-key i,<-key j,e]
 have h0f:r' 0=r' f.Nodes.length:=Ww.up 0 f.Nodes.length qq0 qq0 (by rw[ba,hmx];simp[fZ]);have tk:=z6n hh hl qq0 Kl.ty Ww.ck (n:=n) qq0;simp only[Qg,e1,e2,e3,e4,aM];rcases tk with⟨o,t1,t2,t3⟩|⟨t1,t2⟩;obtain⟨gr,q1,q2,q3⟩:=zab hL hN Ww.ck Ww.clo mem t2 (n:=n) qq0 (v:=0) qq0;simp only[t1,aM,Bool.not_true,zD,q3];refine⟨some (cO ⟨gr⟩ ((r' 0:Nat):Int)),rfl,⟨(fun e=>nomatch e),fun x hx=>?_⟩⟩;cases hx;refine⟨r',⟨gr⟩,⟨q1.hm,q2,fun i y hi hy=>(q1.kd (r' i) y hy (q1.rt i hi).2).1,fun p hp=>?_,fun q hq hp i j hi hj he=>low q hq hp i j qq0 qq0 he⟩,rfl⟩;rw[List.mem_singleton]at hp;subst hp;exact h0f;simp only[t1,aM,Bool.not_false,zC];refine⟨none,rfl,⟨fun _ q hq hp=>?_,fun x hx=>nomatch hx⟩⟩;obtain⟨i,hi,hb⟩:=t2;refine⟨i,hi,fun k=>?_⟩;obtain⟨j,c,k1,k2,k3⟩:=hb k;have:=(zG.1 k1).1;exact⟨j,c,k1,low q hq hp j i qq0 qq0 k2,k3⟩
section
variable{H:cZ}{ws:X Nat}{P:PP}{fs:X GFS}{z e j:Nat}
structure Lm(P P':PP)(t:X GFS):Prop where
 le:P.N.length<=P'.N.length
 no:t=[]->P'.N.length=P.N.length
 yes:t=[]\/∃f,t=[f]/\P'.N.length<=P.N.length+f.Nodes.length
def Lm.refl(P:PP):Lm P P []:=⟨zF _,fun _=>rfl,.inl rfl⟩
variable{n:Nat}
def m_{k:Int}:HA n ⟨H,fs⟩ k=some (match fs[k.toNat]? with |some f=>if 0<=k then(f,true)else(⟨[]⟩,false)|none=>(⟨[]⟩,false)):=by
 by_cases h0:k<0;simp only[HA,decide_eq_true h0,zC,aM];rcases fs[k.toNat]? with _|f;rfl;simp only;rw[if_neg qq0];have hk:0<=k:=by omega
 obtain⟨m,rfl⟩:=Int.eq_ofNat_of_zero_le hk;simp only[HA,decide_eq_false h0,zD,aM,zZ];by_cases h1:m<fs.length;obtain⟨f,hf⟩:=fE h1;rw[decide_eq_false qq0,zD,cP,hf];simp only[aM,if_pos hk];rw[decide_eq_true qq0,List.getElem?_eq_none qq0];rfl
def ji{k:Nat}{f:GFS}(h:fs[k]? = some f):HA n ⟨H,fs⟩ (k:Int)=some (f,true):=by rw[m_,zZ,h];simp
def P_{k:Int}(h:¬ (0<=k/\k<(fs.length:Int))):HA n ⟨H,fs⟩ k=some (⟨[]⟩,false):=by
 rw[m_];split
 ·next f hf=>have:=(zG.1 hf).1;rw[if_neg qq0]
 rfl
def z1w(hl:fs.length<=1000)(f:GFS):Hv n ⟨H,fs⟩ f=some (⟨H,fs++[f]⟩,(fs.length:Int)):=by unfold Hv;dsimp only;rw[fW qq0,fW (by simp only[List.length_singleton];omega)]
def Fc(fs:X GFS)(ok:PE):Int:=if ok then(fs.length:Int)else 0
def PB.rJoint(hh:nT H ws)(p:PB H ws P fs z e j)(hz:z<=96)(hn:3000000<=n){a b:Nat}{f f':GFS}(ha:fs[a]? = some f)(hb:fs[b]? = some f'){res:V GFS}(hu:UA ws (Lj f f') [(0,f.Nodes.length)] 0 res):NS n ⟨H,fs⟩ (a:Int) (b:Int)=some (GL res):=by have r1:=p.rd ha;have r2:=p.rd hb;have h1:=r1.nl;have h2:=r2.nl;have n1:=r1.ok.ne;have n2:=r2.ok.ne;obtain⟨res',q1,q2⟩:=zad hh r1.ok.gok r2.ok.gok r1.ok.kg r2.ok.kg n1 n2 qq0 (fun x hx=>by have:=r1.al x hx;omega) (fun x hx=>by have:=r2.al x hx;omega) (n:=n) qq0;have:=UA.uniq hh.nod (fun w hw=>(hh.ok w hw).1) (tq r1.ok.gok r2.ok.gok r1.ok.kg r2.ok.kg) (by rw[xj];omega) hu q2;subst this;simp only[NS,ji ha,ji hb,aM,Bool.not_true,zD];rw[show(GFS.mk f.Nodes)=f from rfl,show(GFS.mk f'.Nodes)=f' from rfl,q1];simp only[aM]
def qnn{a b:Int}(h:¬ ((0<=a/\a<(fs.length:Int))/\0<=b/\b<(fs.length:Int))):NS n ⟨H,fs⟩ a b=some (⟨[]⟩,false):=by
 by_cases ha:0<=a/\a<(fs.length:Int);have hb:¬ (0<=b/\b<(fs.length:Int)):=fun q=>h ⟨ha,q⟩;obtain⟨m,rfl⟩:=Int.eq_ofNat_of_zero_le ha.1;obtain⟨f,hf⟩:=fE (l:=fs) (i:=m) qq0;simp only[NS,ji hf,P_ hb,aM,Bool.not_true,Bool.not_false,zD,zC];rcases hb:HA n ⟨H,fs⟩ b with _|r
 rw[m_]at hb;cases hb;simp only[NS,P_ ha,hb,aM,Bool.not_false,zC]
def at2{a b:Int}(h:(0<=a/\a<(fs.length:Int))/\0<=b/\b<(fs.length:Int)):∃(m k:Nat)(f f':GFS),a=m/\b=k/\fs[m]? = some f/\fs[k]? = some f':=by obtain⟨m,rfl⟩:=Int.eq_ofNat_of_zero_le h.1.1;obtain⟨k,rfl⟩:=Int.eq_ofNat_of_zero_le h.2.1;obtain⟨f,hf⟩:=fE (l:=fs) (i:=m) qq0;obtain⟨f',xH⟩:=fE (l:=fs) (i:=k) qq0;exact⟨m,k,f,f',rfl,rfl,hf,xH⟩
def PB.rUnify(hh:nT H ws)(p:PB H ws P fs z e j)(hj:j<=200)(hz:z<=96)(he:e<=1152)(hn:3000000<=n)(a b:Int):
  ∃ok P' t,vA n P a b=some ((Fc fs ok,ok),P')/\Ib n ⟨H,fs⟩ a b=some (⟨H,fs++t⟩,Fc fs ok,ok)/\PB H ws P' (fs++t) z e (j+1)/\Lm P P' t:=by by_cases h:(0<=a/\a<(fs.length:Int))/\0<=b/\b<(fs.length:Int);obtain⟨m,k,f,f',rfl,rfl,hf,xH⟩:=at2 h;obtain⟨res,P',g1,g2,g3,g4,g5,g6⟩:=p.unify hh hj hz he hn hf xH;have gj:=p.rJoint hh hz hn hf xH g2;refine⟨res.isSome,P',res.toList,g1,?_,g3,g4,fun e=>g5 (by cases res<;>simp_all),?_⟩;rcases res with _|f;simp only[Ib,gj,GL,aM,Bool.not_false,zC,Option.toList_none,List.append_nil,Fc];rfl;simp only[Ib,gj,GL,aM,Bool.not_true,zD,z1w (H:=H) (n:=n) (fs:=fs) (by have:=p.rl;omega)];rfl;rcases res with _|f;exact .inl rfl;exact .inr ⟨f,rfl,g6 f rfl⟩;refine⟨false,P,[],(p.out h).1,?_,by rw[List.append_nil];exact p.more (Nat.le_succ _),Lm.refl P⟩;simp only[Ib,qnn h,aM,Bool.not_false,zC,List.append_nil];rfl
def PB.rTest(hh:nT H ws)(p:PB H ws P fs z e j)(hj:j<=200)(hz:z<=96)(hn:3000000<=n)(a b:Int):
  ∃ok P',AH n P a b=some (ok,P')/\Pu n ⟨H,fs⟩ a b=some ok/\PB H ws P' fs z e (j+1)/\P'.N.length=P.N.length:=by by_cases h:(0<=a/\a<(fs.length:Int))/\0<=b/\b<(fs.length:Int);obtain⟨m,k,f,f',rfl,rfl,hf,xH⟩:=at2 h;obtain⟨res,P',g1,g2,g3,g4⟩:=p.test hh hj hn hf xH;have gj:=p.rJoint hh hz hn hf xH g2;refine⟨res.isSome,P',g1,?_,g3,g4⟩;cases res<;>simp only[Pu,gj,GL,aM]<;>rfl;exact⟨false,P,(p.out h).2,by simp only[Pu,qnn h,aM],p.more (Nat.le_succ _),rfl⟩
def PB.rRead(p:PB H ws P fs z e j)(hj:j<=200)(hz:z<=1000)(hn:3000000<=n)(k:Int):
  ∃f ok,AI n P k=some (f,ok)/\HA n ⟨H,fs⟩ k=some (f,ok)/\(ok=true↔0<=k/\k<(fs.length:Int))/\NT n f f=some true:=by by_cases h:0<=k/\k<(fs.length:Int);obtain⟨m,rfl⟩:=Int.eq_ofNat_of_zero_le h.1;obtain⟨f,hf⟩:=fE (l:=fs) (i:=m) qq0;exact⟨f,true,p.read hj hn hf,ji hf,by simp only[true_iff];exact h,p.eq hz hn hf⟩;refine⟨⟨[]⟩,false,z1d (by rw[p.has.len];exact h),P_ h,by simp only[Bool.false_eq_true,false_iff];exact h,?_⟩;have hs:dI ⟨[]⟩ 1000:=⟨by simp,fun x hx=>by cases hx⟩;rw[g_ hs hs hn,A_.2 rfl];rfl
end
end Go.Proofs
namespace Go.Proofs
open Go Go.Rx Go.Vx Tryz
set_option maxRecDepth 20000
set_option maxHeartbeats 4000000
set_option synthInstance.maxSize 4000
set_option synthInstance.maxHeartbeats 200000
structure AL(n0:Nat)(h0:X (Nat×B))(kp:Nat)(P:PP)(h:X (Nat×B))(nx:Nat)(r:B)(h1:X (Nat×B))(n1:Nat):Prop where
 pl:PL n0 h0 kp P h1 n1
 at_:gt h1 nx=some r
 lo:∀k,k<nx->gt h1 k=gt h k
 le:nx<n1
section
variable{n0:Nat}{h0:X (Nat×B)}{kp:Nat}{P:PP}{h:X (Nat×B)}{nx:Nat}
def AL.more{r:B}{h1:X (Nat×B)}{n1:Nat}(a:AL n0 h0 kp P h nx r h1 n1)(b:B):AL n0 h0 kp P h nx r ((n1,b)::h1) (n1+1):=
 ⟨a.pl.more b,by rw[jE a.le];exact a.at_,fun k hk=>by rw[jE (Nat.lt_trans hk a.le)];exact a.lo k hk,Nat.lt_succ_of_lt a.le⟩
def AL.new(p:PL n0 h0 kp P h nx)(r:B):AL n0 h0 kp P h nx r ((nx,r)::h) (nx+1):=
 ⟨p.more r,by rw[aP,if_pos rfl],fun k hk=>jE hk,zN _⟩
def z3x{n:Nat}(hn:3000000<=n){H:cZ}{ws:X Nat}{fs:X GFS}{z e j:Nat}(p:PL n0 h0 kp P h nx)(b:PB H ws P fs z e j)(hj:j<=200)(hz:z<=1000):
  aW prog 15 [.ptr kp 0 0,.agg (gZ ⟨H,fs⟩)] ⟨h,nx⟩ (fun u Y'=>u=.bool true/\Y'=⟨h,nx⟩):=by
 refine aW.wf fun tA _=>?_
 haveI:SuC nx (nx+1):=⟨rfl⟩
 have hl:=b.rl;refine eL 45 Yy ?_;refine goN ?_;refine gL (fun m tm Y=>∃(i:Nat)(h1:X (Nat×B))(n1:Nat),m=fs.length-i/\i<=fs.length/\AL n0 h0 kp P h nx (.row (gZ ⟨H,fs⟩) 35) h1 n1/\tm=fr 45 [(0,.ptr kp 0 0),(3,.ptr nx 0 0),(12,.i6 fs.length),(13,.i6 i)]/\Y=⟨h1,n1⟩)
  (fun tm Y=>∃(h1:X (Nat×B))(n1:Nat),AL n0 h0 kp P h nx (.row (gZ ⟨H,fs⟩) 35) h1 n1/\tm=fr 45 [(0,.ptr kp 0 0),(3,.ptr nx 0 0)]/\Y=⟨h1,n1⟩) (fs.length-0)
  ⟨0,_,_,rfl,Nat.zero_le _,AL.new p _,rfl,rfl⟩ ?_ ?_ (Nat.le_succ _)
 rintro _ _ ⟨h1,n1,a,rfl,rfl⟩
 haveI:SuC n1 (n1+1):=⟨rfl⟩
 haveI:eE h1 nx (.row (gZ ⟨H,fs⟩) 35):=⟨a.at_⟩
 refine goN ?_;obtain⟨f,ok,q1,_,q3,_⟩:=b.rRead hj hz hn (fs.length:Int);have q3:ok=false:=by rcases ok with _|_;rfl;have:=q3.1 rfl;omega
 subst q3;refine nF rfl (iA rfl EI rfl).2 (h_ a.pl n q1) rfl rfl ?_;rintro _ _ ⟨rfl,rfl⟩;refine goN ?_;exact qz tA rfl rfl rfl (a.more _).lo (Nat.le_of_lt (a.more (.row (kI f) 39)).le) (by simp[aT]) ⟨rfl,rfl⟩
 ·rintro m _ _ ⟨i,h1,n1,rfl,hi,a,rfl,rfl⟩
  haveI:SuC n1 (n1+1):=⟨rfl⟩
  haveI:eE h1 nx (.row (gZ ⟨H,fs⟩) 35):=⟨a.at_⟩
  haveI:Nq n1 nx:=⟨by have:=a.le;rw[beq_eq];simp;omega⟩
  refine goN ?_;refine eG rfl (fun h1=>?_) (fun h1=>?_)
  ·have lS:i<fs.length:=by simpa using h1
   obtain⟨f,TY⟩:=fE lS;have jX:aB fs (i:Int)=some f:=by rw[cP,TY]
   refine goN ?_;apply cE;refine goN ?_;refine nF rfl (iA rfl EI rfl).2 (h_ a.pl n (b.read hj hn TY)) rfl rfl ?_;rintro _ _ ⟨rfl,rfl⟩;refine goN ?_;refine dE [] ?_;refine cM ?_;refine dU jX ?_;refine cM ?_;refine dK rfl (pC (yp n f f true (b.eq hz hn TY))) IW ?_;refine cM ?_;refine bC ⟨by kernel_rfl,trivial,?_⟩;refine goN ?_;refine eG rfl (fun q=>absurd q qq3) (fun _=>?_);refine goN ?_;have kP:IntKind.i64.wrap ((i:Int)+1)=((i+1:Nat):Int):=by rw[oZ qq0 qq0];rfl
   refine⟨fs.length-(i+1),_,_,by omega,⟨i+1,_,_,rfl,lS,a.more (.row (kI f) 39),rfl,rfl⟩,Nat.le_of_lt (Nat.lt_succ_of_lt a.le),Gh.sub ?_⟩;rw[<-kP];(repeat refine⟨rfl,?_⟩);exact trivial
  ·refine goN ?_;exact⟨_,_,⟨_,_,a,rfl,rfl⟩,Nat.le_of_lt a.le,Gh.sub (by((repeat refine⟨rfl,?_⟩);exact trivial))⟩
end
section
variable{n0:Nat}{h0:X (Nat×B)}{kp:Nat}{P:PP}{h:X (Nat×B)}{nx:Nat}
def zi(a:PE):g2 (sF tb .eql 4) (.bool a) (.bool a)=some (.bool true):=by simp only[g2,toV,sF,M3,jP,un4.h,beq_self_eq_true]
def xd{P':PP}{hh h1:X (Nat×B)}{nn n1:Nat}(p:PL n0 h0 kp P h nx)(a:PS n0 h0 kp P' hh nn h1 n1)(hn:nx+3<=nn)(low:∀k,k<nx->gt hh k=gt h k)(g2:gt hh (nx+2)=some (.row [.nils,.nils,.nils] 35))(b:B):PS n0 h0 kp P' h nx (ug h1 (nx+2) b) n1/\gt h1 (nx+2)=some (.row [.nils,.nils,.nils] 35):=by have h2:gt h1 (nx+2)=some (.row [.nils,.nils,.nils] 35):=a.np _ _ qq0 g2 ⟨nofun,nofun,nofun⟩;have:=p.le;refine⟨⟨a.pl.oth (K:=nx+2) qq0 h2 ⟨nofun,nofun,nofun⟩ fun k hk=>by rw[bS,if_neg (Ne.symm hk)],Nat.le_trans qq0 a.le,fun k c hk hc hb=>?_⟩,h2⟩;rw[bS,if_neg qq0];exact a.np k c qq0 (by rw[low k hk];exact hc) hb
def PS.more{P':PP}{h1:X (Nat×B)}{n1:Nat}(a:PS n0 h0 kp P' h nx h1 n1)(b:B):PS n0 h0 kp P' h nx ((n1,b)::h1) (n1+1):=
 ⟨a.pl.more b,Nat.le_succ_of_le a.le,fun k c hk hc hb=>by rw[jE (Nat.lt_of_lt_of_le hk a.le)];exact a.np k c hk hc hb⟩
variable{H:cZ}
variable{fs:X GFS}
def PB.wk{ws:X Nat}{z e j z' e' j':Nat}(b:PB H ws P fs z e j)(hz:z<=z')(he:e<=e')(hj:j<=j'):PB H ws P fs z' e' j':=by obtain⟨⟨v10,E,T,q,h1,h2,h3⟩,h4,h5,h6⟩:=b;exact⟨⟨v10,E,T,q,by omega,by omega,by omega⟩,by omega,by omega,by omega⟩
def dH(H:cZ)(fs:X GFS)(o:sA)(nx:Nat)(h:X (Nat×B)):X (Nat×B):=(nx+2,.row [.nils,.nils,.nils] 35)::(nx+1,.row (oY o) 41)::(nx,.row (gZ ⟨H,fs⟩) 35)::h
variable{o:sA}
def xe{k:Nat}(hk:k<nx):gt (dH H fs o nx h) k=gt h k:=by simp only[dH];rw[aP,if_neg qq0,aP,if_neg qq0,aP,if_neg qq0]
def JH:gt (dH H fs o nx h) (nx+2)=some (.row [.nils,.nils,.nils] 35):=by simp only[dH];rw[aP,if_pos rfl]
def Zg(p:PL n0 h0 kp P h nx):PL n0 h0 kp P (dH H fs o nx h) (nx+3):=((p.more _).more _).more _
def Ze{n:Nat}(hn:3000000<=n){ws:X Nat}(hh:nT H ws){z e j:Nat}(p:PL n0 h0 kp P h nx)(b:PB H ws P fs z e j)(hj:j<=200)(hz:z<=90)(he:e<=1080)(o:sA)(ho:o.Kind=0->o.F.Nodes.length<=6/\KB H o.F):
  aW prog 14 [.ptr kp 0 0,.agg (gZ ⟨H,fs⟩),.agg (oY o)] ⟨h,nx⟩ (fun u Y'=>∃P' t h' nx',u=.tup [.agg (gZ ⟨H,fs++t⟩),.bool true]/\Y'=⟨h',nx'⟩/\PS n0 h0 kp P' h nx h' nx'/\PB H ws P' (fs++t) (z+6) (e+72) (j+1)/\Lm P P' t):=by
 refine aW.wf fun tA _=>?_
 haveI:SuC nx (nx+1):=⟨rfl⟩
 haveI:SuC (nx+1) (nx+2):=⟨rfl⟩
 haveI:SuC (nx+2) (nx+3):=⟨rfl⟩
 haveI:SuC (nx+3) (nx+4):=⟨rfl⟩
 haveI:Nq (nx+1) nx:=⟨by rw[beq_eq];simp⟩
 haveI:Nq (nx+2) nx:=⟨by rw[beq_eq];simp⟩
 haveI:Nq (nx+2) (nx+1):=⟨by rw[beq_eq];simp⟩
 haveI:Nq (nx+3) nx:=⟨by rw[beq_eq];simp⟩
 haveI:Nq (nx+3) (nx+1):=⟨by rw[beq_eq];simp⟩
 haveI:SuC (nx+4) (nx+5):=⟨rfl⟩
 have hl:=b.rl;refine xU 106 Yz ?_;refine goN ?_;apply cE;refine goN ?_;have aD:PL n0 h0 kp P (dH H fs o nx h) (nx+3):=Zg p;by_cases k0:o.Kind=0;refine eG rfl (fun _=>?_) (fun q=>by simp[k0]at q);obtain⟨hf6,dV⟩:=ho k0;obtain⟨P',g1,g2,g3⟩:=b.put hh qq0 dV;have q1:Hv n ⟨H,fs⟩ o.F=some (⟨H,fs++[o.F]⟩,(fs.length:Int)):=z1w qq0 _;refine goN ?_;refine RS.w (u:=.agg [.iM b7 o.F.Nodes]) rfl (kL fT.h rfl (bB hJ.h) rfl (MF eE.h) rfl) ?_;refine goN ?_;refine aK rfl (pC (qm1 n ⟨H,fs⟩ o.F _ q1) _) Ds ?_;refine goN ?_;obtain⟨h1,n1,e1,p1⟩:=z1t (aD.more (.row (gZ ⟨H,fs++[o.F]⟩) 35)) g1;obtain⟨r1,r2⟩:=xd p p1 qq0 (fun k hk=>by rw[aP,if_neg qq0];exact xe hk) (by rw[aP,if_neg qq0];exact JH) (.row (gZ ⟨H,fs++[o.F]⟩) 35)
 haveI:eE h1 (nx+3) (.row (gZ ⟨H,fs++[o.F]⟩) 35):=⟨p1.np _ _ (zN _) (by rw[aP,if_pos rfl]) ⟨nofun,nofun,nofun⟩⟩
 haveI:eE h1 (nx+2) (.row [.nils,.nils,.nils] 35):=⟨r2⟩
 refine dE [(0,4),(5,4),(5,7),(6,7)] ?_;refine cM ?_;refine aV (u:=.agg [.iM b7 o.F.Nodes]) rfl (kL fT.h rfl (bB hJ.h) rfl (MF eE.h) rfl) ?_;refine cM ?_;refine JW (by exact wA) (iA rfl IX rfl).2 e1 rfl rfl ?_;refine cM ?_;refine qM ?_;refine cM ?_;refine bC ⟨by kernel_rfl,⟨(by exact opy),opm,opm,(by exact opy),trivial⟩,?_⟩;refine goN ?_;refine⟨.inr rfl,_,nH (kL sT.h rfl (bB rE.h) rfl (MF (by rw[bS,if_pos rfl,r2];rfl)) rfl) (dT rfl eD),_,⟨_,_⟩,r1.le,Gh.refl _ _ _,P',[o.F],_,_,?_,rfl,r1,g2.wk qq0 qq0 (zF _),⟨by omega,nofun,.inr ⟨_,rfl,by omega⟩⟩⟩;show U.tup [_,U.bool ((fs.length:Int)==(fs.length:Int))]=_;rw[beq_self_eq_true];rfl;refine eG rfl (fun q=>by simp[k0]at q) (fun _=>?_);refine goN ?_;by_cases k1:o.Kind=1;refine eG rfl (fun _=>?_) (fun q=>by simp[k1]at q);obtain⟨ok,P',t,u1,u2,u3,u4⟩:=b.rUnify hh qq0 qq0 qq0 hn o.A o.B;refine goN ?_;refine aK rfl (pC (qpi n ⟨H,fs⟩ o.A o.B _ u2) _) Yu ?_;refine goN ?_;refine nF rfl (iA rfl IV rfl).2 (z3c (aD.more (.row (gZ ⟨H,fs++t⟩) 35)) n u1) rfl rfl ?_;rintro _ _ ⟨h1,n1,rfl,rfl,p1⟩;obtain⟨r1,r2⟩:=xd p p1 qq0 (fun k hk=>by rw[aP,if_neg qq0];exact xe hk) (by rw[aP,if_neg qq0];exact JH) (.row (gZ ⟨H,fs++t⟩) 35)
 haveI:eE h1 (nx+3) (.row (gZ ⟨H,fs++t⟩) 35):=⟨p1.np _ _ (zN _) (by rw[aP,if_pos rfl]) ⟨nofun,nofun,nofun⟩⟩
 haveI:eE h1 (nx+2) (.row [.nils,.nils,.nils] 35):=⟨r2⟩
 refine goN ?_;rw[beq_self_eq_true];refine goN ?_;refine aY rfl (Gn rfl rfl (zi ok)) ?_;refine goN ?_;refine⟨.inr rfl,_,nH (kL sT.h rfl (bB rE.h) rfl (MF (by rw[bS,if_pos rfl,r2];rfl)) rfl) (dT rfl eD),_,⟨_,_⟩,r1.le,Gh.refl _ _ _,P',t,_,_,?_,rfl,r1,u3.wk qq0 qq0 (zF _),u4⟩;rfl;refine eG rfl (fun q=>by simp[k1]at q) (fun _=>?_);refine goN ?_;by_cases k2:o.Kind=2;refine eG rfl (fun _=>?_) (fun q=>by simp[k2]at q);obtain⟨ok,P',u1,u2,u3,u4⟩:=b.rTest hh qq0 qq0 hn o.A o.B;refine goN ?_;obtain⟨h1,e1,p1⟩:=a_ aD n u1;obtain⟨r1,r2⟩:=xd p p1 qq0 (fun k hk=>xe hk) JH (.row (gZ ⟨H,fs⟩) 35)
 haveI:eE h1 nx (.row (gZ ⟨H,fs⟩) 35):=⟨p1.np _ _ qq0 (by simp only[dH];rw[aP,if_neg qq0,aP,if_neg qq0,aP,if_pos rfl]) ⟨nofun,nofun,nofun⟩⟩
 haveI:eE h1 (nx+1) (.row (oY o) 41):=⟨p1.np _ _ qq0 (by simp only[dH];rw[aP,if_neg qq0,aP,if_pos rfl]) ⟨nofun,nofun,nofun⟩⟩
 haveI:eE h1 (nx+2) (.row [.nils,.nils,.nils] 35):=⟨r2⟩
 refine dE [(0,6),(7,6),(8,6),(9,6),(10,6),(11,6),(13,14)] ?_;refine cM ?_;refine JW (by exact wA) (iA rfl PX rfl).2 e1 rfl rfl ?_;refine cM ?_;refine dK rfl (pC (qrw n ⟨H,fs⟩ o.A o.B ok u2)) Yt ?_;refine cM ?_;refine aV rfl (Gn rfl rfl (zi ok)) ?_;refine cM ?_;refine qM ?_;refine cM ?_;refine bC ⟨by kernel_rfl,⟨(by exact opy),(by exact opy),opm,(by exact opy),opm,(by exact opy),(Gn rfl rfl (zi ok)),trivial⟩,?_⟩;refine goN ?_;refine⟨.inr rfl,_,nH (kL sT.h rfl (bB rE.h) rfl (MF (by rw[bS,if_pos rfl,r2];rfl)) rfl) (dT rfl eD),_,⟨_,_⟩,r1.le,Gh.refl _ _ _,P',[],_,_,?_,rfl,r1,(by rw[List.append_nil];exact u3.wk qq0 qq0 (zF _)),⟨by omega,fun _=>u4,.inl rfl⟩⟩;rw[List.append_nil];rfl;refine eG rfl (fun q=>by simp[k2]at q) (fun _=>?_);refine goN ?_;obtain⟨f,ok,u1,u2,_,u4⟩:=b.rRead qq0 qq0 hn o.A
 haveI:eE (dH H fs o nx h) nx (.row (gZ ⟨H,fs⟩) 35):=⟨by simp only[dH];rw[aP,if_neg qq0,aP,if_neg qq0,aP,if_pos rfl]⟩
 haveI:eE (dH H fs o nx h) (nx+1) (.row (oY o) 41):=⟨by simp only[dH];rw[aP,if_neg qq0,aP,if_pos rfl]⟩
 haveI:eE (dH H fs o nx h) (nx+2) (.row [.nils,.nils,.nils] 35):=⟨JH⟩
 haveI:Nq (nx+3) (nx+2):=⟨by rw[beq_eq];simp⟩
 haveI:Nq (nx+4) nx:=⟨by rw[beq_eq];simp⟩
 haveI:Nq (nx+4) (nx+1):=⟨by rw[beq_eq];simp⟩
 haveI:Nq (nx+4) (nx+2):=⟨by rw[beq_eq];simp⟩
 haveI:Nq (nx+4) (nx+3):=⟨by rw[beq_eq];simp⟩
 refine nF rfl (iA rfl EI rfl).2 (h_ aD n u1) rfl rfl ?_;rintro _ _ ⟨rfl,rfl⟩;refine goN ?_;refine aK rfl (pC (y? n ⟨H,fs⟩ o.A _ u2) _) PV ?_;refine goN ?_;refine dE [(8,9)] ?_;refine cM ?_;refine aV rfl (Gn rfl rfl (zi ok)) ?_;refine cM ?_;refine dK rfl (pC (yp n f f true u4)) IW ?_;refine cM ?_;refine qM ?_;refine cM ?_;refine bC ⟨by kernel_rfl,⟨(by exact opy),trivial⟩,?_⟩;refine goN ?_;obtain⟨r1,r2⟩:=xd p (⟨aD,zF _,fun _ _ _ h _=>h⟩:PS n0 h0 kp P (dH H fs o nx h) (nx+3) (dH H fs o nx h) (nx+3)) (zF _) (fun k hk=>xe hk) JH (.row (gZ ⟨H,fs⟩) 35);refine⟨.inr rfl,_,nH (kL sT.h rfl (bB rE.h) rfl (MF (by rw[aP,if_neg qq0,aP,if_neg qq0,bS,if_pos rfl,r2];rfl)) rfl) (dT rfl eD),_,⟨_,_⟩,(by show nx<=nx+5;omega),Gh.refl _ _ _,P,[],_,_,?_,rfl,(r1.more _).more _,(by rw[List.append_nil];exact b.wk qq0 qq0 (Nat.le_succ _)),Lm.refl P⟩;rw[List.append_nil];rfl
end
end Go.Proofs
namespace Go.Proofs
open Go Go.Rx Go.Vx
set_option maxRecDepth 10000
def JQ(H:cZ)(o:sA):Prop:=o.Kind=0->o.F.Nodes.length<=6/\KB H o.F
def qve(H:cZ){l:X sA}(hl:l.length<=9223372036854775807){n:Nat}(hn:3000000<=n):∀(m i:Nat),l.length-i<m->i<=l.length->(∀(k:Nat)(o:sA),k<i->l[k]? = some o->JQ H o)->
  ∃b,ZC H l n m (i:Int)=some b/\(b=true->l.length<=16/\∀o∈l,JQ H o)
 |0,i,hm,_,_=>by omega
 |m+1,i,hm,hi,bY=>by
  unfold ZC;by_cases aE:i<l.length
  ·obtain⟨o,ho⟩:=fE aE;simp only[jB aE,zC,cP,ho,aM,kX aE (show l.length<=9223372036854775807 by omega)];have next:JQ H o->∃b,ZC H l n m ((i+1:Nat):Int)=some b/\(b=true->l.length<=16/\∀o∈l,JQ H o):=fun hk=>qve H hl hn m (i+1) qq0 qq0 fun k o' Ci jS=>by by_cases e:k=i;subst e;rw[ho]at jS;cases jS;exact hk;exact bY k o' qq0 jS
   by_cases k0:o.Kind=0
   ·rw[show(o.Kind==0)=true by simp[k0],zC];by_cases h6:(o.F.Nodes.length:Int)>6;rw[decide_eq_true h6];exact⟨false,rfl,nofun⟩
    ·rw[decide_eq_false h6,zD];obtain⟨b,hb,dV⟩:=z9d H (l:=[o.F]) qq4 (n:=n) qq0;rw[hb];rcases b with _|_;exact⟨false,rfl,nofun⟩;exact next fun _=>⟨by omega,dV rfl _ qq4⟩
   ·rw[show(o.Kind==0)=false by simp[k0],zD];exact next fun h=>absurd h k0
  have:i=l.length:=by omega
  subst this;simp only[jV aE,zD,um];refine⟨_,rfl,fun h=>⟨by have:=of_decide_eq_true h;omega,fun o ho=>?_⟩⟩;obtain⟨k,hk⟩:=List.getElem?_of_mem ho;exact bY k o (zG.1 hk).1 hk
def z02(H:cZ){l:X sA}(hl:l.length<=9223372036854775807){n:Nat}(hn:3000000+l.length<=n):∃b,s? n H l=some b/\(b=true->l.length<=16/\∀o∈l,JQ H o):=
 qve H hl qq0 n 0 qq0 (Nat.zero_le _) fun k o hk=>qq0
end Go.Proofs
namespace Go.Vx
open Go Go.Rx
section
variable{C:PG}{T:Tb}(hT:j0 C.prog T){n0 n:Nat}{aA:Zu Oper}{Q:Exit->X U->Sg->Prop}
include hT
def WPU.anyQ{id:Nat}{l:X (Nat×U)}{Y:Sg}(h:RI C T aA n0 n Q aA.size (List.replicate aA.size false) l Y):WPU C n0 (.region id aA true) (fr n l) Y Q:=fun hn F x tv m w a b0 hx st hG hd ro eZ=>by
 refine wpIn_region_any hT.mixed ?_;rw[show(Array.replicate aA.size false)=(List.replicate aA.size false).toArray by simp];refine QW hT (ro:=ro) eZ (n0:=n0) (F:=F) (x0:=x) (m0:=m) (w0:=w) (df:=a.defers) hG st.fits (fun y tm' dJ m' w' a' hq h2 h3 h4 h5 h6=>⟨y,tm',dJ,m',hq,h2,h3,h4,h5,by rw[h6];exact hd.adv st.fits h3⟩) aA.size _ a _ m l tv x qq4 (hx ▸ h) ⟨st.h,st.fr,st.e,(bT.draw _ st.fits).fits,st.act⟩ (bT.draw _ st.fits) (Ke.refl _ _) (hx ▸ hn) rfl
end
end Go.Vx
namespace Go.Proofs
open Go Go.Rx Go.Vx Tryz
set_option maxRecDepth 20000
set_option maxHeartbeats 4000000
set_option synthInstance.maxSize 4000
set_option synthInstance.maxHeartbeats 200000
def za3{n:Nat}(hn:3000000<=n)(d:X bG)(l:X sA)(hl:l.length<=9223372036854775807):cY prog 3 [.iM bL d,.iM oY l] (.bool true):=by
 obtain⟨g,ws,hg,hh⟩:=z9f d (n:=n) qq0;refine eL 47 fn3 ?_;refine goN ?_;refine aK rfl (pC (qj3 n d g hg) _) fn9 ?_;refine goN ?_;obtain⟨bb,hb,dV⟩:=z02 g hl (n:=3000000+l.length) (zF _);refine aK rfl (pC (qog _ g l bb hb) _) Zc ?_;refine goN ?_;have fin:∀(h:X (Nat×B))(nx:Nat),aW prog 11 [] ⟨h,nx⟩ (fun u Y'=>u=.bool true/\Y'=⟨h,nx⟩):=fun h nx=>Zd (n:=n) qq0 h nx;cases bb with
 |false=>refine eG rfl (fun _=>?_) (fun q=>by cases q);refine goN ?_;refine aK rfl (fin _ _) Du ?_;refine goN ?_;exact rt1 rfl rfl rfl rfl|true=>
 refine eG rfl (fun q=>by cases q) (fun _=>?_);obtain⟨qL,hf⟩:=dV rfl;refine goN ?_;refine tF (fun tm Y=>∃(kp k7:Nat)(h:X (Nat×B))(nx:Nat),PL 1 [(0,.row (gE g) 27)] kp (uC g) h nx/\gt h k7=some (.row (gZ ⟨g,[]⟩) 35)/\1<=k7/\k7<nx/\tm=fr 47 [(1,.iM oY l),(5,.ptr 0 0 0),(6,.ptr kp 0 0),(7,.ptr k7 0 0)]/\Y=⟨h,nx⟩) ?_ ?_
 ·rintro _ _ ⟨kp,k7,h,nx,p,h7,k71,k72,rfl,rfl⟩;refine goN ?_;refine gL (fun m tm Y=>∃(i:Nat)(fs:X GFS)(P:PP)(h:X (Nat×B))(nx:Nat),m=l.length-i/\i<=l.length/\PB g ws P fs (6*i) (72*i) i/\PL 1 [(0,.row (gE g) 27)] kp P h nx/\gt h k7=some (.row (gZ ⟨g,fs⟩) 35)/\k7<nx/\tm=fr 47 [(6,.ptr kp 0 0),(7,.ptr k7 0 0),(23,.iM oY l),(24,.i6 l.length),(25,.i6 i)]/\Y=⟨h,nx⟩)
   (fun tm Y=>∃(h:X (Nat×B))(nx:Nat),tm=fr 47 []/\Y=⟨h,nx⟩) (l.length-0)
   ⟨0,[],uC g,h,nx,rfl,Nat.zero_le _,PB.new,p,h7,k72,rfl,rfl⟩ ?_ ?_
  rintro _ _ ⟨h,nx,rfl,rfl⟩;refine goN ?_;refine aK rfl (fin _ _) Du ?_;refine goN ?_;exact rt1 rfl rfl rfl rfl;rintro m _ _ ⟨i,fs,P,h,nx,rfl,hi,b,p,h7,k72,rfl,rfl⟩
  haveI:SuC nx (nx+1):=⟨rfl⟩
  refine goN ?_;refine eG rfl (fun h1=>?_) (fun h1=>?_)
  ·have lS:i<l.length:=by simpa using h1
   obtain⟨o,ho⟩:=fE lS;have jX:aB l (i:Int)=some o:=by rw[cP,ho]
   refine goN ?_;apply cE;refine goN ?_;refine cB jX ?_
   haveI:eE h k7 (.row (gZ ⟨g,fs⟩) 35):=⟨h7⟩
   haveI:Nq nx k7:=⟨by rw[beq_eq];simp;omega⟩
   refine goN ?_;refine nF rfl (iA rfl Yz rfl).2 (Ze hn hh (p.more (.row (oY o) 41)) b qq0 qq0 qq0 o (hf o (zX ho))) rfl rfl ?_;rintro _ _ ⟨P',t,h',n',rfl,rfl,p',b',_⟩
   haveI:SuC n' (n'+1):=⟨rfl⟩
   have CN:=p'.le;have h7':gt h' k7=some (.row (gZ ⟨g,fs⟩) 35):=p'.np _ _ qq0 (by rw[aP,if_neg qq0];exact h7) ⟨nofun,nofun,nofun⟩
   haveI:eE h' k7 (.row (gZ ⟨g,fs⟩) 35):=⟨h7'⟩
   haveI:Nq n' k7:=⟨by rw[beq_eq];simp;omega⟩
   refine goN ?_;refine nF rfl (iA rfl Yy rfl).2 (z3x hn (p'.pl.more (.row (gZ ⟨g,fs++t⟩) 35)) b' qq0 qq0) rfl rfl ?_;rintro _ _ ⟨rfl,rfl⟩;refine goN ?_;refine eG rfl (fun q=>absurd q qq3) (fun _=>?_);refine goN ?_;have kP:IntKind.i64.wrap ((i:Int)+1)=((i+1:Nat):Int):=by rw[oZ qq0 qq0];rfl
   refine⟨l.length-(i+1),_,_,by omega,⟨i+1,fs++t,P',_,_,rfl,lS,b'.wk qq0 qq0 (zF _),(p'.pl.oth (h':=ug h' k7 (.row (gZ ⟨g,fs++t⟩) 35)) k71 h7' ⟨nofun,nofun,nofun⟩ (fun k hk=>by rw[bS,if_neg (Ne.symm hk)])).more (.row (gZ ⟨g,fs++t⟩) 35),by rw[aP,if_neg qq0,bS,if_pos rfl,h7'];rfl,by omega,rfl,rfl⟩,Nat.zero_le _,Gh.sub ?_⟩;rw[<-kP];(repeat refine⟨rfl,?_⟩);exact trivial
  ·refine goN ?_;exact⟨_,_,⟨_,_,rfl,rfl⟩,Nat.zero_le _,Gh.sub (by((repeat refine⟨rfl,?_⟩);exact trivial))⟩
 ·refine WPU.anyQ tb_ok ?_
  repeat' first
   |exact trivial
   |refine⟨rfl,?_⟩
   |refine And.intro ?_ ?_
   |(show qj _ _ _ _ _ _ _ _ _;refine Exists.intro _ ⟨rfl,rfl,rfl,?_⟩;first
     |refine .inl ⟨.agg (gE g),_,kL sU.h rfl (bB B2.h) rfl rfl rfl,_,_,Gh.refl _ _ _,Nat.zero_le _,?_⟩
     |refine .inl ⟨_,_,qvt rE.h rfl rfl,_,_,Gh.refl _ _ _,Nat.zero_le _,?_⟩
     |refine .inl ⟨_,_,S_ rfl,_,_,Gh.refl _ _ _,Nat.zero_le _,?_⟩
     |refine .inl ⟨_,_,qvx (bB rE.h) rfl rfl rfl rfl rfl rfl rfl rfl,_,_,Gh.refl _ _ _,Nat.zero_le _,?_⟩
     |(refine .inr (.inl ⟨_,_,_,yN rfl rfl Dt rfl rfl rfl,z7x g _ _,?_⟩);rintro _ _ ⟨rfl,rfl⟩;refine⟨_,_,Gh.refl _ _ _,Nat.zero_le _,?_⟩)
     |(refine .inr (.inl ⟨_,_,_,yN rfl rfl Za rfl rfl rfl,pC (qtt n g _ rfl) _,?_⟩);rintro _ _ ⟨rfl,rfl⟩;refine⟨_,_,Gh.refl _ _ _,Nat.zero_le _,?_⟩))
  all_goals first
   |exact⟨_,_,Gh.refl _ _ _,Nat.zero_le _,_,⟨(4,.row (gZ ⟨g,[]⟩) 35)::G6 g 1 [(0,.row (gE g) 27)],5⟩,⟨2,4,_,_,(ae g (zF _) fun _ _=>rfl).more _,rfl,by omega,by omega,rfl,rfl⟩,Nat.zero_le _,Gh.sub (by((repeat refine⟨rfl,?_⟩);exact trivial))⟩|exact⟨_,_,Gh.refl _ _ _,Nat.zero_le _,_,⟨G6 g 2 [(1,.row (gZ ⟨g,[]⟩) 35),(0,.row (gE g) 27)],5⟩,⟨3,1,_,_,ae g qq0 (fun k hk=>by obtain rfl:k=0:=qq0;rfl),rfl,by omega,by omega,rfl,rfl⟩,Nat.zero_le _,Gh.sub (by((repeat refine⟨rfl,?_⟩);exact trivial))⟩
def qek(n:Nat)(p1:X bG)(p2:X sA):V PE:=aF (3000000<=n/\p2.length<=9223372036854775807) (some true)
def qhu(n:Nat)(p1:X bG)(p2:X sA)(r:PE)(O:qek n p1 p2=some r):cY prog 3 [.isl false (p1.map bL),.isl false (p2.map oY)] (.bool r):=by obtain⟨h1,O⟩:=c6 O;obtain rfl:=sI O;exact za3 h1.1 p1 p2 h1.2
def z1j(p1:X bG)(p2:X sA){n:Nat}(h:p2.length<=9223372036854775807)(hn:3000000<=n):qek n p1 p2=some true:=if_pos ⟨hn,h⟩
end Go.Proofs
