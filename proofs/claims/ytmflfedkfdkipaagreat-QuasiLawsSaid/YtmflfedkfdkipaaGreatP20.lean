import Derived.Test.YtmflfedkfdkipaaGreatP19
set_option linter.all false
namespace Go.Proofs
open Go Go.Rx Go.Vx
set_option maxRecDepth 10000
def Lj(f g:GFS):Z aU:=f.Nodes++g.Nodes.map (lL f.Nodes.length)
def LZ(f g:GFS):(Lj f g).length=f.Nodes.length+g.Nodes.length:=by simp[Lj]
variable{f:GFS}
variable{g:GFS}
variable{i:Nat}
def J0(h:i<f.Nodes.length):(Lj f g)[i]? = f.Nodes[i]?:=by rw[Lj,List.getElem?_append_left h]
def DG:(Lj f g)[f.Nodes.length+i]? = (g.Nodes[i]?).map (lL f.Nodes.length):=by rw[Lj,List.getElem?_append_right (by omega),Nat.add_sub_cancel_left,List.getElem?_map]
variable{v:Int}
def M7{o:Z Int}(hn:o.Nodup)(h:o[i]? = some v):o.idxOf v=i:=by obtain⟨hk,hv⟩:=zG.1 h;have hm:v∈o:=hv ▸ List.getElem_mem hk;have h1:=List.idxOf_lt_length_iff.2 hm;have h2:=List.getElem_idxOf h1;have h3:=List.pairwise_iff_getElem.1 hn;rcases Nat.lt_trichotomy (o.idxOf v) i with e |e |e;exact absurd (h2.trans hv.symm) (h3 _ _ h1 hk e);exact e;exact absurd (hv.trans h2.symm) (h3 _ _ hk h1 e)
def BI.rc{u:Int}(h:BI f u v):Rc f u v:=by induction h with|one ha=>exact(Rc.refl f _).snoc ha|snoc _ ha ih=>exact ih.snoc ha
def Lk(hg:jL f){r:Int}(hr:fG f r):∀v∈bH f r,Rc f r v:=fun v hv=>by
 obtain⟨t,e,_,h⟩:=z3j hg hr;rw[e]at hv;rcases zI.1 hv with rfl |hv;exact Rc.refl f _;exact(h v hv).rc
structure Xh(g:GFS)(r:Int):Prop where
 nd:(bH g r).Nodup
 ing:∀v∈bH g r,fG g v
 hd:(bH g r)[0]? = some r
 pos:0<(bH g r).length
 at_:∀(i:Nat)(v:Int),(bH g r)[i]? = some v->(cK g r).Nodes[i]? = some (kI g (bH g r) v)
 clo:∀v∈bH g r,∀a∈(Go.Proofs.nd g v).Arcs,a.To∈bH g r
 arc:∀v∈bH g r,∀a,a∈(kI g (bH g r) v).Arcs↔∃b∈(Go.Proofs.nd g v).Arcs,a=⟨b.Feat,((bH g r).idxOf b.To:Int)⟩
def Xr(hg:jL g){r:Int}(hr:fG g r):Xh g r:=by obtain⟨o,_⟩:=JP hg hr;obtain⟨t,ht⟩:=o.head;refine⟨o.seen.nd,o.seen.ing,by rw[ht];rfl,by rw[ht];simp,fun i v h=>by simp[cK,h],o.clo,fun v hv a=>?_⟩;simp only[kI,List.mem_map];constructor;rintro⟨b,hb,rfl⟩;exact⟨b,sM.1 hb,rfl⟩;rintro⟨b,hb,rfl⟩;exact⟨b,sM.2 hb,rfl⟩
def z4v{L:Z aU}{q:Nat->Nat}(hq:pQ L q)(hL:∀(j:Nat)(c:aU)(a:aT),L[j]? = some c->a∈c.Arcs->0<=a.To/\a.To<(L.length:Int)){v':Int}{p:Z Int}(h:Wk ⟨L⟩ v p v'):∀{w w':Int},(0<=v/\v<(L.length:Int))->(0<=w/\w<(L.length:Int))->Wk ⟨L⟩ w p w'->q v.toNat=q w.toNat->q v'.toNat=q w'.toNat:=by
 induction h with
 |nil v=>intro w w' _ _ h e;cases h;exact e| @cons v v' a p ha hw ih=>
  intro w w' hv uP h e;obtain⟨b,hb,hf,mX⟩:=h.inv rfl;obtain⟨c,hc⟩:=eE (l:=L) (i:=v.toNat) (by omega);obtain⟨d,hd⟩:=eE (l:=L) (i:=w.toNat) (by omega);have e1:nd ⟨L⟩ v=c:=by simp[nd,hc]
  have e2:nd ⟨L⟩ w=d:=by simp[nd,hd]
  rw[e1]at ha;rw[e2]at hb;exact ih (hL _ c a hc ha) (hL _ d b hd hb) mX (hq _ _ c d a b hc hd e ha hb hf.symm)
def KG(ws:Z Nat)(f:GFS):Prop:=∀x∈f.Nodes,0<=x.Typex/\x.Typex<(ws.length:Int)
def Kx{ws:Z Nat}(hf:jL f)(hg:jL g)(h1:KG ws f)(h2:KG ws g):LG ws (Lj f g):=by
 have key:∀c∈Lj f g,jA c.Arcs/\(∀a∈c.Arcs,0<=a.To/\a.To<((Lj f g).length:Int))/\0<=c.Typex/\c.Typex<(ws.length:Int):=fun c hc=>by rw[LZ];rcases yD.1 hc with hc |hc;have:=hf c hc;exact⟨this.dis,fun a ha=>by have:=this.arc a ha;omega,h1 c hc⟩;obtain⟨x,hx,rfl⟩:=List.mem_map.1 hc;have:=hg x hx;refine⟨?_,fun a ha=>?_,h2 x hx⟩;have hd:=this.dis;unfold jA at hd ⊢;simp only[lL];rw[List.pairwise_map];exact hd;obtain⟨b,hb,rfl⟩:=List.mem_map.1 ha;have:=this.arc b hb;simp only[mS];omega
 exact⟨fun c hc=>(key c hc).1,fun c hc=>(key c hc).2.1,fun c hc=>(key c hc).2.2⟩
def OL.ua{ws:Z Nat}{L:Z aU}{ra rb:Nat}{res:I GFS}(h:OL ws L ra rb res):UA ws L [(ra,rb)] ra res:=by have pr:∀q:Nat->Nat,wL q [(ra,rb)]->q ra=q rb:=fun q hq=>hq (ra,rb) (by simp);refine⟨fun e q hq hp=>h.no e q hq (pr q hp),fun f e=>?_⟩;obtain⟨aD,Q,u,rfl⟩:=h.yes f e;exact⟨aD,Q,⟨u.qg.hm,u.gok,fun i y hi hy=>(u.qg.kd (aD i) y hy (u.qg.rt i hi).2).1,fun p hp=>by simp at hp;subst hp;exact u.eq,fun q hq hp=>u.low q hq (pr q hp)⟩,rfl⟩
section
variable{ws:Z Nat}{N:Z PN}{ra rb:Nat}
def yL(o1 o2:Z Int)(i:Nat):Nat:=if i<o1.length then((o1[i]?).getD 0).toNat else((o2[i-o1.length]?).getD 0).toNat
def Dn{o1 o2:Z Int}(h:o1[i]? = some v):yL o1 o2 i=v.toNat:=by rw[yL,if_pos (zG.1 h).1,h];rfl
def Dm{o1 o2:Z Int}(h:o2[i]? = some v):yL o1 o2 (o1.length+i)=v.toNat:=by rw[yL,if_neg (by omega),Nat.add_sub_cancel_left,h];rfl
def z82(co:CO N)(hk:∀x∈N,0<=x.kind/\x.kind<(ws.length:Int))(hw:∀w∈ws,w≠0)(KT:ra<N.length)(ZL:rb<N.length)(shr:∀x:Nat,Rc (core N) ra x->Rc (core N) rb x->∃p,Wk (core N) ra p x/\Wk (core N) rb p x){res:I GFS}(h:OL ws (core N).Nodes ra rb res):
  UA ws (Lj (cK (core N) ra) (cK (core N) rb)) [(0,(cK (core N) ra).Nodes.length)] 0 res:=by
 have hg:=co.gok;have iF:=iO N;have ia:fG (core N) (ra:Int):=⟨by omega,by omega⟩;have ib:fG (core N) (rb:Int):=⟨by omega,by omega⟩;have v10:=Xr hg ia;have B:=Xr hg ib;have CA:=Q7 hg ia;have CB:=Q7 hg ib;have la:(cK (core N) ra).Nodes.length=(bH (core N) ra).length:=CA.len;have lb:(cK (core N) rb).Nodes.length=(bH (core N) rb).length:=CB.len;have hkc:∀v,fG (core N) v->0<=(nd (core N) v).Typex/\(nd (core N) v).Typex<(ws.length:Int):=fun v hv=>by obtain⟨x,hx,e⟩:=List.mem_map.1 (tK hv).2;rw[<-e];exact hk x hx
 have ka:KG ws (cK (core N) ra):=fun x hx=>by simp only[cK]at hx;obtain⟨v,hv,rfl⟩:=List.mem_map.1 hx;exact hkc v (v10.ing v hv)
 have kb:KG ws (cK (core N) rb):=fun x hx=>by simp only[cK]at hx;obtain⟨v,hv,rfl⟩:=List.mem_map.1 hx;exact hkc v (B.ing v hv)
 have Ti:LG ws (core N).Nodes:=⟨fun c hc=>(hg c hc).dis,fun c hc a ha=>((hg c hc).arc a ha).2,fun c hc=>by obtain⟨x,hx,rfl⟩:=List.mem_map.1 hc;exact hk x hx⟩;have hlj:=Kx (ws:=ws) CA.ok CB.ok ka kb;have gZ:(Lj (cK (core N) ra) (cK (core N) rb)).length=(bH (core N) ra).length+(bH (core N) rb).length:=by rw[LZ,la,lb]
 have kY:∀(j:Nat)(c:aU)(a:aT),(Lj (cK (core N) ra) (cK (core N) rb))[j]? = some c->a∈c.Arcs->0<=a.To/\a.To<((Lj (cK (core N) ra) (cK (core N) rb)).length:Int):=fun j c a hj ha=>hlj.to c (zX hj) a ha;have at_:∀i,i<(bH (core N) ra).length+(bH (core N) rb).length->∃(v:Int)(c:aU),fG (core N) v/\yL (bH (core N) ra) (bH (core N) rb) i=v.toNat/\(Lj (cK (core N) ra) (cK (core N) rb))[i]? = some c/\c.Typex=(nd (core N) v).Typex/\
   (∀a∈c.Arcs,∃b∈(nd (core N) v).Arcs,a.Feat=b.Feat/\b.To=(yL (bH (core N) ra) (bH (core N) rb) a.To.toNat:Int))/\(∀b∈(nd (core N) v).Arcs,∃a∈c.Arcs,a.Feat=b.Feat/\b.To=(yL (bH (core N) ra) (bH (core N) rb) a.To.toNat:Int)):=fun i hi=>by
  by_cases h1:i<(bH (core N) ra).length;obtain⟨v,hv⟩:=eE h1;have yS:=zX hv;have key:∀b∈(nd (core N) v).Arcs,b.To=(yL (bH (core N) ra) (bH (core N) rb) ((((bH (core N) ra).idxOf b.To:Nat):Int)).toNat:Int):=fun b hb=>by have hm:=v10.clo v yS b hb;have:=(v10.ing _ hm).1;rw[zZ,Dn (JX hm)];omega
  refine⟨v,kI (core N) (bH (core N) ra) v,v10.ing v yS,Dn hv,by rw[J0 (by omega)];exact v10.at_ i v hv,rfl,fun a ha=>?_,fun b hb=>?_⟩;obtain⟨b,hb,rfl⟩:=(v10.arc v yS a).1 ha;exact⟨b,hb,rfl,key b hb⟩;exact⟨_,(v10.arc v yS _).2 ⟨b,hb,rfl⟩,rfl,key b hb⟩;obtain⟨v,hv⟩:=eE (l:=bH (core N) rb) (i:=i-(bH (core N) ra).length) (by omega);have yS:=zX hv;have ei:i=(bH (core N) ra).length+(i-(bH (core N) ra).length):=by omega
  have key:∀b∈(nd (core N) v).Arcs,b.To=(yL (bH (core N) ra) (bH (core N) rb) ((((bH (core N) rb).idxOf b.To:Nat):Int)+((cK (core N) ra).Nodes.length:Int)).toNat:Int):=fun b hb=>by have hm:=B.clo v yS b hb;have:=(B.ing _ hm).1;rw[show((((bH (core N) rb).idxOf b.To:Nat):Int)+((cK (core N) ra).Nodes.length:Int)).toNat=(bH (core N) ra).length+(bH (core N) rb).idxOf b.To by omega,Dm (JX hm)];omega
  refine⟨v,lL (cK (core N) ra).Nodes.length (kI (core N) (bH (core N) rb) v),B.ing v yS,by rw[ei];exact Dm hv,by rw[ei,<-la,DG,la,B.at_ _ v hv];rfl,rfl,fun a ha=>?_,fun b hb=>?_⟩;obtain⟨a0,ha0,rfl⟩:=List.mem_map.1 ha;obtain⟨b,hb,rfl⟩:=(B.arc v yS a0).1 ha0;exact⟨b,hb,rfl,key b hb⟩;exact⟨_,List.mem_map_of_mem ((B.arc v yS _).2 ⟨b,hb,rfl⟩),rfl,key b hb⟩
 have inl:∀{j:Nat}{c:aU},(Lj (cK (core N) ra) (cK (core N) rb))[j]? = some c->j<(bH (core N) ra).length+(bH (core N) rb).length:=fun h=>by have:=(zG.1 h).1;omega
 have cnd:∀(v:Int)(y:aU),fG (core N) v->(core N).Nodes[v.toNat]? = some y->y=nd (core N) v:=fun v y hv hy=>by simp[nd,hy]
 have hm:Hm ws (Lj (cK (core N) ra) (cK (core N) rb)) (core N).Nodes (yL (bH (core N) ra) (bH (core N) rb)):=by
  refine⟨fun i hi=>?_,fun i c a hi ha=>?_,fun i y b hi hy hb=>?_,fun i y hi hy k=>?_⟩;obtain⟨v,c,h1,h2,_⟩:=at_ i (by omega);rw[h2];have:=h1.1;have:=h1.2;omega;obtain⟨v,c',h1,h2,h3,h4,h5,h6⟩:=at_ i (inl hi);rw[hi]at h3;cases h3;obtain⟨b,hb,e1,e2⟩:=h5 a ha;have:=h1.1;have:=h1.2;obtain⟨y,hy⟩:=eE (l:=(core N).Nodes) (i:=v.toNat) (by omega);have e:=cnd v y h1 hy;exact⟨y,b,by rw[h2];exact hy,by rw[e];exact hb,e1.symm,e2⟩;obtain⟨v,c,h1,h2,h3,h4,h5,h6⟩:=at_ i (by omega);rw[h2]at hy;rw[cnd v y h1 hy]at hb;obtain⟨a,ha,e1,e2⟩:=h6 b hb;exact⟨i,c,a,h3,rfl,ha,e1.symm,e2⟩;obtain⟨v,c,h1,h2,h3,h4,_⟩:=at_ i (by omega);rw[h2]at hy;rw[cnd v y h1 hy];constructor;intro q j d hj he;obtain⟨v',d',k1,k2,k3,k4,_⟩:=at_ j (inl hj);rw[hj]at k3;cases k3;have:v'=v:=by rw[h2,k2]at he;have:=h1.1;have:=k1.1;omega
  rw[k4,this];exact q;intro q;rw[<-h4];exact q i c h3 rfl
 have wl:∀{v w:Int}{p:Z Int},Wk (core N) v p w->v∈bH (core N) ra->w∈bH (core N) ra/\Wk ⟨Lj (cK (core N) ra) (cK (core N) rb)⟩ ((bH (core N) ra).idxOf v:Int) p ((bH (core N) ra).idxOf w:Int):=fun{v w p} h=>by
  induction h with
  |nil v=>intro hv;exact⟨hv,.nil _⟩| @cons v w a p ha hw ih=>
   intro hv;obtain⟨h1,h2⟩:=ih (v10.clo v hv a ha);refine⟨h1,Wk.cons (a:=⟨a.Feat,((bH (core N) ra).idxOf a.To:Int)⟩) ?_ h2⟩;have hi:=List.idxOf_lt_length_iff.2 hv;have:(Lj (cK (core N) ra) (cK (core N) rb))[(bH (core N) ra).idxOf v]? = some (kI (core N) (bH (core N) ra) v):=by rw[J0 (by omega)];exact v10.at_ _ v (JX hv)
   rw[nd,zZ];simp only[this,Option.getD_some];exact(v10.arc v hv _).2 ⟨a,ha,rfl⟩
 have wr:∀{v w:Int}{p:Z Int},Wk (core N) v p w->v∈bH (core N) rb->w∈bH (core N) rb/\Wk ⟨Lj (cK (core N) ra) (cK (core N) rb)⟩ ((bH (core N) rb).idxOf v+(cK (core N) ra).Nodes.length:Int) p ((bH (core N) rb).idxOf w+(cK (core N) ra).Nodes.length:Int):=fun{v w p} h=>by
  induction h with
  |nil v=>intro hv;exact⟨hv,.nil _⟩| @cons v w a p ha hw ih=>
   intro hv;obtain⟨h1,h2⟩:=ih (B.clo v hv a ha);refine⟨h1,Wk.cons (a:=mS (cK (core N) ra).Nodes.length ⟨a.Feat,((bH (core N) rb).idxOf a.To:Int)⟩) ?_ h2⟩;have:(Lj (cK (core N) ra) (cK (core N) rb))[(cK (core N) ra).Nodes.length+(bH (core N) rb).idxOf v]? = some (lL (cK (core N) ra).Nodes.length (kI (core N) (bH (core N) rb) v)):=by rw[DG,B.at_ _ v (JX hv)];rfl
   rw[nd,show((bH (core N) rb).idxOf v+(cK (core N) ra).Nodes.length:Int).toNat=(cK (core N) ra).Nodes.length+(bH (core N) rb).idxOf v by omega];simp only[this,Option.getD_some];exact List.mem_map_of_mem ((B.arc v hv _).2 ⟨a,ha,rfl⟩)
 have za:(bH (core N) ra).idxOf (ra:Int)=0:=M7 v10.nd v10.hd;have zb:(bH (core N) rb).idxOf (rb:Int)=0:=M7 B.nd B.hd;have ma:(ra:Int)∈bH (core N) ra:=zX v10.hd;have mb:(rb:Int)∈bH (core N) rb:=zX B.hd;have p0:yL (bH (core N) ra) (bH (core N) rb) 0=ra:=by rw[Dn v10.hd];omega
 have p1:yL (bH (core N) ra) (bH (core N) rb) (cK (core N) ra).Nodes.length=rb:=by have:=Dm (o1:=bH (core N) ra) B.hd;rw[Nat.add_zero]at this;rw[la,this];omega
 have two:∀q,pQ (Lj (cK (core N) ra) (cK (core N) rb)) q->wL q [(0,(cK (core N) ra).Nodes.length)]->∀i j,i<(bH (core N) ra).length->j<(bH (core N) rb).length->yL (bH (core N) ra) (bH (core N) rb) i=yL (bH (core N) ra) (bH (core N) rb) ((bH (core N) ra).length+j)->q i=q ((bH (core N) ra).length+j):=fun q hq hp i j hi hj he=>by
  obtain⟨v,hv⟩:=eE hi;obtain⟨w,mX⟩:=eE hj;have yS:=zX hv;have GV:=zX mX;rw[Dn hv,Dm mX]at he;have v0:=(v10.ing v yS).1;have w0:=(B.ing w GV).1;have e:v=w:=by omega
  subst e;have r1:=Lk hg ia v yS;have r2:=Lk hg ib v GV;have ev:((v.toNat:Nat):Int)=v:=by omega
  obtain⟨p,k1,k2⟩:=shr v.toNat (by rw[ev];exact r1) (by rw[ev];exact r2);rw[ev]at k1 k2;have g1:=(wl k1 ma).2;have g2:=(wr k2 mb).2;have:=z4v hq kY g1 (by rw[za];have:=v10.pos;omega) (by rw[zb];have:=B.pos;omega) g2 (by rw[za,zb];have:=hp (0,(cK (core N) ra).Nodes.length) (by simp);simpa using this);rw[M7 v10.nd hv,M7 B.nd mX,la]at this;rw[show((j:Int)+((bH (core N) ra).length:Int)).toNat=(bH (core N) ra).length+j by omega,zZ]at this;exact this
 refine UA.tr (L:=(core N).Nodes) (W:=[(ra,rb)]) (φ:=yL (bH (core N) ra) (bH (core N) rb)) hw Ti hm hlj (fun q hq hp i j hi hj he=>?_) (fun Y gX p hp=>?_) (fun p hp=>?_) (by have:=v10.pos;omega) (by rw[p0];exact h.ua);by_cases h1:i<(bH (core N) ra).length<;>by_cases h2:j<(bH (core N) ra).length;obtain⟨v,hv⟩:=eE h1;obtain⟨w,mX⟩:=eE h2;rw[Dn hv,Dn mX]at he;have v0:=(v10.ing v (zX hv)).1;have w0:=(v10.ing w (zX mX)).1;have e:v=w:=by omega
 subst e;rw[<-M7 v10.nd hv,<-M7 v10.nd mX];have ej:j=(bH (core N) ra).length+(j-(bH (core N) ra).length):=by omega
 rw[ej]at he ⊢;exact two q hq hp i _ h1 (by omega) he;have ei:i=(bH (core N) ra).length+(i-(bH (core N) ra).length):=by omega
 rw[ei]at he ⊢;exact(two q hq hp j _ h2 (by omega) he.symm).symm;have ei:i=(bH (core N) ra).length+(i-(bH (core N) ra).length):=by omega
 have ej:j=(bH (core N) ra).length+(j-(bH (core N) ra).length):=by omega
 obtain⟨v,hv⟩:=eE (l:=bH (core N) rb) (i:=i-(bH (core N) ra).length) (by omega);obtain⟨w,mX⟩:=eE (l:=bH (core N) rb) (i:=j-(bH (core N) ra).length) (by omega);rw[ei,ej,Dm hv,Dm mX]at he;have v0:=(B.ing v (zX hv)).1;have w0:=(B.ing w (zX mX)).1;have e:v=w:=by omega
 subst e;have g1:=M7 B.nd hv;have g2:=M7 B.nd mX;rw[show i=j by omega];simp at hp;subst hp;rw[p0,p1];exact gX (ra,rb) (by simp);simp at hp;subst hp;exact⟨0,(cK (core N) ra).Nodes.length,by rw[p0,p1],by have:=v10.pos;omega,by have:=B.pos;omega,fun q _ hq=>hq (0,(cK (core N) ra).Nodes.length) (by simp)⟩
end
section
variable{ws:Z Nat}
def gD:GFS:=⟨[⟨0,[]⟩]⟩
def VM{h:eD}(hh:qU h ws){f:GFS}(hg:jL f)(hk:KG ws f)(cT:0<f.Nodes.length)(hc:cK f 0=f):UA ws (Lj f gD) [(0,f.Nodes.length)] 0 (some f):=by
 have hl:(Lj f gD).length=f.Nodes.length+1:=by rw[LZ];rfl
 have CR:(Lj f gD)[f.Nodes.length]? = some ⟨0,[]⟩:=by have:=DG (f:=f) (g:=gD) (i:=0);rw[Nat.add_zero]at this;rw[this];rfl
 have kY:∀(i:Nat)(c:aU)(a:aT),f.Nodes[i]? = some c->a∈c.Arcs->0<=a.To/\a.To<(f.Nodes.length:Int):=fun i c a hi ha=>((hg c (zX hi)).arc a ha).2;have fQ:∀{i:Nat}{c:aU},(Lj f gD)[i]? = some c->(i<f.Nodes.length/\f.Nodes[i]? = some c)\/(i=f.Nodes.length/\c=⟨0,[]⟩):=fun{i c} hi=>by
  have h1:=(zG.1 hi).1;by_cases h2:i<f.Nodes.length;rw[J0 h2]at hi;exact .inl ⟨h2,hi⟩;have:i=f.Nodes.length:=by omega
  subst this;rw[CR]at hi;cases hi;exact .inr ⟨rfl,rfl⟩
 let Y:Nat->Nat:=fun i=>if i=f.Nodes.length then 0 else i
 have r1:∀i,i<f.Nodes.length->Y i=i:=fun i hi=>if_neg (by omega);have r2:Y f.Nodes.length=0:=if_pos rfl;have rlt:∀i,i<(Lj f gD).length->Y i<f.Nodes.length:=fun i hi=>by by_cases h:i=f.Nodes.length;rw[h,r2];exact cT;rw[r1 i (by omega)];omega
 refine⟨nofun,fun g e=>?_⟩;cases e;refine⟨Y,f,⟨⟨rlt,fun i c a hi ha=>?_,fun i y b hi hy hb=>?_,fun i y hi hy k=>⟨fun q j c hj e=>?_,fun q=>?_⟩⟩,hg,fun i y hi hy=>hk y (zX hy),fun p hp=>?_,fun q _ hq i j hi hj e=>?_⟩,by rw[r1 0 cT];exact hc.symm⟩;rcases fQ hi with⟨h1,h2⟩|⟨_,rfl⟩;have:=kY i c a h2 ha;exact⟨c,a,by rw[r1 i h1];exact h2,ha,rfl,by rw[r1 _ (by omega)];omega⟩;cases ha;have h1:=rlt i hi;have:=kY _ y b hy hb;exact⟨Y i,y,b,by rw[J0 h1];exact hy,r1 _ h1,hb,rfl,by rw[r1 _ (by omega)];omega⟩;rcases fQ hj with⟨h1,h2⟩|⟨h1,rfl⟩;rw[<-e,r1 j h1,h2]at hy;cases hy;exact q;have AL:=hk y (zX hy);have hm:=LY AL;have:=hh.top _ (zX hm);show(jV ws 0).testBit k=true;rw[<-this,Nat.testBit_and,Bool.and_eq_true]at q;exact q.1;exact q (Y i) y (by rw[J0 (rlt i hi)];exact hy) (r1 _ (rlt i hi));simp at hp;subst hp;show Y 0=Y f.Nodes.length;rw[r1 0 cT,r2];have h0:q 0=q f.Nodes.length:=hq (0,f.Nodes.length) (by simp);have key:∀i,i<(Lj f gD).length->q i=q (Y i):=fun i hi=>by by_cases h:i=f.Nodes.length;rw[h,r2];exact h0.symm;rw[r1 i (by omega)]
 rw[key i hi,key j hj,e]
def LC{h:eD}(hh:qU h ws){f:GFS}(hg:jL f)(hk:KG ws f)(cT:0<f.Nodes.length)(hc:cK f 0=f):UA ws (Lj gD f) [(0,gD.Nodes.length)] 0 (some f):=by
 have hl:(Lj gD f).length=1+f.Nodes.length:=by rw[LZ];rfl
 have hr:∀i,(Lj gD f)[1+i]? = (f.Nodes[i]?).map (lL 1):=fun i=>DG (f:=gD);have kY:∀(i:Nat)(c:aU)(a:aT),f.Nodes[i]? = some c->a∈c.Arcs->0<=a.To/\a.To<(f.Nodes.length:Int):=fun i c a hi ha=>((hg c (zX hi)).arc a ha).2;have fQ:∀{i:Nat}{c:aU},(Lj gD f)[i]? = some c->(i=0/\c=⟨0,[]⟩)\/∃t x,i=1+t/\f.Nodes[t]? = some x/\c=lL 1 x:=fun{i c} hi=>by have h1:=(zG.1 hi).1;rcases Nat.eq_zero_or_pos i with rfl |h2;rw[J0 (by decide)]at hi;cases hi;exact .inl ⟨rfl,rfl⟩;obtain⟨x,hx⟩:=eE (l:=f.Nodes) (i:=i-1) (by omega);have:=hr (i-1);rw[show 1+(i-1)=i by omega,hi,hx]at this;exact .inr ⟨i-1,x,by omega,hx,Option.some.inj this⟩
 let Y:Nat->Nat:=fun i=>i-1
 have rs:∀t,Y (1+t)=t:=fun t=>by show 1+t-1=t;omega
 have rlt:∀i,i<(Lj gD f).length->Y i<f.Nodes.length:=fun i hi=>by show i-1<_;omega
 have at_:∀t x,f.Nodes[t]? = some x->(Lj gD f)[1+t]? = some (lL 1 x):=fun t x hx=>by rw[hr,hx];rfl
 have h01:gD.Nodes.length=1:=rfl;refine⟨nofun,fun g e=>?_⟩;cases e;refine⟨Y,f,⟨⟨rlt,fun i c a hi ha=>?_,fun i y b hi hy hb=>?_,fun i y hi hy k=>⟨fun q j c hj e=>?_,fun q=>?_⟩⟩,hg,fun i y hi hy=>hk y (zX hy),fun p hp=>?_,fun q _ hq i j hi hj e=>?_⟩,hc.symm⟩;rcases fQ hi with⟨_,rfl⟩|⟨t,x,rfl,hx,rfl⟩;cases ha;obtain⟨b,hb,rfl⟩:=List.mem_map.1 ha;have:=kY t x b hx hb;exact⟨x,b,by rw[rs];exact hx,hb,rfl,by show b.To=((b.To+1).toNat-1:Nat);omega⟩;have:=kY _ y b hy hb;exact⟨1+Y i,lL 1 y,mS 1 b,at_ _ y hy,rs _,List.mem_map_of_mem hb,rfl,by show b.To=((b.To+1).toNat-1:Nat);omega⟩;rcases fQ hj with⟨rfl,rfl⟩|⟨t,x,rfl,hx,rfl⟩;have AL:=hk y (zX hy);have hm:=LY AL;have:=hh.top _ (zX hm);show(jV ws 0).testBit k=true;rw[<-this,Nat.testBit_and,Bool.and_eq_true]at q;exact q.1;rw[<-e,rs,hx]at hy;cases hy;exact q;exact q (1+Y i) (lL 1 y) (at_ _ y hy) (rs _);simp at hp;subst hp;rfl;have h0:q 0=q 1:=hq (0,gD.Nodes.length) (by simp);have e:i-1=j-1:=e;rcases Nat.eq_zero_or_pos i with rfl |yt<;>rcases Nat.eq_zero_or_pos j with rfl |hj0;rfl;rw[show j=1 by omega];exact h0;rw[show i=1 by omega];exact h0.symm;rw[show i=j by omega]
def jE(v10 M B:Z aU):Z aU:=v10++M.map (lL v10.length)++B.map (lL (v10.length+M.length))
def Fh(v10 M B:Z aU):(jE v10 M B).length=v10.length+M.length+B.length:=by simp[jE];omega
variable{v10:Z aU}
variable{M:Z aU}
variable{i:Nat}
def WF{B:Z aU}(h:i<v10.length):(jE v10 M B)[i]? = v10[i]?:=by rw[jE,zT,List.getElem?_append_left h]
def FV{B:Z aU}(h:i<M.length):(jE v10 M B)[v10.length+i]? = (M[i]?).map (lL v10.length):=by rw[jE,zT,List.getElem?_append_right (by omega),List.getElem?_append_left (by simp;omega),List.getElem?_map,Nat.add_sub_cancel_left]
def WE{B:Z aU}:(jE v10 M B)[v10.length+M.length+i]? = (B[i]?).map (lL (v10.length+M.length)):=by rw[jE,List.getElem?_append_right (by simp),List.getElem?_map];congr 2;simp
def qq7{B:Z aU}{c:aU}(h:(jE v10 M B)[i]? = some c):(i<v10.length/\v10[i]? = some c)\/(∃t x,i=v10.length+t/\M[t]? = some x/\c=lL v10.length x)\/∃t x,i=v10.length+M.length+t/\B[t]? = some x/\c=lL (v10.length+M.length) x:=by
 have hl:=(zG.1 h).1;rw[Fh]at hl;by_cases h1:i<v10.length;rw[WF h1]at h;exact .inl ⟨h1,h⟩;by_cases h2:i<v10.length+M.length;have e:i=v10.length+(i-v10.length):=by omega
 obtain⟨x,hx⟩:=eE (l:=M) (i:=i-v10.length) (by omega);rw[e,FV (by omega),hx]at h;exact .inr (.inl ⟨_,x,e,hx,(Option.some.inj h).symm⟩);have e:i=v10.length+M.length+(i-(v10.length+M.length)):=by omega
 obtain⟨x,hx⟩:=eE (l:=B) (i:=i-(v10.length+M.length)) (by omega);rw[e,WE,hx]at h;exact .inr (.inr ⟨_,x,e,hx,(Option.some.inj h).symm⟩)
def z47(a:aT):mS 0 a=a:=by cases a;simp[mS]
def qv3(x:aU):lL 0 x=x:=by
 cases x with
 |mk t l=>
  have:l.map (mS 0)=l:=by
   conv=>rhs;rw[<-List.map_id' l]
   exact List.map_congr_left fun a _=>z47 a
  simp only[lL,this]
def z8g(a b:Nat)(x:aU):lL a (lL b x)=lL (a+b) x:=by simp only[lL,List.map_map];congr 1;refine List.map_congr_left fun c _=>?_;simp only[Function.comp,mS,aT.mk.injEq,true_and];omega
def z1e(u h:GFS):Lj u h=jE [] u.Nodes h.Nodes:=by
 have:u.Nodes.map (lL 0)=u.Nodes:=by
  conv=>rhs;rw[<-List.map_id' u.Nodes]
  exact List.map_congr_left fun x _=>qv3 x
 simp only[Lj,jE,zS,Nat.zero_add,List.nil_append,this]
def z1f(f u:GFS):Lj f u=jE f.Nodes u.Nodes []:=by simp[Lj,jE]
def qml(f g h:GFS):jE [] (Lj f g) h.Nodes=jE f.Nodes (Lj g h) []:=by
 have h1:∀l:Z aU,l.map (lL 0)=l:=fun l=>by
  conv=>rhs;rw[<-List.map_id' l]
  exact List.map_congr_left fun x _=>qv3 x
 simp only[jE,zS,Nat.zero_add,List.nil_append,h1,Lj,List.map_append,List.map_map,List.map_nil,List.append_nil,zT,zU,yA];congr 2;refine List.map_congr_left fun x _=>?_;simp only[Function.comp,z8g]
end
variable{L:Z aU}
variable{v:Int}
variable{w:Int}
variable{p:Z Int}
def Hm.wk{ws:Z Nat}{L':Z aU}{φ:Nat->Nat}(h:Hm ws L' L φ)(hL:∀(j:Nat)(c:aU)(a:aT),L'[j]? = some c->a∈c.Arcs->0<=a.To/\a.To<(L'.length:Int))(hw:Wk ⟨L'⟩ v p w):(0<=v/\v<(L'.length:Int))->Wk ⟨L⟩ (φ v.toNat:Int) p (φ w.toNat:Int):=by
 induction hw with
 |nil v=>intro _;exact .nil _| @cons v w a p ha hw ih=>
  intro hv;obtain⟨c,hc⟩:=eE (l:=L') (i:=v.toNat) (by omega);have e:nd ⟨L'⟩ v=c:=by simp[nd,hc]
  rw[e]at ha;obtain⟨x,b,h1,h2,h3,h4⟩:=h.fw _ c a hc ha;have:=ih (hL _ c a hc ha);rw[<-h3];refine .cons (a:=b) ?_ (by rw[h4];exact this);simp[nd,h1];exact h2
def All(f:GFS):Prop:=∀i:Nat,i<f.Nodes.length->Rc f 0 (i:Int)
variable{f:GFS}
def ct(hg:jL f)(cT:0<f.Nodes.length)(hc:cK f 0=f):All f:=fun i hi=>by
 have i0:fG f 0:=⟨Int.le_refl _,by omega⟩;have C:=Q7 hg i0;have o:=(JP hg i0).1;rw[hc]at C;have hl:=C.len;refine Lk hg i0 _ (Classical.byContradiction fun fF=>?_);have mZ:((i:Int)::bH f 0).Nodup:=List.nodup_cons.2 ⟨fF,o.seen.nd⟩;have:=zm f.Nodes.length mZ fun v hv=>by rcases zI.1 hv with rfl |hv;omega;exact o.seen.ing v hv
 simp only[zO]at this;omega
section
variable{ws:Z Nat}
structure OkG(ws:Z Nat)(f:GFS):Prop where
 gok:jL f
 kg:KG ws f
 ne:0<f.Nodes.length
 can:cK f 0=f
def OkG.to(h:OkG ws f):∀(i:Nat)(c:aU)(a:aT),f.Nodes[i]? = some c->a∈c.Arcs->0<=a.To/\a.To<(f.Nodes.length:Int):=fun i c a hi ha=>((h.gok c (zX hi)).arc a ha).2
variable{g:GFS}
def RN(hf:jL f)(h:Wk f v p w):fG f v->Wk ⟨Lj f g⟩ v p w:=by induction h with|nil v=>intro _;exact .nil _| @cons v w a p ha hw ih=>intro hv;have h1:=(hf _ (tK hv).2).arc a ha;have h2:=hv.1;have h3:=hv.2;refine Wk.cons (a:=a) ?_ (ih ⟨h1.2.1,h1.2.2⟩);simp only[nd]at ha ⊢;rw[J0 (by omega)];exact ha
def RM(hg:jL g)(h:Wk g v p w):fG g v->Wk ⟨Lj f g⟩ (v+(f.Nodes.length:Int)) p (w+(f.Nodes.length:Int)):=by
 induction h with
 |nil v=>intro _;exact .nil _| @cons v w a p ha hw ih=>
  intro hv;have h1:=(hg _ (tK hv).2).arc a ha;have h2:=hv.1;have h3:=hv.2;refine Wk.cons (a:=mS f.Nodes.length a) ?_ (ih ⟨h1.2.1,h1.2.2⟩);obtain⟨x,hx⟩:=eE (l:=g.Nodes) (i:=v.toNat) (by omega);have e:nd g v=x:=by simp[nd,hx]
  rw[e]at ha;rw[nd,show(v+(f.Nodes.length:Int)).toNat=f.Nodes.length+v.toNat by omega];simp only[DG,hx,zM,Option.getD_some];exact List.mem_map_of_mem ha
def RP(hf:OkG ws f)(hg:OkG ws g):∀i:Nat,i<(Lj f g).length->Rc ⟨Lj f g⟩ 0 (i:Int)\/Rc ⟨Lj f g⟩ (f.Nodes.length:Int) (i:Int):=fun i hi=>by
 rw[LZ]at hi;by_cases h:i<f.Nodes.length;obtain⟨p,hp⟩:=ct hf.gok hf.ne hf.can i h;exact .inl ⟨p,RN hf.gok hp ⟨Int.le_refl _,by have:=hf.ne;omega⟩⟩;obtain⟨p,hp⟩:=ct hg.gok hg.ne hg.can (i-f.Nodes.length) (by omega);have:=RM (f:=f) hg.gok hp ⟨Int.le_refl _,by have:=hg.ne;omega⟩;rw[show((i-f.Nodes.length:Nat):Int)+(f.Nodes.length:Int)=(i:Int) by omega,Int.zero_add]at this;exact .inr ⟨p,this⟩
def z8o(hf:OkG ws f):UA ws (Lj f f) [(0,f.Nodes.length)] 0 (some f):=by
 have hl:=LZ f f;have kY:=hf.to;have fQ:∀{i:Nat}{c:aU},(Lj f f)[i]? = some c->(i<f.Nodes.length/\f.Nodes[i]? = some c)\/∃t x,i=f.Nodes.length+t/\f.Nodes[t]? = some x/\c=lL f.Nodes.length x:=fun{i c} hi=>by have h1:=(zG.1 hi).1;by_cases h2:i<f.Nodes.length;rw[J0 h2]at hi;exact .inl ⟨h2,hi⟩;obtain⟨x,hx⟩:=eE (l:=f.Nodes) (i:=i-f.Nodes.length) (by omega);have:=DG (f:=f) (g:=f) (i:=i-f.Nodes.length);rw[show f.Nodes.length+(i-f.Nodes.length)=i by omega,hi,hx]at this;exact .inr ⟨_,x,by omega,hx,Option.some.inj this⟩
 let Y:Nat->Nat:=fun i=>if i<f.Nodes.length then i else i-f.Nodes.length
 have r1:∀i,i<f.Nodes.length->Y i=i:=fun i hi=>if_pos hi;have r2:∀i,Y (f.Nodes.length+i)=i:=fun i=>by show(if _ then _ else _)=_;rw[if_neg (by omega)];omega
 have rlt:∀i,i<(Lj f f).length->Y i<f.Nodes.length:=fun i hi=>by rw[hl]at hi;rcases Nat.lt_or_ge i f.Nodes.length with h |h;rw[r1 i h];exact h;rw[show i=f.Nodes.length+(i-f.Nodes.length) by omega,r2];omega
 refine⟨nofun,fun g e=>?_⟩;cases e;refine⟨Y,f,⟨⟨rlt,fun i c a hi ha=>?_,fun i y b hi hy hb=>?_,fun i y hi hy k=>⟨fun q j c hj e=>?_,fun q=>q (Y i) y (by rw[J0 (rlt i hi)];exact hy) (r1 _ (rlt i hi))⟩⟩,hf.gok,fun i y hi hy=>hf.kg y (zX hy),fun p hp=>?_,fun q hq hp i j hi hj e=>?_⟩,by rw[r1 0 hf.ne];exact hf.can.symm⟩;rcases fQ hi with⟨h1,h2⟩|⟨t,x,rfl,hx,rfl⟩;have:=kY i c a h2 ha;exact⟨c,a,by rw[r1 i h1];exact h2,ha,rfl,by rw[r1 _ (by omega)];omega⟩;obtain⟨b,hb,rfl⟩:=List.mem_map.1 ha;have:=kY t x b hx hb;refine⟨x,b,by rw[r2];exact hx,hb,rfl,?_⟩;simp only[mS];rw[show(b.To+(f.Nodes.length:Int)).toNat=f.Nodes.length+b.To.toNat by omega,r2];omega;have:=kY _ y b hy hb;exact⟨Y i,y,b,by rw[J0 (rlt i hi)];exact hy,r1 _ (rlt i hi),hb,rfl,by rw[r1 _ (by omega)];omega⟩;rcases fQ hj with⟨h1,h2⟩|⟨t,x,rfl,hx,rfl⟩;rw[<-e,r1 j h1,h2]at hy;cases hy;exact q;rw[<-e,r2,hx]at hy;cases hy;exact q;simp at hp;subst hp;show Y 0=Y f.Nodes.length;have:=r2 0;rw[Nat.add_zero]at this;rw[r1 0 hf.ne,this];have h0:q 0=q f.Nodes.length:=hp (0,f.Nodes.length) (by simp);have Ti:=Kx hf.gok hf.gok hf.kg hf.kg;have key:∀i,i<(Lj f f).length->q i=q (Y i):=fun i hi=>by
  by_cases h:i<f.Nodes.length;rw[r1 i h];have e1:i=f.Nodes.length+(i-f.Nodes.length):=by omega
  rw[e1,r2];have i0:fG f 0:=⟨Int.le_refl _,by have:=hf.ne;omega⟩;obtain⟨p,hw⟩:=ct hf.gok hf.ne hf.can (i-f.Nodes.length) (by omega);have w1:=RN (g:=f) hf.gok hw i0;have w2:=RM (f:=f) hf.gok hw i0;have:=z4v hq (fun j c a hj ha=>Ti.to c (zX hj) a ha) w1 ⟨Int.le_refl _,by omega⟩ ⟨by omega,by have:=hf.ne;omega⟩ w2 (by simpa using h0);rw[zZ,show(((i-f.Nodes.length:Nat):Int)+(f.Nodes.length:Int)).toNat=f.Nodes.length+(i-f.Nodes.length) by omega]at this;exact this.symm
 rw[key i hi,key j hj,e]
variable{W:Z (Nat×Nat)}
def UY.img{Y:Nat->Nat}{Q:GFS}(y:UY ws L W Y Q)(hL:∀(j:Nat)(c:aU)(a:aT),L[j]? = some c->a∈c.Arcs->0<=a.To/\a.To<(L.length:Int))(h:Wk Q v p w):(∃i,i<L.length/\v=(Y i:Int))->∃i,i<L.length/\w=(Y i:Int):=by
 induction h with
 |nil v=>exact id| @cons v w a p ha hw ih=>
  rintro⟨i,hi,rfl⟩;obtain⟨z,hz⟩:=eE (y.hm.lt i hi);have e:nd Q (Y i:Int)=z:=by simp[nd,hz]
  rw[e]at ha;obtain⟨j,c,a0,q1,q2,q3,q4,q5⟩:=y.hm.bw i z a hi hz ha;have:=hL j c a0 q1 q3;exact ih ⟨a0.To.toNat,by omega,q5⟩
variable{r:Nat}
def VN(Ti:LG ws L)(hr:r<L.length){u:GFS}(h:UA ws L W r (some u)):OkG ws u:=by
 obtain⟨Y,Q,y,rfl⟩:=h.yes u rfl;have hi:fG Q (Y r:Int):=⟨by omega,by have:=y.hm.lt r hr;omega⟩;have C:=Q7 y.gok hi;refine⟨C.ok,fun x hx=>?_,C.pos,(qly y.gok hi).1⟩;simp only[cK]at hx;obtain⟨v,hv,rfl⟩:=List.mem_map.1 hx;obtain⟨p,hp⟩:=Lk y.gok hi v hv;obtain⟨i,h1,rfl⟩:=y.img (fun j c a hj ha=>Ti.to c (zX hj) a ha) hp ⟨r,hr,rfl⟩;obtain⟨z,hz⟩:=eE (y.hm.lt i h1);have e:nd Q (Y i:Int)=z:=by simp[nd,hz]
 simp only[kI,e];exact y.ty i z h1 hz
variable{v10:Z aU}
variable{M:Z aU}
def tq{B:Z aU}(hA:LG ws v10)(hM:LG ws M)(hB:LG ws B):LG ws (jE v10 M B):=by
 have dsh:∀{k:Nat}{l:Z aT},jA l->jA (l.map (mS k)):=fun{k l} h=>by unfold jA at h ⊢;rw[List.pairwise_map];exact h
 have key:∀c∈jE v10 M B,jA c.Arcs/\(∀a∈c.Arcs,0<=a.To/\a.To<((jE v10 M B).length:Int))/\0<=c.Typex/\c.Typex<(ws.length:Int):=fun c hc=>by obtain⟨i,hi⟩:=List.getElem?_of_mem hc;rw[Fh];rcases qq7 hi with⟨_,h⟩|⟨t,x,_,h,rfl⟩|⟨t,x,_,h,rfl⟩;have hm:=zX h;exact⟨hA.ds c hm,fun a ha=>by have:=hA.to c hm a ha;omega,hA.ty c hm⟩;have hm:=zX h;refine⟨dsh (hM.ds x hm),fun a ha=>?_,hM.ty x hm⟩;obtain⟨b,hb,rfl⟩:=List.mem_map.1 ha;have:=hM.to x hm b hb;simp only[mS];omega;have hm:=zX h;refine⟨dsh (hB.ds x hm),fun a ha=>?_,hB.ty x hm⟩;obtain⟨b,hb,rfl⟩:=List.mem_map.1 ha;have:=hB.to x hm b hb;simp only[mS];omega
 exact⟨fun c hc=>(key c hc).1,fun c hc=>(key c hc).2.1,fun c hc=>(key c hc).2.2⟩
def qun{B:Z aU}{q:Nat->Nat}(hq:pQ (jE v10 M B) q)(hM:LG ws M):pQ M (fun t=>q (v10.length+t)):=fun i j c e a b hi hj he ha hb hf=>by
 have gU:=(zG.1 hi).1;have oS:=(zG.1 hj).1;have h1:=hM.to c (zX hi) a ha;have h2:=hM.to e (zX hj) b hb;have:=hq _ _ _ _ (mS v10.length a) (mS v10.length b) (by rw[FV gU,hi];rfl) (by rw[FV oS,hj];rfl) he (List.mem_map_of_mem ha) (List.mem_map_of_mem hb) hf;simp only[mS]at this;rw[show(a.To+(v10.length:Int)).toNat=v10.length+a.To.toNat by omega,show(b.To+(v10.length:Int)).toNat=v10.length+b.To.toNat by omega]at this;exact this
def qq8{B:Z aU}(hM:LG ws M){x y:Nat}(h:UA ws M [(x,y)] r none){W':Z (Nat×Nat)}(hW:∀q,wL q W'->q (v10.length+x)=q (v10.length+y))(r':Nat):UA ws (jE v10 M B) W' r' none:=by
 refine⟨fun _ q hq hp=>?_,nofun⟩;obtain⟨i,hi,hb⟩:=h.no rfl _ (qun hq hM) fun p oP=>by simp at oP;subst oP;exact hW q hp
 refine⟨v10.length+i,by rw[Fh];omega,fun k=>?_⟩;obtain⟨j,c,h1,h2,h3⟩:=hb k;have hj:=(zG.1 h1).1;exact⟨v10.length+j,lL v10.length c,by rw[FV hj,h1];rfl,h2,h3⟩
def qzi(hw:∀w∈ws,w≠0){B:Z aU}(hA:LG ws v10)(hM:LG ws M)(hB:LG ws B){x y:Nat}(hx:x<M.length)(cC:∀i:Nat,i<M.length->Rc ⟨M⟩ (x:Int) (i:Int)\/Rc ⟨M⟩ (y:Int) (i:Int))(hy:y<M.length){u:GFS}(h:UA ws M [(x,y)] x (some u)){W':Z (Nat×Nat)}{r':Nat}{res:I GFS}
  (Uq:∀q,wL q W'->q (v10.length+x)=q (v10.length+y)) (hφ:∀ φ:Nat->Nat,(∀i,i<v10.length->φ i=i)->φ (v10.length+x)=v10.length->φ (v10.length+y)=v10.length->(∀i,φ (v10.length+M.length+i)=v10.length+u.Nodes.length+i)->
   (∀Y:Nat->Nat,wL Y W->∀p∈W',Y (φ p.1)=Y (φ p.2))/\(∀p∈W,∃a b,p=(φ a,φ b)/\a<(jE v10 M B).length/\b<(jE v10 M B).length/\∀q,pQ (jE v10 M B) q->wL q W'->q a=q b)/\φ r'=r) (NK:r'<(jE v10 M B).length) (hU:UA ws (jE v10 u.Nodes B) W r res):UA ws (jE v10 M B) W' r' res:=by
 obtain⟨Y,Q,yy,hu⟩:=h.yes u rfl;have T?:=VN hM hx h;have kY:∀(j:Nat)(c:aU)(a:aT),M[j]? = some c->a∈c.Arcs->0<=a.To/\a.To<(M.length:Int):=fun j c a hj ha=>hM.to c (zX hj) a ha;have hi:fG Q (Y x:Int):=⟨by omega,by have:=yy.hm.lt x hx;omega⟩;have C:=Xr yy.gok hi;have kM:Y x=Y y:=yy.eq (x,y) (by simp);have wkin:∀{v w:Int}{p:Z Int},Wk Q v p w->v∈bH Q (Y x:Int)->w∈bH Q (Y x:Int):=fun{v w p} NF=>by induction NF with|nil v=>exact id|cons ha _ ih=>exact fun hv=>ih (C.clo _ hv _ ha)
 have gG:∀t,t<M.length->(Y t:Int)∈bH Q (Y x:Int):=fun t ht=>by have hd:=zX C.hd;rcases cC t ht with⟨p,hp⟩|⟨p,hp⟩;have:=yy.hm.wk kY hp ⟨by omega,by omega⟩;simp only[zZ]at this;exact wkin this hd;have:=yy.hm.wk kY hp ⟨by omega,by omega⟩;simp only[zZ]at this;rw[<-kM]at this;exact wkin this hd
 obtain⟨φ,Z8⟩:∃ φ:Nat->Nat,φ=fun i=>if i<v10.length then i else if i<v10.length+M.length then v10.length+(bH Q (Y x:Int)).idxOf (Y (i-v10.length):Int)else v10.length+u.Nodes.length+(i-(v10.length+M.length)):=⟨_,rfl⟩;have f1:∀i,i<v10.length->φ i=i:=fun i hi=>by rw[Z8];exact if_pos hi
 have f3:∀i,φ (v10.length+M.length+i)=v10.length+u.Nodes.length+i:=fun i=>by rw[Z8];show(if _ then _ else if _ then _ else _)=_;rw[if_neg (by omega),if_neg (by omega),Nat.add_sub_cancel_left]
 have f2:∀t,t<M.length->φ (v10.length+t)=v10.length+(bH Q (Y x:Int)).idxOf (Y t:Int):=fun t ht=>by rw[Z8];show(if _ then _ else if _ then _ else _)=_;rw[if_neg (by omega),if_pos (by omega),Nat.add_sub_cancel_left]
 have hul:u.Nodes.length=(bH Q (Y x:Int)).length:=by rw[hu];simp[cK]
 have CZ:∀t,t<M.length->(bH Q (Y x:Int)).idxOf (Y t:Int)<u.Nodes.length:=fun t ht=>by rw[hul];exact List.idxOf_lt_length_iff.2 (gG t ht)
 have inM:∀{t:Nat}{c:aU},M[t]? = some c->t<M.length:=fun h=>(zG.1 h).1;have z0:(bH Q (Y x:Int)).idxOf (Y x:Int)=0:=M7 C.nd C.hd;have fxy:φ (v10.length+x)=v10.length/\φ (v10.length+y)=v10.length:=⟨by rw[f2 x hx,z0];rfl,by rw[f2 y hy,<-kM,z0];rfl⟩;obtain⟨w1,w2,hr⟩:=hφ φ f1 fxy.1 fxy.2 f3;have unode:∀t,t<M.length->∃z,Q.Nodes[Y t]? = some z/\nd Q (Y t:Int)=z/\u.Nodes[(bH Q (Y x:Int)).idxOf (Y t:Int)]? = some (kI Q (bH Q (Y x:Int)) (Y t:Int)):=fun t ht=>by obtain⟨z,hz⟩:=eE (yy.hm.lt t ht);exact⟨z,hz,by simp[nd,hz],by rw[hu];exact C.at_ _ _ (JX (gG t ht))⟩
 have iq:∀s t,s<M.length->t<M.length->φ (v10.length+s)=φ (v10.length+t)->Y s=Y t:=fun s t hs ht e=>by
  rw[f2 s hs,f2 t ht]at e;have e:(bH Q (Y x:Int)).idxOf (Y s:Int)=(bH Q (Y x:Int)).idxOf (Y t:Int):=by omega
  have g1:=JX (gG s hs);have g2:=JX (gG t ht);rw[e,g2]at g1;have:=Option.some.inj g1;omega
 have cas:∀i,i<(jE v10 M B).length->i<v10.length\/(∃t,t<M.length/\i=v10.length+t)\/∃t,t<B.length/\i=v10.length+M.length+t:=fun i hi=>by rw[Fh]at hi;by_cases h1:i<v10.length;exact .inl h1;by_cases h2:i<v10.length+M.length;exact .inr (.inl ⟨i-v10.length,by omega,by omega⟩);exact .inr (.inr ⟨i-(v10.length+M.length),by omega,by omega⟩)
 have inP:∀{j:Nat}{c:aU},(jE v10 M B)[j]? = some c->j<(jE v10 M B).length:=fun h=>(zG.1 h).1;have same:∀i j,i<(jE v10 M B).length->j<(jE v10 M B).length->φ i=φ j->i=j\/∃s t,s<M.length/\t<M.length/\i=v10.length+s/\j=v10.length+t/\Y s=Y t:=fun i j hi hj e=>by rcases cas i hi with h1 |⟨s,hs,rfl⟩|⟨s,hs,rfl⟩<;>rcases cas j hj with k1 |⟨t,ht,rfl⟩|⟨t,ht,rfl⟩;rw[f1 i h1,f1 j k1]at e;exact .inl e;rw[f1 i h1,f2 t ht]at e;omega;rw[f1 i h1,f3 t]at e;omega;rw[f2 s hs,f1 j k1]at e;omega;exact .inr ⟨s,t,hs,ht,rfl,rfl,iq s t hs ht e⟩;rw[f2 s hs,f3 t]at e;have:=CZ s hs;omega;rw[f3 s,f1 j k1]at e;omega;rw[f3 s,f2 t ht]at e;have:=CZ t ht;omega;rw[f3 s,f3 t]at e;exact .inl (by omega)
 have hm:Hm ws (jE v10 M B) (jE v10 u.Nodes B) φ:=by
  refine⟨fun i hi=>?_,fun i c a hi ha=>?_,fun i z b hi hz hb=>?_,fun i z hi hz k=>?_⟩;rw[Fh];rcases cas i hi with h1 |⟨t,ht,rfl⟩|⟨t,ht,rfl⟩;rw[f1 i h1];omega;rw[f2 t ht];have:=CZ t ht;omega;rw[f3 t];omega;rcases qq7 hi with⟨h1,h2⟩|⟨t,z,rfl,h2,rfl⟩|⟨t,z,rfl,h2,rfl⟩;have:=hA.to c (zX h2) a ha;exact⟨c,a,by rw[f1 i h1,WF h1];exact h2,ha,rfl,by rw[f1 _ (by omega)];omega⟩;have ht:=inM h2;obtain⟨a0,ha0,rfl⟩:=List.mem_map.1 ha;obtain⟨y2,b,k1,k2,k3,k4⟩:=yy.hm.fw t z a0 h2 ha0;obtain⟨z',g1,g2,g3⟩:=unode t ht;rw[g1]at k1;cases k1;have KQ:=kY t z a0 h2 ha0;refine⟨_,mS v10.length ⟨b.Feat,((bH Q (Y x:Int)).idxOf b.To:Int)⟩,by rw[f2 t ht,FV (CZ t ht),g3];rfl,List.mem_map_of_mem ((C.arc _ (gG t ht) _).2 ⟨b,by rw[g2];exact k2,rfl⟩),k3,?_⟩;show((bH Q (Y x:Int)).idxOf b.To:Int)+(v10.length:Int)=(φ (a0.To+(v10.length:Int)).toNat:Int);rw[show(a0.To+(v10.length:Int)).toNat=v10.length+a0.To.toNat by omega,f2 _ (by omega),k4];omega;obtain⟨a0,ha0,rfl⟩:=List.mem_map.1 ha;have KQ:=hB.to z (zX h2) a0 ha0;refine⟨lL (v10.length+u.Nodes.length) z,mS (v10.length+u.Nodes.length) a0,by rw[f3 t,WE,h2];rfl,List.mem_map_of_mem ha0,rfl,?_⟩;simp only[mS];rw[show(a0.To+((v10.length+M.length:Nat):Int)).toNat=v10.length+M.length+a0.To.toNat by omega,f3];omega;rcases cas i hi with h1 |⟨t,ht,rfl⟩|⟨t,ht,rfl⟩;rw[f1 i h1,WF h1]at hz;have:=hA.to z (zX hz) b hb;exact⟨i,z,b,by rw[WF h1];exact hz,rfl,hb,rfl,by rw[f1 _ (by omega)];omega⟩;obtain⟨z',g1,g2,g3⟩:=unode t ht;rw[f2 t ht,FV (CZ t ht),g3]at hz;cases hz;obtain⟨b0,hb0,rfl⟩:=List.mem_map.1 hb;obtain⟨b1,hb1,rfl⟩:=(C.arc _ (gG t ht) _).1 hb0;rw[g2]at hb1;obtain⟨j,c,a,q1,q2,q3,q4,q5⟩:=yy.hm.bw t z' b1 ht g1 hb1;have hj:=inM q1;have KQ:=kY j c a q1 q3;refine⟨v10.length+j,lL v10.length c,mS v10.length a,by rw[FV hj,q1];rfl,by rw[f2 j hj,f2 t ht,q2],List.mem_map_of_mem q3,q4,?_⟩;show((bH Q (Y x:Int)).idxOf b1.To:Int)+(v10.length:Int)=(φ (a.To+(v10.length:Int)).toNat:Int);rw[show(a.To+(v10.length:Int)).toNat=v10.length+a.To.toNat by omega,f2 _ (by omega),q5];omega;rw[f3 t,WE]at hz;obtain⟨z0,GT⟩:=eE ht;rw[GT]at hz;cases hz;obtain⟨b0,hb0,rfl⟩:=List.mem_map.1 hb;have KQ:=hB.to z0 (zX GT) b0 hb0;refine⟨v10.length+M.length+t,lL (v10.length+M.length) z0,mS (v10.length+M.length) b0,by rw[WE,GT];rfl,rfl,List.mem_map_of_mem hb0,rfl,?_⟩;simp only[mS];rw[show(b0.To+((v10.length+M.length:Nat):Int)).toNat=v10.length+M.length+b0.To.toNat by omega,f3];omega;rcases cas i hi with h1 |⟨t,ht,rfl⟩|⟨t,ht,rfl⟩;rw[f1 i h1,WF h1]at hz;refine⟨fun q j c hj e=>?_,fun q=>q i z (by rw[WF h1];exact hz) rfl⟩;rcases same j i (inP hj) hi e with rfl |⟨s,t,_,_,_,e2,_⟩;rw[WF h1,hz]at hj;cases hj;exact q;omega;obtain⟨z',g1,g2,g3⟩:=unode t ht;rw[f2 t ht,FV (CZ t ht),g3]at hz;cases hz;have qA:(lL v10.length (kI Q (bH Q (Y x:Int)) (Y t:Int))).Typex=z'.Typex:=by show(nd Q (Y t:Int)).Typex=_;rw[g2]
  rw[qA,yy.hm.ty t z' ht g1 k];constructor;intro q j c hj e;rcases same j _ (inP hj) hi e with rfl |⟨s,t',hs,qY,rfl,e2,e3⟩;rw[FV ht]at hj;obtain⟨c0,w4⟩:=eE ht;rw[w4]at hj;cases hj;exact q t c0 w4 rfl;have:t'=t:=by omega
  subst this;rw[FV hs]at hj;obtain⟨c0,w4⟩:=eE hs;rw[w4]at hj;cases hj;exact q s c0 w4 e3;intro q j c hj e;have oS:=inM hj;exact q (v10.length+j) (lL v10.length c) (by rw[FV oS,hj];rfl) (by rw[f2 j oS,f2 t ht,e]);rw[f3 t,WE]at hz;obtain⟨z0,GT⟩:=eE ht;rw[GT]at hz;cases hz;refine⟨fun q j c hj e=>?_,fun q=>q (v10.length+M.length+t) (lL (v10.length+M.length) z0) (by rw[WE,GT];rfl) rfl⟩;rcases same j _ (inP hj) hi e with rfl |⟨s,t',_,_,_,e2,_⟩;rw[WE,GT]at hj;cases hj;exact q;omega
 have hOl:LG ws u.Nodes:=⟨fun c hc=>(T?.gok c hc).dis,fun c hc a ha=>((T?.gok c hc).arc a ha).2,T?.kg⟩;refine UA.tr hw (tq hA hOl hB) hm (tq hA hM hB) (fun q hq hp i j hi hj e=>?_) w1 w2 NK (by rw[hr];exact hU);rcases same i j hi hj e with rfl |⟨s,t,hs,ht,rfl,rfl,e2⟩;rfl;exact yy.low _ (qun hq hM) (fun p oP=>by simp at oP;subst oP;exact Uq q hp) s t hs ht e2
def z4h(hw:∀w∈ws,w≠0)(hn:ws.Nodup){h:GFS}(hf:OkG ws f)(hg:OkG ws g)(hh:OkG ws h){r1 r2 rl rr:I GFS}(h1:UA ws (Lj f g) [(0,f.Nodes.length)] 0 r1)(h2:∀u,r1=some u->UA ws (Lj u h) [(0,u.Nodes.length)] 0 rl)(h3:UA ws (Lj g h) [(0,g.Nodes.length)] 0 r2)(h4:∀u,r2=some u->UA ws (Lj f u) [(0,f.Nodes.length)] 0 rr):
  (r1.bind fun _=>rl)=(r2.bind fun _=>rr):=by
 have lgf:∀{f:GFS},OkG ws f->LG ws f.Nodes:=fun{f} o=>⟨fun c hc=>(o.gok c hc).dis,fun c hc a ha=>((o.gok c hc).arc a ha).2,o.kg⟩;have lfg:=Kx hf.gok hg.gok hf.kg hg.kg;have lgh:=Kx hg.gok hh.gok hg.kg hh.kg;have l0:LG ws ([]:Z aU):=⟨nofun,nofun,nofun⟩;have n1:=hf.ne;have n2:=hg.ne;have n3:=hh.ne;have e1:=LZ f g;have e2:=LZ g h;have hl:(jE f.Nodes (Lj g h) []).length=f.Nodes.length+(g.Nodes.length+h.Nodes.length):=by rw[Fh,e2];simp
 have xN:(jE [] (Lj f g) h.Nodes).length=f.Nodes.length+(g.Nodes.length+h.Nodes.length):=by rw[qml];exact hl
 have pr:∀q:Nat->Nat,wL q [(0,f.Nodes.length),(0,f.Nodes.length+g.Nodes.length)]->q 0=q f.Nodes.length/\q 0=q (f.Nodes.length+g.Nodes.length):=fun q hq=>⟨hq (0,f.Nodes.length) (by simp),hq (0,f.Nodes.length+g.Nodes.length) (by simp)⟩;have L:UA ws (jE [] (Lj f g) h.Nodes) [(0,f.Nodes.length),(0,f.Nodes.length+g.Nodes.length)] 0 (r1.bind fun _=>rl):=by rcases r1 with _|u;exact qq8 lfg h1 (fun q hq=>by have:=(pr q hq).1;simpa using this) 0;have hu:=h2 u rfl;rw[z1e]at hu;refine qzi hw l0 lfg (lgf hh) (x:=0) (y:=f.Nodes.length) (by omega) (RP hf hg) (by omega) h1 (fun q hq=>by have:=(pr q hq).1;simpa using this) (fun φ f1 fx fy f3=>?_) (by omega) hu;simp only[zS,Nat.zero_add]at fx fy f3;have lq:=f3 0;rw[e1]at lq;simp only[Nat.add_zero]at lq;refine⟨fun Y gX p hp=>?_,fun p hp=>?_,fx⟩;have:=gX (0,u.Nodes.length) (by simp);simp at hp;rcases hp with rfl |rfl;show Y (φ 0)=Y (φ f.Nodes.length);rw[fx,fy];show Y (φ 0)=Y (φ (f.Nodes.length+g.Nodes.length));rw[fx,lq];exact this;simp at hp;subst hp;exact⟨0,f.Nodes.length+g.Nodes.length,by rw[fx,lq],by omega,by omega,fun q _ hq=>(pr q hq).2⟩
 have R:UA ws (jE f.Nodes (Lj g h) []) [(0,f.Nodes.length),(0,f.Nodes.length+g.Nodes.length)] 0 (r2.bind fun _=>rr):=by rcases r2 with _|u;exact qq8 lgh h3 (fun q hq=>by have:=pr q hq;rw[Nat.add_zero];omega) 0;have hu:=h4 u rfl;rw[z1f]at hu;refine qzi hw (lgf hf) lgh l0 (x:=0) (y:=g.Nodes.length) (by omega) (RP hg hh) (by omega) h3 (fun q hq=>by have:=pr q hq;rw[Nat.add_zero];omega) (fun φ f1 fx fy f3=>?_) (by omega) hu;rw[Nat.add_zero]at fx;have f0:=f1 0 n1;refine⟨fun Y gX p hp=>?_,fun p hp=>?_,f0⟩;have:=gX (0,f.Nodes.length) (by simp);simp at hp;rcases hp with rfl |rfl;show Y (φ 0)=Y (φ f.Nodes.length);rw[f0,fx];exact this;show Y (φ 0)=Y (φ (f.Nodes.length+g.Nodes.length));rw[f0,fy];exact this;simp at hp;subst hp;exact⟨0,f.Nodes.length,by rw[f0,fx],by omega,by omega,fun q _ hq=>(pr q hq).1⟩
 rw[qml]at L;exact L.uniq hn hw (tq (lgf hf) lgh l0) (by omega) R
end
section
variable{H:eD}{ws:Z Nat}{P:PP}{fs:Z GFS}
def z4j{l:Z aT}(hd:jA l)(h:∀a∈l,0<=a.Feat/\a.Feat<1000):l.length<=1000:=by
 have:=Hk (R:=fun(i:Nat) (x:Int)=>x=(i:Int)) (fun i x y h1 h2=>by omega) (List.range 1000) (l.map aT.Feat) (by
  unfold List.Nodup;rw[List.pairwise_map];exact hd) fun x hx=>by
  obtain⟨a,ha,rfl⟩:=List.mem_map.1 hx;have:=h a ha;exact⟨a.Feat.toNat,List.mem_range.2 (by omega),by omega⟩
 simpa using this
structure v02(ws:Z Nat)(z e:Nat)(f:GFS):Prop where
 ok:OkG ws f
 nl:f.Nodes.length<=z
 al:∀x∈f.Nodes,x.Arcs.length<=1000
 ft:∀x∈f.Nodes,∀a∈x.Arcs,a.Feat<1000
variable{f:GFS}
def wQ.rd{v08:Z (Z Int)}{E:Z Cw}{T:Nat}(p:wQ H ws P fs v08 E T){k:Nat}(h:fs[k]? = some f):v02 ws v08.length E.length f:=by
 obtain⟨r,h1,h2,rfl⟩:=p.has.at_ k f h;have co:=p.has.co;have hr:fG (core P.N) (r:Int):=⟨by omega,by rw[iO];omega⟩;have C:=Q7 co.gok hr;have v10:=Xr co.gok hr;have M_:=zX h1;have nodeF:∀x∈(cK (core P.N) r).Nodes,(0<=x.Typex/\x.Typex<(ws.length:Int))/\jA x.Arcs/\∀a∈x.Arcs,0<=a.Feat/\a.Feat<1000:=fun x hx=>by
  refine⟨?_,(C.ok x hx).dis,fun a ha=>?_⟩
  all_goals
   simp only[cK]at hx;obtain⟨v,hv,rfl⟩:=List.mem_map.1 hx;obtain⟨y,hy,e⟩:=List.mem_map.1 (tK (v10.ing v hv)).2
  rw[show(kI (core P.N) (bH (core P.N) r) v).Typex=(nd (core P.N) v).Typex from rfl,<-e];exact p.kr y hy;obtain⟨b,hb,rfl⟩:=(v10.arc v hv a).1 ha;rw[<-e]at hb;obtain⟨a0,ha0,rfl⟩:=List.mem_map.1 hb;exact p.ft y hy a0 ha0
 refine⟨⟨C.ok,fun x hx=>(nodeF x hx).1,C.pos,(qly co.gok hr).1⟩,?_,fun x hx=>z4j (nodeF x hx).2.1 (nodeF x hx).2.2,fun x hx a ha=>((nodeF x hx).2.2 a ha).2⟩;rw[C.len];refine Hk (R:=fun(q:Z Int) (v:Int)=>Wk (core P.N) (r:Int) q v) (fun q v w h1 h2=>Wk.det co.gok h2 hr h1) v08 _ v10.nd fun v hv=>?_;have h0:=(v10.ing v hv).1;have e:((v.toNat:Nat):Int)=v:=by omega
 have:=Lk co.gok hr v hv;rw[<-e]at this;obtain⟨q,hq,w⟩:=p.spn r M_ v.toNat this;exact⟨q,hq,by rw[e]at w;exact w⟩
structure PB(H:eD)(ws:Z Nat)(P:PP)(fs:Z GFS)(z e j:Nat):Prop where
 ex:∃v08 E T,wQ H ws P fs v08 E T/\v08.length<=z/\E.length<=e/\T<=1152*j
 gen:P.gen<=(j:Int)+1
 nl:P.N.length<=96*j
 rl:fs.length<=j
def PB.new:PB H ws (tI H) [] 0 0 0:=⟨⟨[],[],0,wQ.new,zF _,zF _,zF _⟩,Int.le_refl _,zF _,zF _⟩
variable{z e j:Nat}
def PB.has(p:PB H ws P fs z e j):Has P fs:=by obtain⟨_,_,_,h,_⟩:=p.ex;exact h.has
def PB.rd(p:PB H ws P fs z e j){k:Nat}{f:GFS}(h:fs[k]? = some f):v02 ws z e f:=by obtain⟨v08,E,T,q,h1,h2,_⟩:=p.ex;have:=q.rd h;exact⟨this.ok,Nat.le_trans this.nl h1,this.al,this.ft⟩
def PB.put(hh:qU H ws)(p:PB H ws P fs z e j)(hj:j<=200)(hf:FM H f):∃P',sH P f=some ((fs.length:Int),P')/\PB H ws P' (fs++[f]) (z+f.Nodes.length) (e+12*f.Nodes.length) (j+1)/\P'.N.length=P.N.length+f.Nodes.length:=by obtain⟨v08,E,T,q,h1,h2,h3⟩:=p.ex;have h4:=p.gen;have h5:=p.nl;have h6:=p.rl;have h7:=hf.sm.nodes;obtain⟨P',Z',E',g1,g2,g3,g4,g5,g6⟩:=z89 hh q hf (by omega) (by rw[q.has.len];omega);rw[q.has.len]at g1;exact⟨P',g1,⟨⟨Z',E',_,g2,by omega,by omega,by omega⟩,by rw[g5];omega,by omega,by simp;omega⟩,g6⟩
def PB.unify(hh:qU H ws)(p:PB H ws P fs z e j)(hj:j<=200)(hz:z<=96)(he:e<=1152){n:Nat}(hn:3000000<=n){a b:Nat}{f':GFS}(ha:fs[a]? = some f)(hb:fs[b]? = some f'):
  ∃res P',yF n P (a:Int) (b:Int)=some ((if res.isSome then(fs.length:Int)else 0,res.isSome),P')/\UA ws (Lj f f') [(0,f.Nodes.length)] 0 res/\PB H ws P' (fs++res.toList) z e (j+1)/\P.N.length<=P'.N.length/\(res=none->P'.N.length=P.N.length)/\∀f,res=some f->P'.N.length<=P.N.length+f.Nodes.length:=by
 obtain⟨v08,E,T,q,h1,h2,h3⟩:=p.ex;have h4:=p.gen;have h5:=p.nl;have h6:=p.rl;obtain⟨ra,k1,k2,rfl⟩:=q.has.at_ a f ha;obtain⟨rb,l1,l2,rfl⟩:=q.has.at_ b f' hb;obtain⟨res,P',g1,g2,g3,g4,g5,g6,g7⟩:=z0n hh q (by omega) (by omega) (by omega) (by rw[q.has.len];omega) hn k1 l1;rw[q.has.len]at g1;have hU:=z82 q.has.co q.kr (fun w hw=>(hh.ok w hw).1) k2 l2 (fun x=>q.shr ra (zX k1) rb (zX l1) x) g2;have hk:P'.N.length<=P.N.length+96:=by rcases res with _|f;have:=g6 rfl;omega;have h8:=g7 f rfl;have:=(g3.rd (k:=fs.length) (f:=f) (by simp)).nl;omega
 exact⟨res,P',g1,hU,⟨⟨v08,E,_,g3,h1,h2,by omega⟩,by rw[g4];omega,by omega,by cases res<;>simp<;>omega⟩,g5,g6,g7⟩
def PB.read(p:PB H ws P fs z e j){n:Nat}(hj:j<=200)(hn:3000000<=n){k:Nat}{f:GFS}(h:fs[k]? = some f):DZ n P (k:Int)=some (f,true):=p.has.read (by have:=p.nl;omega) h
def PB.eq(p:PB H ws P fs z e j)(hz:z<=1000){n:Nat}(hn:3000000<=n){k:Nat}(h:fs[k]? = some f):QM n f f=some true:=by have:=p.rd h;have hs:dG f 1000:=⟨Nat.le_trans this.nl hz,this.al⟩;rw[quv hs hs hn,qtc.2 rfl];rfl
def PB.more(p:PB H ws P fs z e j){j':Nat}(h:j<=j'):PB H ws P fs z e j':=by obtain⟨v08,E,T,q,h1,h2,h3⟩:=p.ex;have h4:=p.gen;have h5:=p.nl;have h6:=p.rl;exact⟨⟨v08,E,T,q,h1,h2,by omega⟩,by omega,by omega,by omega⟩
def qv8(hh:qU H ws):FM H gD:=by have h1:=hh.tl;have h2:=hh.pos;refine⟨⟨by decide,by decide⟩,by decide,fun x hx=>?_,rfl,fun x hx=>?_⟩;simp[gD]at hx;subst hx;exact⟨⟨Int.le_refl _,by show(0:Int)<_;omega⟩,Yt.nil _ _⟩;simp[gD]at hx;subst hx;exact⟨Int.le_refl _,List.Pairwise.nil,nofun⟩
def FM.okG(hh:qU H ws)(hf:FM H f):OkG ws f:=⟨hf.gok,fun x hx=>by have:=(hf.nok x hx).1;have:=hh.tl;omega,hf.ne,hf.can⟩
end
end Go.Proofs
namespace Go.Proofs
open Go Go.Rx Go.Vx Tryz
set_option maxRecDepth 20000
set_option maxHeartbeats 4000000
set_option synthInstance.maxSize 4000
set_option synthInstance.maxHeartbeats 200000
theorem PL.low{n0 kp:Nat}{h0:Z (Nat×B)}{P:PP}{h:Z (Nat×B)}{nx:Nat}(p:PL n0 h0 kp P h nx){k:Nat}{b:B}(hk:k<n0)(hb:gt h0 k=some b):eK h k b:=⟨by rw[p.lo k hk];exact hb⟩
def LQ{h:Z (Nat×B)}{nx k:Nat}{q:Z U}{e:O}[g:eK h k (.row q e)]:Go.Vx.live ⟨h,nx⟩ k 0=true:=by simp[Go.Vx.live,g.h];rfl
def Lv(fs:Z GFS)(al:I GFS)(lv:Int):Prop:=(al=none/\lv= -1)\/∃(k:Nat)(f:GFS),al=some f/\lv=(k:Int)/\fs[k]? = some f
def Lv.more{fs:Z GFS}{al:I GFS}{lv:Int}(h:Lv fs al lv)(t:Z GFS):Lv (fs++t) al lv:=by rcases h with h |⟨k,f,h1,h2,h3⟩;exact .inl h;exact .inr ⟨k,f,h1,h2,by rw[List.getElem?_append_left (zG.1 h3).1];exact h3⟩
def YH{n:Nat}(hn:3000000<=n)(d:Z bC)(a b c:GFS):dJ prog 6 [.iM bJ d,.agg [.iM bD a.Nodes,.iM bD b.Nodes,.iM bD c.Nodes]] (.bool true):=by
 obtain⟨g,ws,hg,hh⟩:=z7d d (n:=n) (by omega);refine eO 165 fn6 ?_;refine goN ?_;refine aK rfl (pC (qhx n d g hg) _) fn9 ?_;refine goN ?_;refine RS.w rfl (fA rfl rfl (AD (i:=0) (off':=0) rG.h (bZ iU.h) rfl (by decide) rfl)) ?_;refine goN ?_;refine RS.w rfl (fA rfl rfl (AD (i:=1) (off':=1) rG.h (bZ iU.h) rfl (by decide) rfl)) ?_;refine goN ?_;refine RS.w rfl (fA rfl rfl (AD (i:=2) (off':=2) rG.h (bZ iU.h) rfl (by decide) rfl)) ?_;refine goN ?_;refine xV rfl (eT.bsf (cs:=kH a++(kH b++kH c)) (rs:=List.map kH [a,b,c]) tb_ok rfl pe.h iU.h rfl rfl rfl rfl rfl rfl rfl rfl rfl rfl rfl (Ep (Nk 0 _) (Ep (Nk 0 _) (Nk 0 _)))) ?_;rintro _ _ ⟨rfl,rfl⟩;refine goN ?_;obtain⟨bb,hb,eG⟩:=z7a g (l:=[a,b,c]) (by simp) (n:=n) (by omega);refine aK rfl (pC (qpr n g [a,b,c] bb hb) _) Wc ?_;refine goN ?_;have fin:∀(h:Z (Nat×B))(nx:Nat),aV prog 11 [] ⟨h,nx⟩ (fun u X'=>u=.bool true/\X'=⟨h,nx⟩):=fun h nx=>We (n:=n) (by omega) h nx;cases bb with
 |false=>refine dS rfl (fun _=>?_) (fun q=>by cases q);refine goN ?_;refine aK rfl (fin _ _) OI ?_;refine goN ?_;exact rt1 rfl rfl rfl rfl|true=>
 refine dS rfl (fun q=>by cases q) (fun _=>?_);have hf:=eG rfl;refine goN ?_;refine lK rfl (g9 rfl Bl rfl).2 (z5n g [(1,.row (m5 g) 27),(0,.row [.iM bD a.Nodes,.iM bD b.Nodes,.iM bD c.Nodes] 56)] 3) rfl rfl ?_;rintro _ _ ⟨rfl,rfl⟩;refine goN ?_;have fa:=hf a (by simp);have fb:=hf b (by simp);have fc:=hf c (by simp);have na:=fa.sm.nodes;have nb:=fb.sm.nodes;have nc:=fc.sm.nodes;have p0:PL 3 [(1,.row (m5 g) 27),(0,.row [.iM bD a.Nodes,.iM bD b.Nodes,.iM bD c.Nodes] 56)] 4 (tI g) (FH g 3 [(1,.row (m5 g) 27),(0,.row [.iM bD a.Nodes,.iM bD b.Nodes,.iM bD c.Nodes] 56)]) 6:=z5o g (zF _) fun _ _=>rfl;obtain⟨P1,q1,b1,_⟩:=(PB.new (H:=g) (ws:=ws)).put hh (by omega) fa;have q1:sH (tI g) a=some ((0:Int),P1):=q1;obtain⟨h1,n1,e1,p1⟩:=Me p0 q1;obtain⟨P2,q2,b2,_⟩:=b1.put hh (by omega) fb;have q2:sH P1 b=some ((1:Int),P2):=q2;obtain⟨h2,n2,e2,p2⟩:=Me p1.pl q2;obtain⟨P3,q3,b3,_⟩:=b2.put hh (by omega) fc;have q3:sH P2 c=some ((2:Int),P3):=q3;obtain⟨h3,n3,e3,p3⟩:=Me p2.pl q3;obtain⟨P4,q4,b4,_⟩:=b3.put hh (by omega) (qv8 hh);have q4:sH P3 gD=some ((3:Int),P4):=q4;obtain⟨h4,n4,e4,p4⟩:=Me p3.pl q4
 haveI:eK (FH g 3 [(1,.row (m5 g) 27),(0,.row [.iM bD a.Nodes,.iM bD b.Nodes,.iM bD c.Nodes] 56)]) 0 (.row [.iM bD a.Nodes,.iM bD b.Nodes,.iM bD c.Nodes] 56):=p0.low (by omega) rfl
 haveI:eK h1 0 (.row [.iM bD a.Nodes,.iM bD b.Nodes,.iM bD c.Nodes] 56):=p1.pl.low (by omega) rfl
 haveI:eK h2 0 (.row [.iM bD a.Nodes,.iM bD b.Nodes,.iM bD c.Nodes] 56):=p2.pl.low (by omega) rfl
 refine dE [(4,3),(5,3),(6,3),(8,3),(8,7),(9,3),(9,7),(10,3),(10,7),(12,3),(12,7),(12,11)] ?_;refine cU ?_;refine bM rfl (fA rfl rfl (AD (i:=0) (off':=0) rG.h (bZ iU.h) LQ (by decide) rfl)) ?_;refine cU ?_;refine ET (by exact Go.Vx.wA) (g9 rfl wC rfl).2 e1 rfl rfl ?_;refine cU ?_;refine bM rfl (fA rfl rfl (AD (i:=1) (off':=1) rG.h (bZ iU.h) LQ (by decide) rfl)) ?_;refine cU ?_;refine ET (by exact Go.Vx.wA) (g9 rfl wC rfl).2 e2 rfl rfl ?_;refine cU ?_;refine bM rfl (fA rfl rfl (AD (i:=2) (off':=2) rG.h (bZ iU.h) LQ (by decide) rfl)) ?_;refine cU ?_;refine ET (by exact Go.Vx.wA) (g9 rfl wC rfl).2 e3 rfl rfl ?_;refine cU ?_;refine dV rfl (pC (qqj n 0 gD rfl)) Wb ?_;refine cU ?_;refine ET (by exact Go.Vx.wA) (g9 rfl wC rfl).2 e4 rfl rfl ?_;refine cU ?_;refine bN ⟨by kernel_rfl,⟨mW rfl,(fA rfl rfl (AD (i:=1) (off':=1) rG.h (bZ iU.h) LQ (by decide) rfl)),opn,mW rfl,mW rfl,(fA rfl rfl (AD (i:=2) (off':=2) rG.h (bZ iU.h) LQ (by decide) rfl)),(fA rfl rfl (AD (i:=2) (off':=2) rG.h (bZ iU.h) LQ (by decide) rfl)),opn,opn,mW rfl,mW rfl,mW rfl,trivial⟩,?_⟩;refine goN ?_;refine bT (u:=.agg [.i6 0,.i6 0]) rfl (QB rfl (by kernel_rfl)) ?_;refine goN ?_;refine bT (u:=.agg [.i6 0,.i6 3]) rfl (QB rfl (by kernel_rfl)) ?_;refine goN ?_;refine bT (u:=.agg [.i6 3,.i6 0]) rfl (QB rfl (by kernel_rfl)) ?_;refine goN ?_;refine xV rfl (eT.bsf (cs:=[.i6 0,.i6 0,.i6 0,.i6 3,.i6 3,.i6 0]) (rs:=List.map Zi [⟨0,0⟩,⟨0,3⟩,⟨3,0⟩]) tb_ok rfl pd.h h_.h rfl rfl rfl rfl rfl rfl rfl rfl rfl rfl rfl (by simp[aF,aP])) ?_;rintro _ _ ⟨rfl,rfl⟩;refine goN ?_;have oa:=fa.okG hh;have ob:=fb.okG hh;have oc:=fc.okG hh;have ot:=(qv8 hh).okG hh;have hw:∀w∈ws,w≠0:=fun w hw=>(hh.ok w hw).1;have ulg:∀{f f':GFS},OkG ws f->OkG ws f'->LG ws (Lj f f'):=fun{f f'} o o'=>Kx o.gok o'.gok o.kg o'.kg;have upos:∀{f f':GFS},OkG ws f->0<(Lj f f').length:=fun{f f'} o=>by rw[LZ];have:=o.ne;omega
 refine gL (fun m tm X=>∃(i:Nat)(P:PP)(t:Z GFS)(h:Z (Nat×B))(nx:Nat),m=3-i/\i<=3/\PB g ws P ([a,b,c,gD]++t) 37 444 (4+i)/\PL 3 [(1,.row (m5 g) 27),(0,.row [.iM bD a.Nodes,.iM bD b.Nodes,.iM bD c.Nodes] 56)] 4 P h nx/\tm=fr 165 ([(3,.ptr 0 0 0),(6,.ptr 4 0 0),(7,.i6 0),(8,.i6 1),(9,.i6 2),(10,.i6 3),(70,.iM Zi [⟨0,0⟩,⟨0,3⟩,⟨3,0⟩]),(71,.i6 3),(72,.i6 i)])/\X=⟨h,nx⟩)
  (fun tm X=>∃(P:PP)(t:Z GFS)(h:Z (Nat×B))(nx:Nat),PB g ws P ([a,b,c,gD]++t) 37 444 7/\PL 3 [(1,.row (m5 g) 27),(0,.row [.iM bD a.Nodes,.iM bD b.Nodes,.iM bD c.Nodes] 56)] 4 P h nx/\tm=fr 165 [(3,.ptr 0 0 0),(6,.ptr 4 0 0),(7,.i6 0),(8,.i6 1),(9,.i6 2),(10,.i6 3)]/\X=⟨h,nx⟩) (3-0)
  ⟨0,P4,[],_,_,rfl,Nat.zero_le _,by obtain⟨⟨v08,E,T,r1,r2,r3,r4⟩,r5,r6,r7⟩:=b4;have:gD.Nodes.length=1:=rfl;exact⟨⟨v08,E,T,r1,by omega,by omega,r4⟩,r5,r6,r7⟩,p4.pl.up (Nat.le_succ _),rfl,rfl⟩ ?_ ?_
 ·rintro _ _ ⟨P,t,h,nx,hP,p,rfl,rfl⟩;refine goN ?_;obtain⟨r1,P5,u1,u2,B5,_⟩:=hP.unify hh (by omega) (by omega) (by omega) hn (a:=0) (b:=1) (f:=a) (f':=b) rfl rfl;refine lK rfl (g9 rfl u6 rfl).2 (Nn p n u1) rfl rfl ?_;rintro _ _ ⟨h5,n5,rfl,rfl,p5⟩;refine goN ?_;refine fK (fun tm X=>∃(P:PP)(t:Z GFS)(h:Z (Nat×B))(nx:Nat)(lv:Int)(rl:I GFS),PB g ws P ([a,b,c,gD]++t) 37 444 9/\PL 3 [(1,.row (m5 g) 27),(0,.row [.iM bD a.Nodes,.iM bD b.Nodes,.iM bD c.Nodes] 56)] 4 P h nx/\(∀u,r1=some u->UA ws (Lj u c) [(0,u.Nodes.length)] 0 rl)/\Lv ([a,b,c,gD]++t) (r1.bind fun _=>rl) lv/\tm=fr 165 [(3,.ptr 0 0 0),(6,.ptr 4 0 0),(7,.i6 0),(8,.i6 1),(9,.i6 2),(10,.i6 3),(17,.i6 lv),(18,.i6 (-1))]/\X=⟨h,nx⟩) ?_ ?_
  ·rintro _ _ ⟨P,t,h,nx,lv,rl,hP,p,AV,AU,rfl,rfl⟩;refine goN ?_;obtain⟨r2,P7,w1,w2,B7,_⟩:=hP.unify hh (by omega) (by omega) (by omega) hn (a:=1) (b:=2) (f:=b) (f':=c) rfl rfl;refine lK rfl (g9 rfl u6 rfl).2 (Nn p n w1) rfl rfl ?_;rintro _ _ ⟨h7,n7,rfl,rfl,p7⟩;refine goN ?_;refine fK (fun tm X=>∃(P:PP)(t:Z GFS)(h:Z (Nat×B))(nx:Nat)(rv:Int)(rr:I GFS),PB g ws P ([a,b,c,gD]++t) 37 444 11/\PL 3 [(1,.row (m5 g) 27),(0,.row [.iM bD a.Nodes,.iM bD b.Nodes,.iM bD c.Nodes] 56)] 4 P h nx/\(∀u,r2=some u->UA ws (Lj a u) [(0,a.Nodes.length)] 0 rr)/\Lv ([a,b,c,gD]++t) (r1.bind fun _=>rl) lv/\Lv ([a,b,c,gD]++t) (r2.bind fun _=>rr) rv/\tm=fr 165 [(3,.ptr 0 0 0),(6,.ptr 4 0 0),(7,.i6 0),(8,.i6 1),(9,.i6 2),(10,.i6 3),(17,.i6 lv),(18,.i6 rv)]/\X=⟨h,nx⟩) ?_ ?_;rintro _ _ ⟨P,t,h,nx,rv,rr,hP,p,hr1,AU,hr2,rfl,rfl⟩;have same:=z4h hw hh.nod oa ob oc u2 AV w2 hr1;rw[<-same]at hr2;refine goN ?_;rcases AU with⟨e,rfl⟩|⟨k,f,e,rfl,hk⟩;have hr2:rv= -1:=by rcases hr2 with⟨_,h⟩|⟨k',f',e',_⟩;exact h;rw[e]at e';cases e'
   subst hr2;refine goN ?_;refine dS rfl (fun _=>?_) (fun q=>absurd q (by decide));refine goN ?_;refine aK rfl (fin _ _) OI ?_;refine goN ?_;exact rt1 rfl rfl rfl rfl;obtain⟨k',rfl,oR⟩:∃k':Nat,rv=(k':Int)/\([a,b,c,gD]++t)[k']? = some f:=by rcases hr2 with⟨e',_⟩|⟨k',f',e',h1,h2⟩;rw[e]at e';cases e';rw[e]at e';cases e';exact⟨k',h1,h2⟩
   have hR1:=hP.read (by omega) hn hk;have Ur:=hP.read (by omega) hn oR;have hE:=hP.eq (by omega) hn hk;rw[decide_eq_false (show ¬ (k:Int)<0 by omega)];refine goN ?_;rw[decide_eq_false (show ¬ (k':Int)<0 by omega)];refine dS rfl (fun q=>by cases q) (fun _=>?_)
   haveI:SuC nx (nx+1):=⟨rfl⟩
   haveI:SuC (nx+1) (nx+2):=⟨rfl⟩
   haveI:Nq (nx+1) nx:=⟨by rw[beq_eq];simp⟩
   refine goN ?_;refine lK rfl (g9 rfl D8 rfl).2 (av p n hR1) rfl rfl ?_;rintro _ _ ⟨rfl,rfl⟩;refine goN ?_;refine lK rfl (g9 rfl D8 rfl).2 (av (p.more _) n Ur) rfl rfl ?_;rintro _ _ ⟨rfl,rfl⟩;refine goN ?_;refine aK rfl (pC (wc n f f true hE) _) HU ?_;refine goN ?_;refine aK rfl (fin _ _) OI ?_;refine goN ?_;exact rt1 rfl rfl rfl rfl
   ·cases r2 with
    |none=>refine dS rfl (fun q=>by cases q) (fun _=>?_);refine goN ?_;refine⟨_,_,⟨P7,t,h7,n7,-1,none,(by simpa using B7.more (j':=11) (by omega)),p7.pl,nofun,AU,.inl ⟨rfl,rfl⟩,rfl,rfl⟩,Nat.zero_le _,Gh.sub (by((repeat refine⟨rfl,?_⟩);exact trivial))⟩|some u=>
     refine dS rfl (fun _=>?_) (fun q=>by cases q);have B7:PB g ws P7 (([a,b,c,gD]++t)++[u]) 37 444 10:=B7;have qZ:(([a,b,c,gD]++t)++[u])[([a,b,c,gD]++t).length]? = some u:=by simp
     obtain⟨rr,P8,v1,v2,B8,_⟩:=B7.unify hh (by omega) (by omega) (by omega) hn (a:=0) (f:=a) rfl qZ;refine goN ?_;refine lK rfl (g9 rfl u6 rfl).2 (Nn p7.pl n v1) rfl rfl ?_;rintro _ _ ⟨h8,n8,rfl,rfl,p8⟩;refine goN ?_;have hl3:Lv ([a,b,c,gD]++(t++([u]++rr.toList))) (r1.bind fun _=>rl) lv:=by have:=AU.more ([u]++rr.toList);simpa using this
     have B8:PB g ws P8 ([a,b,c,gD]++(t++([u]++rr.toList))) 37 444 11:=by simpa using B8
     cases rr with|none=>refine dS rfl (fun q=>by cases q) (fun _=>?_);refine goN ?_;refine⟨_,_,⟨P8,_,h8,n8,-1,none,B8,p8.pl,fun u' e=>(by cases e;exact v2),hl3,.inl ⟨rfl,rfl⟩,rfl,rfl⟩,Nat.zero_le _,Gh.sub (by((repeat refine⟨rfl,?_⟩);exact trivial))⟩|some w=>refine dS rfl (fun _=>?_) (fun q=>by cases q);refine goN ?_;refine⟨_,_,⟨P8,_,h8,n8,_,some w,B8,p8.pl,fun u' e=>(by cases e;exact v2),hl3,.inr ⟨([a,b,c,gD]++t++[u]).length,w,rfl,rfl,by simp⟩,rfl,rfl⟩,Nat.zero_le _,Gh.sub (by((repeat refine⟨rfl,?_⟩);exact trivial))⟩
  ·cases r1 with
   |none=>refine dS rfl (fun q=>by cases q) (fun _=>?_);refine goN ?_;refine⟨_,_,⟨P5,t,h5,n5,-1,none,(by simpa using B5.more (j':=9) (by omega)),p5.pl,nofun,.inl ⟨rfl,rfl⟩,rfl,rfl⟩,Nat.zero_le _,Gh.sub (by((repeat refine⟨rfl,?_⟩);exact trivial))⟩|some u=>
    refine dS rfl (fun _=>?_) (fun q=>by cases q);have B5:PB g ws P5 (([a,b,c,gD]++t)++[u]) 37 444 8:=B5;have qZ:(([a,b,c,gD]++t)++[u])[([a,b,c,gD]++t).length]? = some u:=by simp
    obtain⟨rl,P6,v1,v2,B6,_⟩:=B5.unify hh (by omega) (by omega) (by omega) hn (b:=2) (f':=c) qZ rfl;refine goN ?_;refine lK rfl (g9 rfl u6 rfl).2 (Nn p5.pl n v1) rfl rfl ?_;rintro _ _ ⟨h6,n6,rfl,rfl,p6⟩;refine goN ?_;have B6:PB g ws P6 ([a,b,c,gD]++(t++([u]++rl.toList))) 37 444 9:=by simpa using B6
    cases rl with|none=>refine dS rfl (fun q=>by cases q) (fun _=>?_);refine goN ?_;refine⟨_,_,⟨P6,_,h6,n6,-1,none,B6,p6.pl,fun u' e=>(by cases e;exact v2),.inl ⟨rfl,rfl⟩,rfl,rfl⟩,Nat.zero_le _,Gh.sub (by((repeat refine⟨rfl,?_⟩);exact trivial))⟩|some w=>refine dS rfl (fun _=>?_) (fun q=>by cases q);refine goN ?_;refine⟨_,_,⟨P6,_,h6,n6,_,some w,B6,p6.pl,fun u' e=>(by cases e;exact v2),.inr ⟨([a,b,c,gD]++t++[u]).length,w,rfl,rfl,by simp⟩,rfl,rfl⟩,Nat.zero_le _,Gh.sub (by((repeat refine⟨rfl,?_⟩);exact trivial))⟩
 rintro m _ _ ⟨i,P,t,h,nx,rfl,hi,hP,p,rfl,rfl⟩
 haveI:SuC nx (nx+1):=⟨rfl⟩
 refine goN ?_;refine dS rfl (fun h1=>?_) (fun h1=>?_)
 ·have lV:i<3:=by have:(i:Int)<3:=(by simpa using h1);omega
  obtain⟨x,y,f,f',kM,hx,hy,hU⟩:∃(x y:Nat)(f f':GFS),aC [(⟨0,0⟩:cz),⟨0,3⟩,⟨3,0⟩] (i:Int)=some ⟨(x:Int),(y:Int)⟩/\([a,b,c,gD]++t)[x]? = some f/\([a,b,c,gD]++t)[y]? = some f'/\(OkG ws f/\OkG ws f'/\UA ws (Lj f f') [(0,f.Nodes.length)] 0 (some a)):=by
   match i,lV with
   |0,_=>exact⟨0,0,a,a,rfl,rfl,rfl,oa,oa,z8o oa⟩|1,_=>exact⟨0,3,a,gD,rfl,rfl,rfl,oa,ot,VM hh oa.gok oa.kg oa.ne oa.can⟩
   |2,_=>exact⟨3,0,gD,a,rfl,rfl,rfl,ot,oa,LC hh oa.gok oa.kg oa.ne oa.can⟩
  obtain⟨res,P',u1,u2,u3,_⟩:=hP.unify hh (by omega) (by omega) (by omega) hn hx hy;have vP:res=some a:=UA.uniq hh.nod hw (ulg hU.1 hU.2.1) (upos hU.1) u2 hU.2.2;subst vP;have u1:yF n P (x:Int) (y:Int)=some (((([a,b,c,gD]++t).length:Int),true),P'):=u1;have qZ:(([a,b,c,gD]++t)++[a])[([a,b,c,gD]++t).length]? = some a:=by simp
  have hR:=u3.read (by omega) hn qZ;have hE:=u3.eq (by omega) hn qZ;refine goN ?_;apply aR;refine goN ?_;refine aW kM ?_;refine goN ?_;refine RS.w rfl (fA rfl rfl (AD (i:=0) (off':=0) Jq.h (bZ pX.h) LQ (by decide) rfl)) ?_;refine goN ?_;refine RS.w rfl (fA rfl rfl (AD (i:=1) (off':=1) Jq.h (bZ pX.h) LQ (by decide) rfl)) ?_;refine goN ?_;refine lK rfl (g9 rfl u6 rfl).2 (Nn (p.more _) n u1) rfl rfl ?_;rintro _ _ ⟨h',n',rfl,rfl,p'⟩
  haveI:SuC n' (n'+1):=⟨rfl⟩
  refine goN ?_;refine lK rfl (g9 rfl D8 rfl).2 (av p'.pl n hR) rfl rfl ?_;rintro _ _ ⟨rfl,rfl⟩
  haveI:eK ((n',.row (kH a) 39)::h') 0 (.row [.iM bD a.Nodes,.iM bD b.Nodes,.iM bD c.Nodes] 56):=(p'.pl.more (.row (kH a) 39)).low (by omega) rfl
  refine goN ?_;refine RS.w rfl (fA rfl rfl (AD (i:=0) (off':=0) rG.h (bZ iU.h) LQ (by decide) rfl)) ?_;refine goN ?_;refine aK rfl (pC (wc n a a true hE) _) HU ?_;refine goN ?_;refine dS rfl (fun q=>absurd q (by decide)) (fun _=>?_);refine goN ?_;have kN:IntKind.i64.wrap ((i:Int)+1)=((i+1:Nat):Int):=by rw[oA (by omega) (by omega)];rfl
  refine⟨3-(i+1),_,_,by omega,⟨i+1,P',t++[a],_,_,rfl,lV,by rw[<-zT];exact u3,p'.pl.more (.row (kH a) 39),rfl,rfl⟩,Nat.zero_le _,Gh.sub ?_⟩;rw[<-kN];(repeat refine⟨rfl,?_⟩);exact trivial
 ·refine goN ?_;have HD:i=3:=by have:¬ (i:Int)<3:=(by simpa using h1);omega
  subst HD;exact⟨_,_,⟨P,t,h,nx,hP,p,rfl,rfl⟩,Nat.zero_le _,Gh.sub (by((repeat refine⟨rfl,?_⟩);exact trivial))⟩
structure DH where
 E0:GFS
 E1:GFS
 E2:GFS
def uq(x:DH):Z U:=[.isl false (x.E0.Nodes.map bD),.isl false (x.E1.Nodes.map bD),.isl false (x.E2.Nodes.map bD)]
def qdl(n:Nat)(p1:Z bC)(p2:DH):I BQ:=aG (3000000<=n) (some true)
def qhv(n:Nat)(p1:Z bC)(p2:DH)(r:BQ)(J:qdl n p1 p2=some r):dJ prog 6 [.isl false (p1.map bJ),.agg (uq p2)] (.bool r):=by obtain⟨h1,J⟩:=cQ J;obtain rfl:=sI J;exact YH h1 p1 p2.E0 p2.E1 p2.E2
def z31(p1:Z bC)(p2:DH){n:Nat}(hn:3000000<=n):qdl n p1 p2=some true:=if_pos hn
end Go.Proofs
