import Derived.Test.YtldlchbgolpkaaaGreatP19
set_option linter.all false
namespace Go.Proofs
open Go Go.Rx Go.Vx
set_option maxRecDepth 10000
variable{N:Nat}
variable{L:I aM}
variable{r:Nat->Nat}
theorem CD.clo{W:I (Int×Int)}{r':Nat->Nat}{out:I Int}{C:I aT}(hL:AA N [] L)(h:CD N L W r out C r'):I4 L r':=fun i j x y a b hi hj e ha hb hf=>by
 obtain⟨a',p1,p2,p3⟩:=h.tc.cov i x a hi ha;obtain⟨b',q1,q2,q3⟩:=h.tc.cov j y b hj hb;have il:=(zG.1 hi).1;rw[hL.len]at il;rw[<-e]at q1;have:a'=b':=(h.ds _ (h.ck.lt il)).eq a' p1 b' q1 (by omega);subst this;have e1:=p3 r' (fun _ _ _ _ e=>e) (fun _ hz=>by cases hz);have e2:=q3 r' (fun _ _ _ _ e=>e) (fun _ hz=>by cases hz);omega
variable{i:Nat}
theorem zch(h:i<N):(uX 0 N)[i]? = some (i:Int):=by simp[uX,h]
def tdo(r:Nat->Nat)(i:Nat):I i5:=((List.range i).filter fun(j:Nat)=>r j != j).map fun(j:Nat)=>⟨(j:Int),(r j:Int)⟩
theorem ja{v11:Type}{l:I v11}(hi:i<N){x:v11}(hx:l[i]? = some x):iU l 0 N (i:Int)=some x:=by have:=xz hi hx;rwa [zZ]at this
theorem z97(r:Nat->Nat)(i:Nat):tdo r (i+1)=tdo r i++(if r i=i then[]else[⟨(i:Int),(r i:Int)⟩]):=by simp only[tdo,List.range_succ,List.filter_append,List.map_append];by_cases e:r i=i;rw[if_pos e];simp[e];rw[if_neg e];simp[e]
theorem z6h(r:Nat->Nat)(i:Nat):(tdo r i).length<=i:=by have:=List.length_filter_le (fun(j:Nat)=>r j != j) (List.range i);simpa[tdo]using this
theorem z9m{N:Nat}{L:I aM}{cl r3:I Int}{r:Nat->Nat}(rL:L.length=N)(hN:N<=1000)(h:CK N cl r){n:Nat}:∀(m i:Nat),N-i<m->i<=N->
  T8 L cl n r3 m (i:Int) (tdo r i) ((L.take i).map aM.Arcs++List.replicate (N-i) [])=Sv L n r3 (tdo r N) (L.map aM.Arcs)
 |0,i,hm,_=>by omega
 |m+1,i,hm,hi=>by
  unfold T8;have DF:=z6h r i;by_cases aE:i<N;have gO:i<L.length:=by omega
  obtain⟨x,hx,_⟩:=eI gO;have hw:IntKind.i64.wrap ((i:Int)+1)=((i+1:Nat):Int):=iG aE (by omega);have hv:iU ((L.take i).map aM.Arcs++List.replicate (N-i) ([]:I aK)) 0 L.length (i:Int)=some []:=by refine ja gO ?_;rw[List.getElem?_append_right (by simp only[yA,List.length_take];omega)];simp only[yA,List.length_take,List.getElem?_replicate];rw[if_pos (by omega)]
  have K5:((L.take i).map aM.Arcs++List.replicate (N-i) ([]:I aK)).set i x.Arcs=(L.take (i+1)).map aM.Arcs++List.replicate (N-(i+1)) []:=by
   obtain⟨k,hk⟩:∃k,N-i=k+1:=⟨N-i-1,by omega⟩;rw[hk,show N-(i+1)=k by omega,j5 hx,List.map_append,List.replicate_succ,List.set_append_right _ _ (by simp only[yA,List.length_take];omega)];have:i-((L.take i).map aM.Arcs).length=0:=by simp only[yA,List.length_take];omega
   rw[this];simp
  have ih:=z9m (r3:=r3) rL hN h (n:=n) m (i+1) (by omega) (by omega);simp only[gS gO,zC,cH,hx,aP,hv,h.get i aE,Sw,hw,zZ,K5];rw[z97]at ih;by_cases e:r i=i;have eb:((r i:Int) != (i:Int))=false:=by rw[e];simp
  rw[if_pos e,List.append_nil]at ih;rw[eb,zD,ih];have eb:((r i:Int) != (i:Int))=true:=by simp only[bne_iff_ne,ne_eq];omega
  rw[if_neg e]at ih;rw[eb,zC,fO (by omega),ih];have:i=N:=by omega
  subst this;have gO:¬ i<L.length:=by omega
  simp only[hZ gO,zD];rw[zW (by omega),Nat.sub_self,List.replicate_zero,List.append_nil]
def Ep(x:aM):aT:=⟨-1,0,x.Arcs⟩
theorem jd{x:aM}(h:L[i]? = some x):celN (L.map Ep) i=Ep x:=by simp[celN,h]
structure CR(N:Nat)(L:I aM)(r r':Nat->Nat)(out:I Int):Prop where
 ck:CK N out r'
 clo:I4 L r'
 up:∀i j,i<N->j<N->r i=r j->r' i=r' j
 low:∀q,I4 L q->(∀i j,i<N->j<N->r i=r j->q i=q j)->∀i j,i<N->j<N->r' i=r' j->q i=q j
variable{n:Nat}
theorem z7g(hL:AA N [] L)(hN:N<=1000)(hD:∀x∈L,mA x.Arcs/\x.Arcs.length<=12){cl:I Int}(h:CK N cl r)(hn:200000<=n):∃out r',Rc n L cl=some out/\CR N L r r' out:=by
 have rL:=hL.len;have DF:=z6h r N;have hap:=z74 (N:=N) (by omega) (n:=n) (by omega);have l1:=z9m (r3:=uX 0 N) rL hN h (n:=n) n 0 (by omega) (by omega);rw[show tdo r 0=[]from rfl,List.take_zero,List.map_nil,List.nil_append,Nat.sub_zero,zV]at l1;have Wa:tot (L.map Ep)<=12*N:=by
  have:=J' (cells:=L.map Ep) fun c hc=>by obtain⟨x,hx,rfl⟩:=List.mem_map.1 hc;exact(hD x hx).2
  rwa [yA,rL]at this
 have mem:∀{i:Nat},i<N->∃x,L[i]? = some x:=fun{i} hi=>⟨_,List.getElem?_eq_getElem (by omega)⟩;have uP:CS N L ((tdo r N).map ua) (L.map aM.Arcs) (uX 0 N) (L.map Ep) id:=⟨⟨fp 0 N,fun i hi=>zch hi,fun _ _=>zF _,fun _ _=>rfl⟩,by simp[rL],by simp[rL],fun i hi _=>by
   obtain⟨x,hx⟩:=mem hi;rw[List.getElem?_map,hx,jd hx];rfl,fun i hi=>by
   obtain⟨x,hx⟩:=mem hi;rw[jd hx];exact(hD x (zX hx)).1,fun p hp=>by
   obtain⟨q,hq,rfl⟩:=List.mem_map.1 hp;obtain⟨j,hj,rfl⟩:=List.mem_map.1 hq;have:=List.mem_range.1 (List.mem_filter.1 hj).1;have:=h.lt this;simp only[ua];exact⟨by omega,by omega⟩,⟨fun j x a hj ha=>⟨a,by show a∈(celN _ j).arcs;rw[jd hj];exact ha,rfl,fun q _ _=>rfl⟩,fun i b hi _ hb=>by
   obtain⟨x,hx⟩:=mem hi;rw[jd hx]at hb;exact⟨i,x,hx,rfl,hb⟩,fun i hi _ k=>by
   obtain⟨x,hx⟩:=mem hi;have:eX [] (celN (L.map Ep) i).kind=0:=by simp[eX]
   rw[this,Nat.zero_testBit];exact⟨fun e=>(by cases e),fun g=>(by have:=g i x hx rfl;simp[eX]at this)⟩⟩⟩
 obtain⟨out,C',r',g1,g2⟩:=ag hL hN hn n 0 (tdo r N) (L.map aM.Arcs) (uX 0 N) (L.map Ep) id (by rw[List.drop_zero];exact uP) (by omega) (by omega) (by omega);rw[List.drop_zero]at g2;rw[zV]at g1;refine⟨out,r',?_,g2.ck,g2.clo hL,fun i j hi hj e=>?_,fun q hq hu i j hi hj e=>?_⟩;rw[Rc,rL,hap,aP,fO (by omega),zZ,l1,Sv,g1];have key:∀i,i<N->r' i=r' (r i):=fun i hi=>by by_cases e:r i=i;rw[e];have:=g2.prs ((i:Int),(r i:Int)) (List.mem_map.2 ⟨⟨(i:Int),(r i:Int)⟩,List.mem_map.2 ⟨i,List.mem_filter.2 ⟨List.mem_range.2 hi,by simpa using e⟩,rfl⟩,rfl⟩);simpa using this
 rw[key i hi,key j hj,e];refine(g2.und q hq ⟨fun i j _ _ e=>by rw[show i=j from e],fun p hp=>?_⟩).r i j hi hj e;obtain⟨z,hz,rfl⟩:=List.mem_map.1 hp;obtain⟨k,hk,rfl⟩:=List.mem_map.1 hz;have hkN:=List.mem_range.1 (List.mem_filter.1 hk).1;simp only[ua,zZ];exact hu k (r k) hkN (h.lt hkN) (h.idem k hkN).symm
theorem z5k{a b:Nat}(ha:a<4611686018427387904)(hb:b<4611686018427387904)(hn:5<=n):JC n (bt a) (bt b)=some (bt (a&&&b)):=by obtain⟨k,rfl⟩:=Nat.exists_eq_add_of_le' hn;by_cases h:a=0;subst h;rw[Nat.zero_and];have:=xa (n:=k+5) hn;simp only[JC,R8,Ij,zS,P4,this,aP];rfl;have h1:=R1 (a:=a) (b:=b) (by omega) (by omega);have h2:=wy (w:=a&&&b) (n:=k+5) hn;have e:JC (k+5) [(a:Int)] (bt b)=a8 (T1 (k+5) (bt b) 0) fun fD=>aF ((0+1)*8<=140737488355328/\0+1<=140737488355328) (P4 (k+5) [GF .u64 (a:Int) fD]):=rfl;rw[sX h,e,fi,aP,fO (by omega),P4,h1,h2];rfl
theorem z5v{h:cB}{ws:I Nat}(hh:pD h ws){c:Nat}{n:Nat}(hn:5<=n):∀(m i:Nat),ws.length-i<m->i<=ws.length->(∀(k:Nat),k<i->ws[k]? ≠some c)->
  (c∈ws->∃k:Nat,ZC h (bt c) n m (i:Int)=some ((k:Int),true)/\ws[k]? = some c)/\(c ∉ ws->ZC h (bt c) n m (i:Int)=some (0,false))
 |0,i,hm,_,_=>by omega
 |m+1,i,hm,hi,eH=>by have hl:=hh.tl;have Wr:=hh.len;unfold ZC;by_cases aE:i<ws.length;obtain⟨w,hw,FL⟩:=eI aE;obtain⟨t,ht,he⟩:=hh.at hw;simp only[hl,gS aE,zC,cH,ht,aP,he,na hn,iG aE (show ws.length<=9223372036854775807 by omega)];by_cases e:w=c;simp only[e,yC,zC];exact⟨fun _=>⟨i,rfl,by rw[hw,e]⟩,fun q=>absurd (e ▸ FL) q⟩;simp only[e,yB,zD];exact z5v hh hn m (i+1) (by omega) (by omega) (fun k hk=>by by_cases e2:k=i;subst e2;rw[hw];intro q;exact e (Option.some.inj q);exact eH k (by omega));simp only[hl,hZ aE,zD,lg];refine⟨fun hc=>?_,fun _=>trivial⟩;obtain⟨q,hq⟩:=List.mem_iff_getElem?.1 hc;have:=(zG.1 hq).1;exact absurd hq (eH q (by omega))
theorem XU{h:cB}{ws:I Nat}(hh:pD h ws){s t:Int}(hs:0<=s/\s<(ws.length:Int))(ht:0<=t/\t<(ws.length:Int))(hn:2000<=n):
  ∃r,Qr n h s t=some r/\(r.2=false->eX ws s&&&eX ws t=0)/\(r.2=true->(0<=r.1/\r.1<(ws.length:Int))/\eX ws r.1=eX ws s&&&eX ws t):=by
 have c1:=GZ hs;have c2:=GZ ht;obtain⟨x,hx,ex⟩:=hh.at c1;obtain⟨y,hy,ey⟩:=hh.at c2;have m1:=zX c1;have m2:=zX c2;have Wr:=hh.len;have i1:aB h.Types s=some x:=by rw[show s=((s.toNat:Nat):Int) by omega,cH];exact hx
 have i2:aB h.Types t=some y:=by rw[show t=((t.toNat:Nat):Int) by omega,cH];exact hy
 obtain⟨f1,f2⟩:=z5v hh (c:=eX ws s&&&eX ws t) (n:=n) (by omega) n 0 (by omega) (by omega) (fun k hk=>by omega);rw[zV]at f1 f2;simp only[Qr,i1,i2,aP,ex,ey,z5k (hh.ok _ m1).2 (hh.ok _ m2).2 (show 5<=n by omega),vd];by_cases e:eX ws s&&&eX ws t=0;rw[f2 (fun q=>(hh.ok _ q).1 e)];exact⟨_,rfl,fun _=>e,fun q=>by cases q⟩;obtain⟨k,g1,g2⟩:=f1 (hh.cls _ m1 _ m2 e);rw[g1];refine⟨_,rfl,(fun q=>by cases q),fun _=>⟨?_,?_⟩⟩;have:=(zG.1 g2).1;simp only;omega;simp only[eX,zZ,g2,Option.getD_some]
structure TI(ws:I Nat)(N:Nat)(L:I aM)(r:Nat->Nat)(i:Nat)(o:I Int):Prop where
 len:o.length=N
 at_:∀c,c<N->∃t,o[c]? = some t/\(0<=t/\t<(ws.length:Int))/\∀k,(eX ws t).testBit k=true↔(eX ws 0).testBit k=true/\∀(j:Nat)(x:aM),j<i->L[j]? = some x->r j=c->(eX ws x.Typex).testBit k=true
def KOk(ws:I Nat)(L:I aM):Prop:=∀x∈L,0<=x.Typex/\x.Typex<(ws.length:Int)
theorem z06{h:cB}{ws:I Nat}(hh:pD h ws){N:Nat}{L:I aM}(rL:L.length=N)(hN:N<=1000)(hk:KOk ws L){cl:I Int}{r:Nat->Nat}(hc:CK N cl r){n:Nat}(hn:2000<=n):∀(m i:Nat)(o:I Int),N-i<m->i<=N->TI ws N L r i o->
  (∃o',TI ws N L r N o'/\ZH h L cl n m (i:Int) o=Sp L cl n o')\/(ZH h L cl n m (i:Int) o=some ([],false)/\∃c,c<N/\∀k,¬ ((eX ws 0).testBit k=true/\∀(j:Nat)(x:aM),L[j]? = some x->r j=c->(eX ws x.Typex).testBit k=true))
 |0,i,o,hm,_,_=>by omega
 |m+1,i,o,hm,hi,hI=>by
  unfold ZH;by_cases aE:i<N;have gO:i<L.length:=by omega
  obtain⟨x,hx,gU⟩:=eI gO;have B1:=hc.lt aE;obtain⟨t,t1,t2,t3⟩:=hI.at_ (r i) B1;have hv:iU o 0 L.length (r i:Int)=some t:=ja (by omega) t1;obtain⟨q,q1,q2,q3⟩:=XU hh t2 (hk x gU) hn;simp only[gS gO,zC,cH,hc.get i aE,aP,hv,hx,q1,zZ,iG gO (show L.length<=9223372036854775807 by omega)];cases hb:q.2 with
  |false=>refine .inr ⟨by simp only[Bool.not_false,zC],r i,B1,fun k DM=>?_⟩;have h0:=q2 hb;have:=congrArg (fun z=>z.testBit k) h0;simp only[Nat.testBit_and,Nat.zero_testBit,Bool.and_eq_false_iff]at this;rcases this with g |g;have:=(t3 k).2 ⟨DM.1,fun j y hj hy hr=>DM.2 j y hy hr⟩;rw[g]at this;cases this;have:=DM.2 i x hx rfl;rw[g]at this;cases this
  |true=>obtain⟨q4,q5⟩:=q3 hb;simp only[Bool.not_true,zD];refine z06 hh rL hN hk hc hn m (i+1) (o.set (r i) q.1) (by omega) (by omega) ⟨by simp[hI.len],fun c DS=>?_⟩;by_cases e:r i=c;subst e;refine⟨q.1,by rw[List.getElem?_set_self (by rw[hI.len];exact B1)],q4,fun k=>?_⟩;rw[q5,Nat.testBit_and,Bool.and_eq_true,t3];constructor;rintro⟨⟨g1,g2⟩,g3⟩;refine⟨g1,fun j y hj hy hr=>?_⟩;by_cases ej:j=i;subst ej;rw[hx]at hy;cases hy;exact g3;exact g2 j y (by omega) hy hr;rintro⟨g1,g2⟩;exact⟨⟨g1,fun j y hj hy hr=>g2 j y (by omega) hy hr⟩,g2 i x (by omega) hx rfl⟩;obtain⟨t',u1,u2,u3⟩:=hI.at_ c DS;refine⟨t',by rw[List.getElem?_set_ne e];exact u1,u2,fun k=>?_⟩;rw[u3];constructor;rintro⟨g1,g2⟩;refine⟨g1,fun j y hj hy hr=>?_⟩;by_cases ej:j=i;subst ej;exact absurd hr e;exact g2 j y (by omega) hy hr;rintro⟨g1,g2⟩;exact⟨g1,fun j y hj hy hr=>g2 j y (by omega) hy hr⟩
  have:i=N:=by omega
  subst this;have gO:¬ i<L.length:=by omega
  simp only[hZ gO,zD];exact .inl ⟨o,hI,rfl⟩
theorem z07{N:Nat}{L:I aM}(rL:L.length=N)(hN:N<=1000){cl:I Int}{r:Nat->Nat}(hc:CK N cl r){o0:I Int}(ho:o0.length=N):∀(m i:Nat)(o:I Int),N-i<m->i<=N->o.length=N->(∀c,c<N->o[c]? = if c<i then o0[r c]? else o0[c]?)->
  ∃o',Ix L cl m (i:Int) o=some (o',true)/\o'.length=N/\∀c,c<N->o'[c]? = o0[r c]?
 |0,i,o,hm,_,_,_=>by omega
 |m+1,i,o,hm,hi,xR,hI=>by
  unfold Ix;by_cases aE:i<N;have gO:i<L.length:=by omega
  have B1:=hc.lt aE;have oN:=hc.le i aE;have KH:=hc.idem i aE;have Yh:∀c,c<N->∃v,o0[c]? = some v:=fun c DS=>⟨_,List.getElem?_eq_getElem (by omega)⟩;obtain⟨v,hv⟩:=Yh (r i) B1;have h1:o[r i]? = some v:=by rw[hI _ B1];split;rw[KH];exact hv;exact hv
  obtain⟨w,hw⟩:=Yh i aE;have h2:o[i]? = some w:=by rw[hI i aE,if_neg (by omega)];exact hw
  simp only[gS gO,zC,cH,hc.get i aE,aP,ja (show r i<L.length by omega) h1,ja gO h2,zZ,iG gO (show L.length<=9223372036854775807 by omega)];refine z07 rL hN hc ho m (i+1) (o.set i v) (by omega) (by omega) (by simp[xR]) fun c DS=>?_;by_cases e:i=c;subst e;rw[List.getElem?_set_self (by omega),if_pos (by omega),hv];rw[List.getElem?_set_ne e,hI c DS];by_cases e2:c<i;rw[if_pos e2,if_pos (by omega)];rw[if_neg e2,if_neg (by omega)];have:i=N:=by omega
  subst this;have gO:¬ i<L.length:=by omega
  rw[hZ gO];simp only[zD,mj,rL,zZ];rw[fO xR.symm];exact⟨o,rfl,xR,fun c DS=>by rw[hI c DS,if_pos DS]⟩
structure zf(ws:I Nat)(N:Nat)(L:I aM)(r:Nat->Nat)(o:I Int):Prop where
 len:o.length=N
 at_:∀i,i<N->∃t,o[i]? = some t/\(0<=t/\t<(ws.length:Int))/\∀k,(eX ws t).testBit k=true↔∀(j:Nat)(x:aM),L[j]? = some x->r j=r i->(eX ws x.Typex).testBit k=true
theorem z08{h:cB}{ws:I Nat}(hh:pD h ws)(rL:L.length=N)(hN:N<=1000)(hk:KOk ws L){cl:I Int}(hc:CK N cl r)(hn:2000<=n):
  (∃o,T4 n h L cl=some (o,true)/\zf ws N L r o/\¬ WA ws L r)\/(T4 n h L cl=some ([],false)/\WA ws L r):=by
 have f0:=hh.pos;have C6:∀(j:Nat)(x:aM)(k:Nat),L[j]? = some x->(eX ws x.Typex).testBit k=true->(eX ws 0).testBit k=true:=fun j x k hj hb=>by have hm:=zX (GZ (hk x (zX hj)));have:=congrArg (fun z=>z.testBit k) (hh.top _ hm);simp only[Nat.testBit_and,hb,Bool.and_true]at this;exact this
 have h0:TI ws N L r 0 (List.replicate N 0):=⟨by simp,fun c DS=>⟨0,by rw[List.getElem?_replicate,if_pos DS],⟨by omega,by omega⟩,fun k=>⟨fun g=>⟨g,fun j x hj=>by omega⟩,fun g=>g.1⟩⟩⟩;have:=z06 hh rL hN hk hc hn n 0 (List.replicate N 0) (by omega) (by omega) h0;rw[zV]at this;simp only[T4,rL,zZ];rw[fO (by omega)];rcases this with⟨o',g1,g2⟩|⟨g1,c,DS,g2⟩;refine .inl ?_;obtain⟨o,p1,p2,p3⟩:=z07 rL hN hc g1.len n 0 o' (by omega) (by omega) g1.len (fun c DS=>by rw[if_neg (by omega)]);rw[zV]at p1;have pJ:∀i,i<N->∃t,o[i]? = some t/\(0<=t/\t<(ws.length:Int))/\∀k,(eX ws t).testBit k=true↔∀(j:Nat)(x:aM),L[j]? = some x->r j=r i->(eX ws x.Typex).testBit k=true:=fun i hi=>by obtain⟨t,t1,t2,t3⟩:=g1.at_ (r i) (hc.lt hi);refine⟨t,by rw[p3 i hi];exact t1,t2,fun k=>?_⟩;rw[t3];constructor;rintro⟨_,q2⟩ j x hj hr;exact q2 j x (by have:=(zG.1 hj).1;omega) hj hr;intro q;refine⟨?_,fun j x _ hj hr=>q j x hj hr⟩;have hx:L[i]? = some L[i]:=List.getElem?_eq_getElem (by omega);exact C6 i _ k hx (q i _ hx rfl)
 refine⟨o,by rw[g2,Sp,p1],⟨p2,pJ⟩,fun⟨i,hi,hb⟩=>?_⟩;rw[rL]at hi;obtain⟨t,t1,t2,t3⟩:=pJ i hi;obtain⟨k,DM⟩:=Nat.exists_testBit_of_ne_zero (hh.ok _ (zX (GZ t2))).1;obtain⟨j,x,q1,q2,q3⟩:=hb k;have:=(t3 k).1 DM j x q1 q2;rw[q3]at this;cases this;refine .inr ⟨g1,?_⟩;have hz:∃i,i<N/\r i=c:=by refine Classical.byContradiction fun eH=>?_;have d5:=(hh.ok _ (zX (GZ (ws:=ws) (t:=0) ⟨by omega,by omega⟩))).1;obtain⟨k,DM⟩:=Nat.exists_testBit_of_ne_zero d5;exact g2 k ⟨DM,fun j x hj hr=>absurd ⟨j,by have:=(zG.1 hj).1;omega,hr⟩ eH⟩
 obtain⟨i,hi,rfl⟩:=hz;refine⟨i,by omega,fun k=>Classical.byContradiction fun eH=>?_⟩;have cR:∀(j:Nat)(x:aM),L[j]? = some x->r j=r i->(eX ws x.Typex).testBit k=true:=fun j x hj hr=>by rcases hb:(eX ws x.Typex).testBit k with _|_;exact absurd ⟨j,x,hj,hr,hb⟩ eH;rfl
 have hx:L[i]? = some L[i]:=List.getElem?_eq_getElem (by omega);exact g2 k ⟨C6 i _ k hx (cR i _ hx rfl),cR⟩
theorem zat{x4:aM}{f:Int}(hl:x4.Arcs.length<=100000):∀(m i:Nat),x4.Arcs.length-i<m->i<=x4.Arcs.length->Im f x4 m (i:Int)=some (match (x4.Arcs.drop i).find? fun x=>x.Feat==f with |some x=>(x.To,true)|none=>(0,false))
 |0,i,hm,_=>by omega
 |m+1,i,hm,hi=>by unfold Im;by_cases aE:i<x4.Arcs.length;obtain⟨x,hx,_⟩:=eI aE;simp only[gS aE,zC,cH,hx,aP,iG aE (show x4.Arcs.length<=9223372036854775807 by omega),aX hx,List.find?_cons];rcases e:x.Feat==f with _|_;simp only[zD];exact zat hl m (i+1) (by omega) (by omega);simp only[zC];simp only[hZ aE,zD,bV aE,yx,List.find?_nil]
theorem zcl{g:I aM}{c:Nat}{x:aM}{f:Int}(hx:g[c]? = some x)(hl:x.Arcs.length<=100000){n:Nat}(hn:x.Arcs.length<n):Qo n ⟨g⟩ (c:Int) f=some (match x.Arcs.find? fun x=>x.Feat==f with |some x=>(x.To,true)|none=>(0,false)):=by have:=zat (f:=f) hl n 0 (by omega) (by omega);rw[zV,List.drop_zero]at this;simp only[Qo,cH,hx,aP,this]
structure QP(N:Nat)(L:I aM)(r:Nat->Nat)(ty:I Int)(P:Nat->aK->Prop)(K:Nat)(g:I aM):Prop where
 len:g.length=N
 ty:∀(c:Nat)(x:aM),g[c]? = some x->ty[c]? = some x.Typex
 ds:∀(c:Nat)(x:aM),g[c]? = some x->mA x.Arcs/\x.Arcs.length<=K
 cov:∀(j:Nat)(c:aM)(a:aK),L[j]? = some c->a∈c.Arcs->P j a->∃x b,g[r j]? = some x/\b∈x.Arcs/\b.Feat=a.Feat/\b.To=(r a.To.toNat:Int)
 snd:∀(i:Nat)(x:aM)(b:aK),g[i]? = some x->b∈x.Arcs->∃(j:Nat)(c:aM)(a:aK),L[j]? = some c/\r j=i/\a∈c.Arcs/\b.Feat=a.Feat/\b.To=(r a.To.toNat:Int)
theorem P'{N:Nat}{L:I aM}{cl ty:I Int}{r:Nat->Nat}(hL:AA N [] L)(hN:N<=1000)(hc:CK N cl r)(hq:I4 L r){n:Nat}(hn:100000<=n){i:Nat}(hiN:i<N){y:aM}(hy:L[i]? = some y)(hyl:y.Arcs.length<=12){rc:Int->I aM->V GFS}{Q:V GFS->Prop}
  (K9:∀g,QP N L r ty (fun j _=>j<i+1) (12*(i+1)) g->Q (rc (IntKind.i64.wrap ((i:Int)+1)) g)):∀(m k:Nat)(g:I aM),y.Arcs.length-k<m->k<=y.Arcs.length->QP N L r ty (fun j a=>j<i\/(j=i/\a∈y.Arcs.take k)) (12*i+k) g->
  Q (TK L cl n (i:Int) rc (r i:Int) m (k:Int) g)
 |0,k,g,hm,_,_=>by omega
 |m+1,k,g,hm,hk,hI=>by
  unfold TK;have hgl:=hI.len;have B1:=hc.lt hiN;by_cases aE:k<y.Arcs.length;obtain⟨a,ha,tS⟩:=eI aE;obtain⟨x,hx⟩:∃x,g[r i]? = some x:=⟨_,List.getElem?_eq_getElem (by omega)⟩;obtain⟨hxd,Bm⟩:=hI.ds _ x hx;have hw:IntKind.i64.wrap ((k:Int)+1)=((k+1:Nat):Int):=iG aE (by omega);have pV:=hL.ar i y a hy tS;have hct:=hc.at pV;simp only[cH,hy,aP,gS aE,zC,ha,zcl (f:=a.Feat) hx (show x.Arcs.length<=100000 by omega) (show x.Arcs.length<n by omega),Tx,hw];have Kp:∀b,b∈y.Arcs.take (k+1)↔b∈y.Arcs.take k\/b=a:=fun b=>by rw[j5 ha,yD,List.mem_singleton]
  cases hf:x.Arcs.find? (fun w=>w.Feat==a.Feat)with
  |some w=>
   have FL:=List.mem_of_find?_eq_some hf;have Km:w.Feat=a.Feat:=by have:=List.find?_some hf;simpa using this
   simp only[Bool.not_true,zD];refine P' hL hN hc hq hn hiN hy hyl K9 m (k+1) g (by omega) (by omega) ⟨hI.len,hI.ty,fun c z hz=>⟨(hI.ds c z hz).1,by have:=(hI.ds c z hz).2;omega⟩,fun j c b hj hb hP=>?_,hI.snd⟩;rcases hP with hP |⟨rfl,hP⟩;exact hI.cov j c b hj hb (.inl hP);rcases(Kp b).1 hP with hP |rfl;exact hI.cov _ c b hj hb (.inr ⟨rfl,hP⟩);obtain⟨j',c',a',p1,p2,p3,p4,p5⟩:=hI.snd _ x w hx FL;refine⟨x,w,hx,FL,Km,?_⟩;rw[p5,hq j' _ c' c a' b p1 hj p2 p3 hb (by omega)]
  |none=>
   have eH:∀w∈x.Arcs,w.Feat≠a.Feat:=fun w hw e=>by have:=List.find?_eq_none.1 hf w hw;simp[e]at this
   simp only[Bool.not_false,zC,hx,aP,hct,zZ,Nat.zero_add];rw[fO (by omega)];have K5:∀c z,(g.set (r i) ⟨x.Typex,x.Arcs++[⟨a.Feat,(r a.To.toNat:Int)⟩]⟩)[c]? = some z->(c=r i/\z=⟨x.Typex,x.Arcs++[⟨a.Feat,(r a.To.toNat:Int)⟩]⟩)\/(c≠r i/\g[c]? = some z):=fun c z hz=>by by_cases e:r i=c;subst e;rw[List.getElem?_set_self (by omega)]at hz;exact .inl ⟨rfl,(Option.some.inj hz).symm⟩;rw[List.getElem?_set_ne e]at hz;exact .inr ⟨fun q=>e q.symm,hz⟩
   refine P' hL hN hc hq hn hiN hy hyl K9 m (k+1) _ (by omega) (by omega) ⟨by rw[List.length_set];exact hI.len,fun c z hz=>?_,fun c z hz=>?_,fun j c b hj hb hP=>?_,fun j z b hz hb=>?_⟩;rcases K5 c z hz with⟨rfl,rfl⟩|⟨_,hz⟩;exact hI.ty _ x hx;exact hI.ty c z hz;rcases K5 c z hz with⟨rfl,rfl⟩|⟨_,hz⟩;refine⟨?_,by simp only[zU,zO,zS];omega⟩;unfold mA at*;rw[List.pairwise_append];exact⟨hxd,List.pairwise_singleton _ _,fun w hw v hv=>by simp at hv;subst hv;exact eH w hw⟩;exact⟨(hI.ds c z hz).1,by have:=(hI.ds c z hz).2;omega⟩;have old:(j<i\/(j=i/\b∈y.Arcs.take k))->∃x' b',(g.set (r i) ⟨x.Typex,x.Arcs++[⟨a.Feat,(r a.To.toNat:Int)⟩]⟩)[r j]? = some x'/\b'∈x'.Arcs/\b'.Feat=b.Feat/\b'.To=(r b.To.toNat:Int):=fun hp=>by obtain⟨x',b',q1,q2,q3,q4⟩:=hI.cov j c b hj hb hp;by_cases e:r i=r j;rw[<-e,hx]at q1;cases q1;exact⟨_,b',by rw[<-e,List.getElem?_set_self (by omega)],List.mem_append_left _ q2,q3,q4⟩;exact⟨x',b',by rw[List.getElem?_set_ne e];exact q1,q2,q3,q4⟩
   rcases hP with hP |⟨rfl,hP⟩;exact old (.inl hP);rcases(Kp b).1 hP with hP |rfl;exact old (.inr ⟨rfl,hP⟩);exact⟨_,⟨b.Feat,(r b.To.toNat:Int)⟩,List.getElem?_set_self (by omega),List.mem_append_right _ (List.mem_singleton.2 rfl),rfl,rfl⟩;rcases K5 j z hz with⟨rfl,rfl⟩|⟨_,hz⟩;rcases yD.1 hb with hb |hb;exact hI.snd _ x b hx hb;simp at hb;subst hb;exact⟨i,y,a,hy,rfl,tS,rfl,rfl⟩;exact hI.snd j z b hz hb
  have:k=y.Arcs.length:=by omega
  subst this;simp only[cH,hy,aP,hZ aE,zD,pj];rw[List.take_length]at hI;refine K9 g ⟨hI.len,hI.ty,fun c z hz=>⟨(hI.ds c z hz).1,by have:=(hI.ds c z hz).2;omega⟩,fun j c b hj hb hP=>?_,hI.snd⟩;by_cases e:j=i;subst e;rw[hy]at hj;cases hj;exact hI.cov _ _ b hy hb (.inr ⟨rfl,hb⟩);exact hI.cov j c b hj hb (.inl (by omega))
theorem zam{N:Nat}{L:I aM}{cl ty:I Int}{r:Nat->Nat}(hL:AA N [] L)(hN:N<=1000)(hc:CK N cl r)(hq:I4 L r)(fA:∀x∈L,x.Arcs.length<=12){v:Int}{n:Nat}(hn:100000<=n):∀(m i:Nat)(g:I aM),N-i<m->i<=N->QP N L r ty (fun j _=>j<i) (12*i) g->
  ∃g',QP N L r ty (fun j _=>j<N) (12*N) g'/\N0 L cl v n m (i:Int) g=Jo cl v n g'
 |0,i,g,hm,_,_=>by omega
 |m+1,i,g,hm,hi,hI=>by
  unfold N0;have rL:=hL.len;by_cases aE:i<N;have gO:i<L.length:=by omega
  obtain⟨y,hy,C4⟩:=eI gO;simp only[gS gO,zC,cH,hc.get i aE,aP];have:=P' (ty:=ty) hL hN hc hq hn aE hy (fA y C4) (rc:=N0 L cl v n m) (Q:=fun o=>∃g',QP N L r ty (fun j _=>j<N) (12*N) g'/\o=Jo cl v n g') (fun g hg=>by rw[iG gO (by omega)];exact zam hL hN hc hq fA hn m (i+1) g (by omega) (by omega) hg) n 0 g (by have:=fA y C4;omega) (by omega) ⟨hI.len,hI.ty,fun c x hx=>by have:=hI.ds c x hx;exact⟨this.1,by omega⟩,fun j c a hj ha hP=>by rcases hP with hP |⟨_,hP⟩;exact hI.cov j c a hj ha hP;simp at hP,hI.snd⟩;rw[zV]at this;exact this;have:i=N:=by omega
  subst this;have gO:¬ i<L.length:=by omega
  rw[hZ gO];exact⟨g,hI,rfl⟩
theorem zal{N:Nat}{L:I aM}{cl ty:I Int}(rL:L.length=N)(hN:N<=1000)(ht:ty.length=N){v:Int}{n:Nat}:∀(m i:Nat),N-i<m->i<=N->
  Jn L cl ty v n m (i:Int) ((ty.take i).map fun t=>aM.mk t [])=Tw L cl v n (ty.map fun t=>aM.mk t [])
 |0,i,hm,_=>by omega
 |m+1,i,hm,hi=>by
  unfold Jn;by_cases aE:i<N;have gO:i<L.length:=by omega
  obtain⟨t,hx,_⟩:=eI (l:=ty) (show i<ty.length by omega);have ih:=zal (cl:=cl) (v:=v) (n:=n) rL hN ht m (i+1) (by omega) (by omega);rw[j5 hx,List.map_append]at ih;simp only[gS gO,zC,cH,hx,aP,iG gO (show L.length<=9223372036854775807 by omega)];rw[fO (by simp only[yA,List.length_take];omega)];exact ih;have:i=N:=by omega
  subst this;have gO:¬ i<L.length:=by omega
  rw[hZ gO,zW (by omega)];rfl
theorem zcd{ws:I Nat}{N:Nat}{L:I aM}{cl ty:I Int}{r:Nat->Nat}(hL:AA N [] L)(hN:N<=1000)(hc:CK N cl r)(hq:I4 L r)(fA:∀x∈L,x.Arcs.length<=12/\∀a∈x.Arcs,0<=a.Feat)(pI:zf ws N L r ty){n:Nat}(hn:100000<=n){v:Int}(hv:0<=v/\v<(N:Int)):
  ∃g,QG ws L r ⟨g⟩/\u7 ⟨g⟩/\Sq n L cl ty v=some (fX ⟨g⟩ (r v.toNat:Int)):=by
 have rL:=hL.len;have h1:=zal (cl:=cl) (v:=v) (n:=n) rL hN pI.len n 0 (by omega) (by omega);rw[zV,List.take_zero,List.map_nil]at h1;have h0:QP N L r ty (fun j _=>j<0) (12*0) (ty.map fun t=>aM.mk t []):=⟨by simp[pI.len],fun c x hx=>by
   rw[List.getElem?_map]at hx;rcases e:ty[c]? with _|t;rw[e]at hx;cases hx;rw[e]at hx;cases hx;rfl,fun c x hx=>by
   rw[List.getElem?_map]at hx;rcases e:ty[c]? with _|t;rw[e]at hx;cases hx;rw[e]at hx;cases hx;exact⟨List.Pairwise.nil,zF _⟩,fun j c a _ _ h=>absurd h (by omega),fun i x b hx hb=>by
   rw[List.getElem?_map]at hx;rcases e:ty[i]? with _|t;rw[e]at hx;cases hx;rw[e]at hx;cases hx;cases hb⟩
 obtain⟨g,g1,g2⟩:=zam hL hN hc hq (fun x hx=>(fA x hx).1) (v:=v) hn n 0 _ (by omega) (by omega) h0;rw[zV]at g2;have mem:∀{i:Nat},i<N->∃x,L[i]? = some x:=fun{i} hi=>⟨_,List.getElem?_eq_getElem (by omega)⟩;have tyat:∀c x,g[c]? = some x->c<N/\(0<=x.Typex/\x.Typex<(ws.length:Int))/\∀k,(eX ws x.Typex).testBit k=true↔∀(j:Nat)(y:aM),L[j]? = some y->r j=r c->(eX ws y.Typex).testBit k=true:=fun c x hx=>by
  have DS:c<N:=by have:=(zG.1 hx).1;have:=g1.len;omega
  obtain⟨t,t1,t2,t3⟩:=pI.at_ c DS;have:=g1.ty c x hx;rw[t1]at this;cases this;exact⟨DS,t2,t3⟩
 have hQ:QG ws L r ⟨g⟩:=⟨by show g.length=_;rw[g1.len,rL],fun i hi=>by rw[rL]at hi ⊢;exact⟨hc.lt hi,hc.idem i hi⟩,fun i x hx hr=>by obtain⟨_,t2,t3⟩:=tyat i x hx;rw[hr]at t3;exact⟨t2,t3⟩,fun i x hx _=>(g1.ds i x hx).1,fun j c a hj ha=>g1.cov j c a hj ha (by have:=(zG.1 hj).1;omega),fun i x b hx _ hb=>g1.snd i x b hx hb⟩;have hG:u7 ⟨g⟩:=fun x hx=>by obtain⟨i,hi⟩:=List.getElem?_of_mem hx;refine⟨(tyat i x hi).2.1.1,(g1.ds i x hi).1,fun b hb=>?_⟩;obtain⟨j,c,a,q1,q2,q3,q4,q5⟩:=g1.snd i x b hi hb;have pV:=hL.ar j c a q1 q3;have:=hc.lt (i:=a.To.toNat) (by omega);have hf:=(fA c (zX q1)).2 a q3;have hgl:(GFS.mk g).Nodes.length=N:=g1.len;rw[hgl];exact⟨by omega,by omega,by omega⟩
 refine⟨g,hQ,hG,?_⟩;have hrv:=hc.lt (i:=v.toNat) (by omega);have hS:c8 ⟨g⟩ 12000:=⟨by show g.length<=12000;rw[g1.len];omega,fun x hx=>by obtain⟨i,hi⟩:=List.getElem?_of_mem hx;have:=(g1.ds i x hi).2;omega⟩;have mJ:=z3r hG hS (by omega) (r:=(r v.toNat:Int)) ⟨by omega,by show _<((g.length:Nat):Int);rw[g1.len];omega⟩ (n:=n) (by omega);rw[Sq,h1,Tw,g2];simp only[Jo,hc.at hv,aP,mJ]
structure Pt(h:cB)(ws:I Nat)(U:Nat)(L:I aM)(c:I aT)(tl:I bH)(cl:I Int)(aA d r:Nat->Nat)(D:Nat):Prop where
 lk:AA L.length [] L
 la:∀x∈L,x.Arcs.length<=12/\(∀a∈x.Arcs,0<=a.Feat/\a.Feat<(h.Feats.length:Int))/\kY x.Arcs
 lt:KOk ws L
 hp:lO L.length D (h.Feats.length:Int) (ws.length:Int) c aA d
 tc:TC ws L.length L [] c aA
 ck:CK L.length cl r
 ke:∀i j,i<L.length->j<L.length->(aA i=aA j↔r i=r j)
 bd:D+tot c<=12*L.length+U
 bt:tl.length+2*tot c<=24*L.length+2*U
def G5(h:cB)(ws:I Nat)(U:Nat)(L:I aM)(c:I aT)(tl:I bH)(cl:I Int):Prop:=∃aA d r D,Pt h ws U L c tl cl aA d r D
variable{ws:I Nat}
variable{L:I aM}
theorem AA.to{N:Nat}{ws':I Nat}(h:AA N ws L):AA N ws' L:=⟨h.len,h.ar⟩
theorem G5.up{h:cB}{U U':Nat}{c:I aT}{tl:I bH}{cl:I Int}(hU:U<=U')(p:G5 h ws U L c tl cl):G5 h ws U' L c tl cl:=by obtain⟨aA,d,r,D,q⟩:=p;exact⟨aA,d,r,D,q.lk,q.la,q.lt,q.hp,q.tc,q.ck,q.ke,by have:=q.bd;omega,by have:=q.bt;omega⟩
structure AC(c0:I aT)(t0:I bH)(c:I aT)(t:I bH):Prop where
 ex:∃tl,t=t0++tl/\(∀x∈tl,0<=x.atx/\x.atx<(c.length:Int))/\(qS tl c).take c0.length=c0
 le:c0.length<=c.length
theorem AC.refl(c:I aT)(t:I bH):AC c t c t:=⟨⟨[],by simp,(fun x hx=>by cases hx),by simp[qS]⟩,zF _⟩
theorem zb5(a b:I bH)(c:I aT):qS (a++b) c=qS a (qS b c):=by simp[qS]
theorem qyf:∀(tl:I bH)(c:I aT)(k:Nat),(qS tl c).take k=qS tl (c.take k)
 |[],c,k=>rfl|x::tl,c,k=>by have e:∀c,qS (x::tl) c=(qS tl c).set x.atx.toNat x.old:=fun c=>rfl;rw[e,e,List.take_set,qyf tl c k]
theorem AC.trans{c0 c1 c2:I aT}{t0 t1 t2:I bH}(h:AC c0 t0 c1 t1)(h':AC c1 t1 c2 t2):AC c0 t0 c2 t2:=by
 obtain⟨tl,e1,r1,b1⟩:=h.ex;obtain⟨kF,e2,r2,b2⟩:=h'.ex;have l1:=h.le;have l2:=h'.le;refine⟨⟨tl++kF,by rw[e2,e1,zT],fun x hx=>?_,?_⟩,by omega⟩;rcases yD.1 hx with hx |hx;have:=r1 x hx;omega;exact r2 x hx;have:(qS tl (qS kF c2)).take c0.length=((qS tl (qS kF c2)).take c1.length).take c0.length:=by rw[List.take_take,Nat.min_eq_left l1]
 rw[zb5,this,qyf,b2,b1]
theorem J3{v11:Type}{a b:I v11}{i:Nat}{x:v11}(h:(a++b)[i]? = some x):(i<a.length/\a[i]? = some x)\/(a.length<=i/\b[i-a.length]? = some x):=by by_cases e:i<a.length;rw[List.getElem?_append_left e]at h;exact .inl ⟨e,h⟩;rw[List.getElem?_append_right (by omega)]at h;exact .inr ⟨by omega,h⟩
def ext(N:Nat)(f:Nat->Nat)(i:Nat):Nat:=if i<N then f i else i
theorem wK.up'{N N':Nat}{FB:Int}{l:I aK}(h:wK N FB l)(hN:N<=N'):wK N' FB l:=⟨h.up,fun a ha=>by have:=h.ok a ha;omega⟩
theorem zc8{h:cB}(hh:pD h ws){U:Nat}{c:I aT}{tl:I bH}{cl:I Int}(p:G5 h ws U L c tl cl){f:GFS}(hf:GG h f):
  G5 h ws U (L++f.Nodes.map (CZ L.length)) (c++f.Nodes.map (AW L.length)) tl (cl++uX L.length f.Nodes.length):=by
 obtain⟨aA,d,r,D,p⟩:=p;have eS:=p.hp.len;have Ld:(L++f.Nodes.map (CZ L.length)).length=L.length+f.Nodes.length:=by simp
 have DO:∀x∈f.Nodes.map (AW L.length),Flat (L.length+f.Nodes.length) (h.Feats.length:Int) (ws.length:Int) x:=fun x hx=>by rw[<-hh.tl];exact hf.flat (zF _) hx
 have cOld:∀{i:Nat},i<L.length->celN (c++f.Nodes.map (AW L.length)) i=celN c i:=fun{i} hi=>by simp only[celN,List.getElem?_append_left (show i<c.length by omega)]
 have cNew:∀{i:Nat}{x:aM},f.Nodes[i]? = some x->celN (c++f.Nodes.map (AW L.length)) (L.length+i)=AW L.length x:=fun{i x} hx=>by simp only[celN,List.getElem?_append_right (show c.length<=L.length+i by omega),eS,Nat.add_sub_cancel_left,List.getElem?_map,hx,zM,Option.getD_some]
 have LOld:∀{j:Nat}{x:aM},(L++f.Nodes.map (CZ L.length))[j]? = some x->(j<L.length/\L[j]? = some x)\/∃(i:Nat)(y:aM),j=L.length+i/\f.Nodes[i]? = some y/\x=CZ L.length y:=fun{j x} hj=>by rcases J3 hj with⟨h1,h2⟩|⟨h1,h2⟩;exact .inl ⟨h1,h2⟩;rw[List.getElem?_map]at h2;rcases e:f.Nodes[j-L.length]? with _|y;rw[e]at h2;cases h2;rw[e]at h2;exact .inr ⟨j-L.length,y,by omega,e,(Option.some.inj h2).symm⟩
 have gE:∀{g:Nat->Nat}{i:Nat},i<L.length->ext L.length g i=g i:=fun hi=>if_pos hi;have eNew:∀{g:Nat->Nat}{i:Nat},L.length<=i->ext L.length g i=i:=fun{g i} hi=>if_neg (by omega);have pV:∀(i:Nat)(y:aM),f.Nodes[i]? = some y->∀a∈y.Arcs,0<=a.To/\a.To<(f.Nodes.length:Int):=fun i y hy a ha=>by have:=(hf.nok y (zX hy)).2.ok a ha;exact⟨this.2.2.1,this.2.2.2⟩
 have FO:lO (L.length+f.Nodes.length) D (h.Feats.length:Int) (ws.length:Int) (c++f.Nodes.map (AW L.length)) (ext L.length aA) (fun i=>if i<L.length then d i else 0):=by
  refine⟨⟨fun i hi=>?_,fun i hi=>?_,fun i hi=>?_,fun i hi=>?_⟩,⟨fun i x hx hr=>?_,fun i x hx hr=>?_⟩,by simp[eS],fun i x hx=>?_,fun i x hx=>?_⟩;by_cases e:i<L.length;rw[gE e];have:=p.hp.rok.lt i e;omega;rw[eNew (by omega)];exact hi;by_cases e:i<L.length;rw[gE e,gE (p.hp.rok.lt i e)];exact p.hp.rok.idem i e;have e1:ext L.length aA i=i:=eNew (by omega);rw[e1,e1];by_cases e:i<L.length;rw[gE e,if_pos (p.hp.rok.lt i e)];exact p.hp.rok.zero i e;rw[eNew (by omega),if_neg e];show(if i<L.length then d i else 0)<=D;by_cases e:i<L.length;rw[if_pos e];exact p.hp.rok.bd i e;rw[if_neg e];omega;rcases J3 hx with⟨h1,h2⟩|⟨h1,h2⟩;rw[gE (by omega)]at hr;exact p.hp.cok.root i x h2 hr;exact(DO x (zX h2)).fw;rcases J3 hx with⟨h1,h2⟩|⟨h1,h2⟩;have e:i<L.length:=by omega
  rw[gE e]at hr;obtain⟨j,q1,q2,q3,q4⟩:=p.hp.cok.fwd i x h2 hr;exact⟨j,q1,by omega,by rw[gE q2,gE e];exact q3,by simp only[q2,e,if_true];exact q4⟩;exact absurd (eNew (by omega)) hr;rcases J3 hx with⟨h1,h2⟩|⟨h1,h2⟩;exact(p.hp.ar i x h2).up' (by omega);exact(DO x (zX h2)).ar;rcases J3 hx with⟨h1,h2⟩|⟨h1,h2⟩;exact p.hp.kd i x h2;exact(DO x (zX h2)).kd
 refine⟨ext L.length aA,(fun i=>if i<L.length then d i else 0),ext L.length r,D,?_⟩;have Wa:tot (c++f.Nodes.map (AW L.length))<=tot c+12*f.Nodes.length:=by have:=J' (cells:=f.Nodes.map (AW L.length)) fun x hx=>(DO x hx).sm;rw[yA]at this;simp only[tot,List.map_append,List.sum_append]at this ⊢;omega
 have gX:=p.bd;have ef:=p.bt;refine⟨⟨rfl,fun j x a hj ha=>?_⟩,fun x hx=>?_,fun x hx=>?_,by rw[Ld];exact FO,⟨fun j x a hj ha=>?_,fun i b hi hr hb=>?_,fun i hi hr k=>?_⟩,⟨?_,fun i hi=>?_,fun i hi=>?_,fun i hi=>?_⟩,fun i j hi hj=>?_,by rw[Ld];omega,by rw[Ld];omega⟩;rw[Ld];rcases LOld hj with⟨h1,h2⟩|⟨i,y,rfl,h2,rfl⟩;have:=p.lk.ar j x a h2 ha;omega;obtain⟨a0,Ct,rfl⟩:=List.mem_map.1 ha;have:=pV i y h2 a0 Ct;simp only[IN];omega;rcases yD.1 hx with hx |hx;exact p.la x hx;obtain⟨y,hy,rfl⟩:=List.mem_map.1 hx;have hk:=(hf.nok y hy).2;refine⟨by simp only[CZ,yA];exact hf.sm.arcs y hy,fun a ha=>?_,RO hk.up⟩;obtain⟨a0,Ct,rfl⟩:=List.mem_map.1 ha;have:=hk.ok a0 Ct;exact⟨this.1,this.2.1⟩;rcases yD.1 hx with hx |hx;exact p.lt x hx;obtain⟨y,hy,rfl⟩:=List.mem_map.1 hx;have:=(hf.nok y hy).1;rw[hh.tl]at this;exact this;rcases LOld hj with⟨h1,h2⟩|⟨i,y,rfl,h2,rfl⟩;obtain⟨b,q1,q2,q3⟩:=p.tc.cov j x a h2 ha;have B1:=p.hp.rok.lt j h1;refine⟨b,by rw[gE h1,cOld B1];exact q1,q2,fun q w1 w2=>q3 q (fun i j hi hj e=>w1 i j (by omega) (by omega) (by rw[gE hi,gE hj];exact e)) (fun _ hz=>by cases hz)⟩;refine⟨a,by rw[eNew (by omega),cNew h2];exact ha,rfl,fun q _ _=>rfl⟩;by_cases e:i<L.length;rw[gE e]at hr;rw[cOld e]at hb;obtain⟨j,x,q1,q2,q3⟩:=p.tc.snd i b e hr hb;have jl:=(zG.1 q1).1;exact⟨j,x,by rw[List.getElem?_append_left jl];exact q1,by rw[gE jl];exact q2,q3⟩;obtain⟨k,rfl⟩:∃k,i=L.length+k:=⟨i-L.length,by omega⟩;obtain⟨y,hy,_⟩:=eI (l:=f.Nodes) (show k<f.Nodes.length by omega);rw[cNew hy]at hb;exact⟨L.length+k,CZ L.length y,by rw[List.getElem?_append_right (by omega),Nat.add_sub_cancel_left,List.getElem?_map,hy];rfl,eNew (by omega),hb⟩;by_cases e:i<L.length;rw[gE e]at hr;rw[cOld e,p.tc.kd i e hr];constructor;intro g j x hj yR;rcases LOld hj with⟨h1,h2⟩|⟨m,y,rfl,h2,rfl⟩;rw[gE h1]at yR;exact g j x h2 yR;rw[eNew (by omega)]at yR;omega;intro g j x hj yR;have jl:=(zG.1 hj).1;exact g j x (by rw[List.getElem?_append_left jl];exact hj) (by rw[gE jl];exact yR);obtain⟨m,rfl⟩:∃m,i=L.length+m:=⟨i-L.length,by omega⟩;obtain⟨y,hy,_⟩:=eI (l:=f.Nodes) (show m<f.Nodes.length by omega);rw[cNew hy];have tJ:(L++f.Nodes.map (CZ L.length))[L.length+m]? = some (CZ L.length y):=by rw[List.getElem?_append_right (by omega),Nat.add_sub_cancel_left,List.getElem?_map,hy];rfl
 constructor;intro g j x hj yR;have:j=L.length+m:=by by_cases e2:j<L.length;rw[gE e2]at yR;have:=p.hp.rok.lt j e2;omega;rw[eNew (by omega)]at yR;exact yR
 subst this;rw[tJ]at hj;cases hj;exact g;intro g;exact g (L.length+m) (CZ L.length y) tJ (eNew (by omega));rw[zU,fp,p.ck.len,Ld];rw[Ld]at hi;by_cases e:i<L.length;rw[List.getElem?_append_left (by rw[p.ck.len];exact e),gE e];exact p.ck.get i e;rw[List.getElem?_append_right (by rw[p.ck.len];omega),p.ck.len,eNew (by omega)];simp only[uX,List.getElem?_map,List.getElem?_range (show i-L.length<f.Nodes.length by omega),zM];congr 1;omega;by_cases e:i<L.length;rw[gE e];exact p.ck.le i e;rw[eNew (by omega)];exact zF _;by_cases e:i<L.length;rw[gE e,gE (p.ck.lt e)];exact p.ck.idem i e;have e1:ext L.length r i=i:=eNew (by omega);rw[e1,e1];by_cases e:i<L.length;by_cases e2:j<L.length;rw[gE e,gE e2,gE e,gE e2];exact p.ke i j e e2;have:=p.hp.rok.lt i e;have:=p.ck.lt e;rw[gE e,eNew (by omega),gE e,eNew (by omega)];constructor<;>intro q<;>omega;by_cases e2:j<L.length;have:=p.hp.rok.lt j e2;have:=p.ck.lt e2;rw[eNew (by omega),gE e2,eNew (by omega),gE e2];constructor<;>intro q<;>omega;rw[eNew (by omega),eNew (by omega),eNew (by omega),eNew (by omega)]
variable{r:Nat->Nat}
theorem Ln.wide{N:Nat}{W:I (Int×Int)}{x y:Nat}(h:Ln N r [] x y):Ln N r W x y:=fun q q1 _=>h q q1 (fun _ hz=>by cases hz)
variable{ws:I Nat}
variable{L:I aM}
theorem qun{q q':Nat->Nat}(h:WA ws L q)(he:∀i j,i<L.length->j<L.length->q i=q j->q' i=q' j):WA ws L q':=by obtain⟨i,hi,hb⟩:=h;refine⟨i,hi,fun k=>?_⟩;obtain⟨j,x,q1,q2,q3⟩:=hb k;exact⟨j,x,q1,he j i (zG.1 q1).1 hi q2,q3⟩
variable{h:cB}
variable{n:Nat}
theorem TX(hh:pD h ws)(hn:2000<=n):zi ws (uM n h):=⟨fun s t hs ht e=>by
  rcases xd hh hs ht hn with⟨_,_,h3⟩|⟨r,h1,_⟩;exact h3;rw[h1]at e;exact(Option.some_ne_none _ e).elim,fun s t r hs ht e=>by
  rcases xd hh hs ht hn with⟨h1,_⟩|⟨r',h1,_,h3,h4⟩;rw[h1]at e;cases e;rw[h1]at e;cases e;exact⟨h3,h4⟩⟩
theorem Pt.dis{h:cB}{ws:I Nat}{U:Nat}{L:I aM}{c:I aT}{tl:I bH}{cl:I Int}{aA d r:Nat->Nat}{D:Nat}(p:Pt h ws U L c tl cl aA d r D):∀x∈L,mA x.Arcs/\x.Arcs.length<=12:=fun x hx=>⟨(p.la x hx).2.2.dis,(p.la x hx).1⟩
theorem Pt.clo{h:cB}{ws:I Nat}{U:Nat}{L:I aM}{c:I aT}{tl:I bH}{cl:I Int}{aA d r:Nat->Nat}{D:Nat}(p:Pt h ws U L c tl cl aA d r D):I4 L r:=fun i j x y a b hi hj e ha hb hf=>by
 have il:=(zG.1 hi).1;have jl:=(zG.1 hj).1;have h1:=p.lk.ar i x a hi ha;have h2:=p.lk.ar j y b hj hb;exact(p.ke _ _ (by omega) (by omega)).1 (p.tc.clo p.lk.to p.hp i j x y a b hi hj ((p.ke i j il jl).2 e) ha hb hf)
theorem Pt.good{h:cB}{ws:I Nat}(hh:pD h ws){U:Nat}{L:I aM}{c:I aT}{tl:I bH}{cl:I Int}{aA d r:Nat->Nat}{D:Nat}(p:Pt h ws U L c tl cl aA d r D):¬ WA ws L r:=fun hb=>
 p.tc.good p.lk.to (fun w hw=>(hh.ok w hw).1) p.hp (qun hb fun i j hi hj e=>(p.ke i j hi hj).2 e)
variable{c:I aT}
variable{tl:I bH}
variable{cl:I Int}
theorem z91(hh:pD h ws){U:Nat}{aA d:Nat->Nat}{D:Nat}(p:Pt h ws U L c tl cl aA d r D)(hL:L.length<=1000):c8 (cG c aA) 1000:=by
 have eS:=p.hp.len;refine⟨by simp only[cG,yA];omega,fun x hx=>?_⟩;obtain⟨y,hy,rfl⟩:=List.mem_map.1 hx;obtain⟨i,hi⟩:=List.getElem?_of_mem hy;have ha:=p.hp.ar i y hi;have xS:=hh.fl;have:(y.arcs.map aK.Feat).length<=h.Feats.length:=Rp h.Feats.length (by rw[List.Nodup,List.pairwise_map];exact ha.up.imp fun{a b} q=>by omega) fun v hv=>by obtain⟨a,hm,rfl⟩:=List.mem_map.1 hv;have:=ha.ok a hm;exact⟨this.1,this.2.1⟩
 rw[yA]at this;simp only[Ki,yA];omega
theorem zc9(hh:pD h ws){U:Nat}{aA d:Nat->Nat}{D:Nat}(p:Pt h ws U L c tl cl aA d r D)(hL:L.length<=300)(hU:U<=1000)(hn:200000<=n){v:Int}(hv:0<=v/\v<(L.length:Int))(p9:I bH)(iH:I d6)(rm:I qL):
  c8 (sU n c aA v) 1000/\BY n v h.Types h.Feats c p9 iH=some (sU n c aA v,true)/\T0 n ⟨h,L,cl,rm⟩ v=some (sU n c aA v,true):=by
 have gX:=p.bd;have Xp:=jq p.hp (n:=n) (by omega) hv;have Q1:=p.hp.rI hv;have HK:(cG c aA).Nodes.length=L.length:=by simp[cG,p.hp.len]
 refine⟨?_,xv p.hp (by omega) (by omega) (by omega) (by omega) hv h.Types h.Feats p9 iH,?_⟩;rw[Xp];exact(z91 hh p (by omega)).canon p.hp.gok ⟨Q1.1,by rw[HK];exact Q1.2⟩;have e1:MM n ⟨h,L,cl,rm⟩ v=some true:=by
  have a1:decide (v>=0)=true:=by simp;omega
  have a2:decide (v<(L.length:Int))=true:=by simp;omega
  simp only[MM,a1,a2,zC,aP]
 rcases z08 hh rfl (by omega) p.lt p.ck (n:=n) (by omega)with⟨o,t1,t2,t3⟩|⟨_,t2⟩;obtain⟨g,g1,g2,g3⟩:=zcd p.lk (by omega) p.ck p.clo (fun x hx=>⟨(p.la x hx).1,fun a ha=>((p.la x hx).2.1 a ha).1⟩) t2 (n:=n) (by omega) hv;have hq:=p.tc.qg p.lk.to p.hp;have nN:=QG.read hh.nod (fun j x a hj ha=>by have:=p.lk.ar j x a hj ha;omega) hq g1 p.hp.gok g2 p.ke (i:=v.toNat) (by omega);simp only[T0,e1,aP,Bool.not_true,zD,t1,g3];rw[nN,Xp];rfl;exact absurd t2 (p.good hh)
variable{a:Int}
variable{b:Int}
theorem qwv{m:I d6}{t:Nat}(uQ:¬ ((0<=a/\a<(c.length:Int))/\0<=b/\b<(c.length:Int))):AT n a b h.Types h.Feats c tl t m=some (false,c,tl,t):=by
 have:(cond (decide (a<0)) (some true) (cond (decide (a>=(c.length:Int))) (some true) (cond (decide (b<0)) (some true) (some (decide (b>=(c.length:Int)))))))=some true:=by by_cases h1:a<0;rw[decide_eq_true h1];rfl;rw[decide_eq_false h1,zD];by_cases h2:a>=(c.length:Int);rw[decide_eq_true h2];rfl;rw[decide_eq_false h2,zD];by_cases h3:b<0;rw[decide_eq_true h3];rfl;rw[decide_eq_false h3,zD,decide_eq_true (by omega)]
 simp only[AT,this,aP,zC]
theorem iw{m:I d6}{t:Nat}(ha:0<=a/\a<(c.length:Int))(hb:0<=b/\b<(c.length:Int)):AT n a b h.Types h.Feats c tl t m=N5 h.Types h.Feats tl m n n (stk [(a,b)]) c tl t:=by
 have q1:decide (a<0)=false:=by simp;omega
 have q2:decide (a>=(c.length:Int))=false:=by simp only[decide_eq_false_iff_not];omega
 have q3:decide (b<0)=false:=by simp;omega
 have q4:decide (b>=(c.length:Int))=false:=by simp only[decide_eq_false_iff_not];omega
 simp only[AT,q1,q2,q3,q4,zD,aP];rfl
theorem nh{rm:I qL}(v:Int):MM n ⟨h,L,cl,rm⟩ v=some (decide (0<=v/\v<(L.length:Int))):=by by_cases h1:v>=0;simp only[MM,decide_eq_true h1,zC,aP];by_cases h2:v<(L.length:Int);rw[decide_eq_true h2,decide_eq_true (⟨h1,h2⟩:0<=v/\v<(L.length:Int))];rw[decide_eq_false h2,decide_eq_false (fun q=>h2 q.2)];simp only[MM,decide_eq_false h1,zD,aP];rw[decide_eq_false (fun q=>h1 q.1)]
theorem z1k{rm:I qL}(uQ:¬ ((0<=a/\a<(L.length:Int))/\0<=b/\b<(L.length:Int))):T3 n ⟨h,L,cl,rm⟩ a b=some (⟨h,L,cl,rm⟩,false):=by simp only[T3,nh,aP];by_cases h1:0<=a/\a<(L.length:Int);rw[decide_eq_true h1];have h2:¬ (0<=b/\b<(L.length:Int)):=fun q=>uQ ⟨h1,q⟩;rw[decide_eq_false h2];rfl;rw[decide_eq_false h1];rfl
theorem z8m(hh:pD h ws){U:Nat}(p:G5 h ws U L c tl cl)(hL:L.length<=300)(hU:U<=1000)(hn:3000000<=n)(a b:Int)(m:I d6)(rm:I qL)(t:Nat):
  ∃ok c' kF cl' t',AT n a b h.Types h.Feats c tl t m=some (ok,c',kF,t')/\T3 n ⟨h,L,cl,rm⟩ a b=some (⟨h,L,cl',rm⟩,ok)/\G5 h ws (U+1) L c' kF cl'/\AC c tl c' kF/\c'.length=c.length:=by
 have p0:=p;obtain⟨aA,d,r,D,p⟩:=p;have eS:=p.hp.len;by_cases uQ:(0<=a/\a<(L.length:Int))/\0<=b/\b<(L.length:Int)
 ·obtain⟨ha,hb⟩:=uQ;have gX:=p.bd;have ef:=p.bt;have B3:=TX hh (n:=n) (by omega);have KE:=z4s hh (n:=n) (by omega);have hr:Rnd L.length D (h.Feats.length:Int) (ws.length:Int) [(a,b)] c aA d:=⟨p.hp,fun q hq=>by simp at hq;subst hq;exact⟨ha,hb⟩⟩;have Wb:TC ws L.length L [(a,b)] c aA:=⟨fun j x z hj hz=>by obtain⟨w,q1,q2,q3⟩:=p.tc.cov j x z hj hz;exact⟨w,q1,q2,q3.wide⟩,p.tc.snd,p.tc.kd⟩;have hk:[(a,b)].length+tot c<n:=by simp only[zO,zS];omega
  have xS:=hh.fl;obtain⟨s1,s2⟩:=jg B3 p.lk.to n [(a,b)] c aA d D hr Wb hk;obtain⟨D',u1,u2⟩:=xp KE n [(a,b)] c aA d D hr hk;obtain⟨k1,k2⟩:=Ol hh (by omega) (n:=n) (by omega) (p7:=tl) (by omega) m c n [(a,b)] c aA d D [] t hr hk (by simp only[zO,zS];omega) (fun x hx=>by cases hx) rfl (by simp only[zO,zS];omega);rw[List.append_nil]at k1 k2;have hui:=iw (h:=h) (tl:=tl) (m:=m) (n:=n) (t:=t) (show 0<=a/\a<(c.length:Int) by omega) (show 0<=b/\b<(c.length:Int) by omega);have DK:∀i j,aA i=aA j->(jX (uM n h) n [(a,b)] c aA d).2.2.1 i=(jX (uM n h) n [(a,b)] c aA d).2.2.1 j:=fun i j e=>Hj n _ c aA d e;have tK:=kr KE n [(a,b)] c aA d D hr hk;have wW:=p.ck.mrg (a:=a.toNat) (b:=b.toNat) (by omega) (by omega);have hmg:=z8a p.ck (by omega) ha hb (n:=n) (by omega);obtain⟨out,r2,c1,c2⟩:=z7g p.lk (by omega) p.dis wW (n:=n) (by omega);generalize Kr:hH r (min (r a.toNat) (r b.toNat)) (max (r a.toNat) (r b.toNat))=r1 at wW c2;have h1ab:r1 a.toNat=r1 b.toNat:=by rw[<-Kr];unfold hH;split;split;rfl;omega;split;omega;omega
  have h1up:∀i j,r i=r j->r1 i=r1 j:=fun i j e=>by rw[<-Kr];exact kg e
  have Yd:∀(q:Nat->Nat),(∀i j,i<L.length->j<L.length->r i=r j->q i=q j)->q a.toNat=q b.toNat->∀i j,i<L.length->j<L.length->r1 i=r1 j->q i=q j:=fun q q1 q2 i j hi hj e=>by
   have ra:q (r a.toNat)=q a.toNat:=q1 _ _ (p.ck.lt (by omega)) (by omega) (p.ck.idem _ (by omega));have rb:q (r b.toNat)=q b.toNat:=q1 _ _ (p.ck.lt (by omega)) (by omega) (p.ck.idem _ (by omega));have ri:q (r i)=q i:=q1 _ _ (p.ck.lt hi) hi (p.ck.idem _ hi);have rj:q (r j)=q j:=q1 _ _ (p.ck.lt hj) hj (p.ck.idem _ hj);have Ku:q (min (r a.toNat) (r b.toNat))=q a.toNat/\q (max (r a.toNat) (r b.toNat))=q a.toNat:=by rcases Nat.le_total (r a.toNat) (r b.toNat)with g |g;rw[Nat.min_eq_left g,Nat.max_eq_right g,ra,rb,q2];exact⟨rfl,rfl⟩;rw[Nat.min_eq_right g,Nat.max_eq_left g,ra,rb,q2];exact⟨rfl,rfl⟩
   rw[<-Kr]at e;unfold hH at e;rw[<-ri,<-rj];split at e
   ·next e1=>
    split at e
    ·next e2=>rw[e1,e2]
    ·next e2=>rw[e1,<-e,Ku.1,Ku.2]
   ·next e1=>
    split at e
    ·next e2=>rw[e2,e,Ku.1,Ku.2]
    ·next e2=>rw[e]
  have yP:W4 L.length [(a,b)] aA r2:=⟨fun i j hi hj e=>c2.up i j hi hj (h1up i j ((p.ke i j hi hj).1 e)),fun q hq=>by simp at hq;subst hq;exact c2.up _ _ (by omega) (by omega) h1ab⟩;obtain⟨s3,s4⟩:=s2 r2 c2.clo yP;have pI:=z08 hh rfl (by omega) p.lt c2.ck (n:=n) (by omega);have DQ:T3 n ⟨h,L,cl,rm⟩ a b=a8 (T4 n h L out) fun mK=>cond (!mK.2) (some (⟨h,L,cl,rm⟩,false)) (some (⟨h,L,out,rm⟩,true)):=by simp only[T3,nh,aP];rw[decide_eq_true ha,decide_eq_true hb];simp only[Bool.not_true,zD,aP,hmg,c1]
  cases lI:(jX (uM n h) n [(a,b)] c aA d).1 with
  |true=>
   obtain⟨kF,t',g1,g2,g3,g4⟩:=k1 lI;have U?:=s1 lI;have hclo:=U?.clo p.lk.to u2;have eR:∀i j,i<L.length->j<L.length->((jX (uM n h) n [(a,b)] c aA d).2.2.1 i=(jX (uM n h) n [(a,b)] c aA d).2.2.1 j↔r2 i=r2 j):=fun i j hi hj=>by refine⟨fun e=>(s3 lI).r i j hi hj e,fun e=>?_⟩;refine c2.low _ hclo (Yd _ (fun i j hi hj e=>DK i j ((p.ke i j hi hj).2 e)) ?_) i j hi hj e;exact tK lI (a,b) (by simp)
   have yW:¬ WA ws L r2:=fun hb=>U?.good p.lk.to (fun w hw=>(hh.ok w hw).1) u2 (qun hb fun i j hi hj e=>(eR i j hi hj).2 e);rcases pI with⟨o,t1,t2,t3⟩|⟨_,t2⟩
   have bA:=u2.len;refine⟨true,_,tl++kF,out,t',by rw[hui,g1],by rw[DQ,t1];rfl,⟨_,_,r2,D',p.lk,p.la,p.lt,u2,U?,c2.ck,eR,by simp only[zO,zS]at u1;omega,by simp only[zO,zS,zU]at g4 ⊢;omega⟩,⟨⟨kF,rfl,fun x hx=>by rw[bA];exact g3 x hx,by rw[g2,List.take_length]⟩,by rw[bA,eS];exact zF _⟩,by rw[bA,eS]⟩;exact absurd t2 yW
  |false=>obtain⟨t',g1⟩:=k2 lI;have Xr:=s4 lI;rcases pI with⟨o,t1,t2,t3⟩|⟨t1,t2⟩;exact absurd Xr t3;exact⟨false,c,tl,cl,t',by rw[hui,g1],by rw[DQ,t1];rfl,p0.up (by omega),AC.refl c tl,rfl⟩
 have QF:¬ ((0<=a/\a<(c.length:Int))/\0<=b/\b<(c.length:Int)):=by rw[eS];exact uQ
 exact⟨false,c,tl,cl,t,qwv QF,z1k uQ,p0.up (by omega),AC.refl c tl,rfl⟩
structure HS(h:cB)(ws:I Nat)(U:Nat)(c:I aT)(tl:I bH)(mk:I d6)(L:I aM)(cl:I Int)(rm:I qL)(S:I (I aT×I bH)):Prop where
 pt:G5 h ws U L c tl cl
 ls:S.length=mk.length
 lr:rm.length=mk.length
 lm:mk.length<=U
 ln:L.length<=6*U
 at_:∀(k:Nat)(s:I aT×I bH),S[k]? = some s->AC s.1 s.2 c tl/\mk[k]? = some ⟨(s.1.length:Int),(s.2.length:Int)⟩/\∃A6,rm[k]? = some ⟨(s.1.length:Int),A6⟩/\G5 h ws U (L.take s.1.length) s.1 s.2 A6
 nest:∀(j k:Nat)(s s':I aT×I bH),j<=k->S[j]? = some s->S[k]? = some s'->AC s.1 s.2 s'.1 s'.2
def zj(h:cB)(ws:I Nat)(U:Nat)(c:I aT)(tl:I bH)(mk:I d6)(L:I aM)(cl:I Int)(rm:I qL):Prop:=∃S,HS h ws U c tl mk L cl rm S
theorem G5.len{h:cB}{ws:I Nat}{U:Nat}{L:I aM}{c:I aT}{tl:I bH}{cl:I Int}(p:G5 h ws U L c tl cl):c.length=L.length/\cl.length=L.length/\tl.length<=24*L.length+2*U:=by obtain⟨aA,d,r,D,p⟩:=p;have:=p.bt;exact⟨p.hp.len,p.ck.len,by omega⟩
variable{h:cB}
variable{ws:I Nat}
variable{c:I aT}
variable{tl:I bH}
variable{mk:I d6}
variable{L:I aM}
variable{cl:I Int}
variable{rm:I qL}
theorem jb{U:Nat}{c':I aT}{kF:I bH}{L':I aM}{cl':I Int}{S:I (I aT×I bH)}(p:HS h ws U c tl mk L cl rm S)(pt:G5 h ws (U+1) L' c' kF cl')(ha:AC c tl c' kF)(hL:∃t,L'=L++t)(Wr:L'.length<=L.length+6):HS h ws (U+1) c' kF mk L' cl' rm S where
 pt:=pt
 ls:=p.ls
 lr:=p.lr
 lm:=by have:=p.lm;omega
 ln:=by have:=p.ln;omega
 at_ k s hs:=by obtain⟨h1,h2,A6,h3,h4⟩:=p.at_ k s hs;obtain⟨t,rfl⟩:=hL;have l1:=p.pt.len.1;have l2:=h1.le;refine⟨h1.trans ha,h2,A6,h3,?_⟩;rw[List.take_append_of_le_length (by omega)];exact h4.up (by omega)
 nest:=p.nest
theorem z73(c:I aT)(tl:I bH)(t:I aT):AC c tl (c++t) tl:=⟨⟨[],by simp,(fun x hx=>by cases hx),by simp[qS]⟩,by simp⟩
theorem GG.two{f:GFS}(hf:GG h f):∀x∈f.Nodes,x.Arcs.length<=12/\∀a∈x.Arcs,0<=a.To/\a.To<1000:=fun x hx=>⟨hf.sm.arcs x hx,hf.to x hx⟩
theorem zbp{U:Nat}{S:I (I aT×I bH)}(p:HS h ws U c tl mk L cl rm S):
  HS h ws (U+1) c tl (mk++[⟨(c.length:Int),(tl.length:Int)⟩]) L cl (rm++[⟨(L.length:Int),cl⟩]) (S++[(c,tl)]) where
 pt:=p.pt.up (by omega)
 ls:=by simp[p.ls]
 lr:=by simp[p.lr]
 lm:=by have:=p.lm;simp;omega
 ln:=by have:=p.ln;omega
 at_ k s hs:=by
  have l1:=p.pt.len.1;rcases J3 hs with⟨h1,h2⟩|⟨h1,h2⟩;obtain⟨g1,g2,A6,g3,g4⟩:=p.at_ k s h2;have:=p.ls;have:=p.lr;exact⟨g1,by rw[List.getElem?_append_left (by omega)];exact g2,A6,by rw[List.getElem?_append_left (by omega)];exact g3,g4.up (by omega)⟩;have hk:k=S.length:=by have:=(zG.1 h2).1;simp at this;omega
  subst hk;rw[Nat.sub_self]at h2;simp at h2;subst h2;refine⟨AC.refl c tl,by rw[p.ls,List.getElem?_append_right (zF _),Nat.sub_self];rfl,cl,by rw[p.ls,<-p.lr,List.getElem?_append_right (zF _),Nat.sub_self,<-l1];rfl,?_⟩;show G5 h ws (U+1) (L.take c.length) c tl cl;rw[l1,List.take_length];exact p.pt.up (by omega)
 nest j k s s' nQ hj hk:=by
  rcases J3 hk with⟨h1,h2⟩|⟨h1,h2⟩;rw[List.getElem?_append_left (by omega)]at hj;exact p.nest j k s s' nQ hj h2;have sK:k=S.length:=by have:=(zG.1 h2).1;simp at this;omega
  subst sK;rw[Nat.sub_self]at h2;simp at h2;subst h2;rcases J3 hj with⟨h3,h4⟩|⟨h3,h4⟩;exact(p.at_ j s h4).1;have:j=S.length:=by omega
  subst this;rw[Nat.sub_self]at h4;simp at h4;subst h4;exact AC.refl c tl
theorem zbq{U:Nat}{S:I (I aT×I bH)}(p:HS h ws U c tl mk L cl rm S){k:Nat}{s:I aT×I bH}(hs:S[k]? = some s){A6:I Int}(hrm:rm[k]? = some ⟨(s.1.length:Int),A6⟩):
  HS h ws U s.1 s.2 (mk.take (k+1)) (L.take s.1.length) A6 (rm.take (k+1)) (S.take (k+1)):=by
 obtain⟨g1,g2,cl1,g3,g4⟩:=p.at_ k s hs;rw[hrm]at g3;cases g3;have hk:=(zG.1 hs).1;have l1:=p.ls;have l2:=p.lr;have l3:=p.lm;have l4:=p.ln;have tk:∀{v11:Type}{l:I v11}{j:Nat}{x:v11},(l.take (k+1))[j]? = some x->j<=k/\l[j]? = some x:=fun{v11 l j x} hj=>by have aE:=(zG.1 hj).1;rw[List.length_take]at aE;exact⟨by omega,by rw[List.getElem?_take_of_lt (by omega)]at hj;exact hj⟩
 refine⟨g4,by simp only[List.length_take];omega,by simp only[List.length_take];omega,by simp only[List.length_take];omega,by simp only[List.length_take];omega,fun j s' hj=>?_,fun i j s' s'' m7 hi hj=>p.nest i j s' s'' m7 (tk hi).2 (tk hj).2⟩;obtain⟨nQ,B5⟩:=tk hj;obtain⟨q1,q2,cl2,q3,q4⟩:=p.at_ j s' B5;have hn:=p.nest j k s' s nQ B5 hs;refine⟨hn,by rw[List.getElem?_take_of_lt (by omega)];exact q2,cl2,by rw[List.getElem?_take_of_lt (by omega)];exact q3,?_⟩;rw[List.take_take,Nat.min_eq_left hn.le];exact q4
theorem io:∀(tl:I bH)(c:I aT),(qS tl c).length=c.length
 |[],c=>rfl|x::tl,c=>by have e:qS (x::tl) c=(qS tl c).set x.atx.toNat x.old:=rfl;rw[e,List.length_set,io tl c]
theorem zby{p1:I dI}{p2:I eB}{c:I aT}{tl:I bH}{mk:I d6}(hm:mk.length<=1000)(n t:Nat):TL n p1 p2 c tl mk t=some ((mk.length:Int),mk++[⟨(c.length:Int),(tl.length:Int)⟩],t+1):=by
 have hw:IntKind.i64.wrap (((mk++[(d6.mk (c.length:Int) (tl.length:Int))]).length:Int)-1)=(mk.length:Int):=by rw[zU];simp only[zO,zS];exact GK (by omega) (by omega)
 rw[TL,fO (by omega),hw]
theorem z8x{h:cB}{L:I aM}{cl:I Int}{rm:I qL}(hm:rm.length<=1000)(n:Nat):Ql n ⟨h,L,cl,rm⟩=some (⟨h,L,cl,rm++[⟨(L.length:Int),cl⟩]⟩,(rm.length:Int)):=by rw[Ql,fO (by show rm.length*32<=_/\rm.length<=_;omega),fO (by show(rm.length+1)*32<=_/\rm.length+1<=_;omega)]
section
variable{h:cB}{ws:I Nat}{U:Nat}{c:I aT}{tl:I bH}{mk:I d6}{L:I aM}{cl:I Int}{rm:I qL}{S:I (I aT×I bH)}
variable{a:Int}
variable{n:Nat}
theorem zcr(p:HS h ws U c tl mk L cl rm S)(hU:U<=60)(ha:0<=a/\a<(mk.length:Int))(hn:3000000<=n):∃s A6,S[a.toNat]? = some s/\rm[a.toNat]? = some ⟨(s.1.length:Int),A6⟩/\
  N2 n a h.Types h.Feats c tl mk=some (true,s.1,s.2,mk.take (a.toNat+1))/\SZ n ⟨h,L,cl,rm⟩ a=some (⟨h,L.take s.1.length,A6,rm.take (a.toNat+1)⟩,true):=by
 have l1:=p.ls;have l2:=p.lr;have l3:=p.lm;have l4:=p.ln;obtain⟨q1,q2,q3⟩:=p.pt.len;obtain⟨s,hs,_⟩:=eI (l:=S) (show a.toNat<S.length by omega);obtain⟨g1,g2,A6,g3,g4⟩:=p.at_ _ s hs;obtain⟨kF,e1,e2,e3⟩:=g1.ex;have oN:=g1.le;have ea:a=((a.toNat:Nat):Int):=by omega
 have hw:IntKind.i64.wrap (a+1)=((a.toNat+1:Nat):Int):=GK (by omega) (by omega);have b1:decide (a<0)=false:=by simp;omega
 have b2:decide (a>=(mk.length:Int))=false:=by simp only[decide_eq_false_iff_not];omega
 have b3:decide (a>=(rm.length:Int))=false:=by simp only[decide_eq_false_iff_not];omega
 have i1:aB mk a=some ⟨(s.1.length:Int),(s.2.length:Int)⟩:=by rw[ea,cH];exact g2
 have i2:aB rm a=some ⟨(s.1.length:Int),A6⟩:=by rw[ea,cH];exact g3
 have DF:tl.length=s.2.length+kF.length:=by rw[e1,zU]
 have hb:=aj (p7:=s.2) (by omega) n kF c (by omega) (by omega) rfl e2;rw[<-e1]at hb;refine⟨s,A6,hs,g3,?_,?_⟩;simp only[N2,b1,b2,zD,aP,i1,Jr,hb,hw,zZ,e3];rw[fO (by rw[io];omega),fO (by rw[io];omega),fO (by omega),fO (by omega)];have c1:sW L 0 (s.1.length:Int)=some (L.take s.1.length):=by rw[sW,if_pos (by omega)];simp
 have c2:sW rm 0 ((a.toNat+1:Nat):Int)=some (rm.take (a.toNat+1)):=by rw[sW,if_pos (by omega)];simp only[zZ,Int.toNat_zero,List.drop_zero]
 simp only[SZ,b1,b3,zD,aP,i2,c1,hw,c2];rw[fO (by simp only[List.length_take];omega),fO (by simp only[List.length_take];omega)]
theorem z98(hl:rm.length=mk.length)(ha:¬ (0<=a/\a<(mk.length:Int))):N2 n a h.Types h.Feats c tl mk=some (false,c,tl,mk)/\SZ n ⟨h,L,cl,rm⟩ a=some (⟨h,L,cl,rm⟩,false):=by by_cases h1:a<0;have b1:decide (a<0)=true:=decide_eq_true h1;exact⟨by simp only[N2,b1,zC,aP],by simp only[SZ,b1,zC,aP]⟩;have b1:decide (a<0)=false:=decide_eq_false h1;have b2:decide (a>=(mk.length:Int))=true:=decide_eq_true (by omega);have b3:decide (a>=(rm.length:Int))=true:=decide_eq_true (by omega);exact⟨by simp only[N2,b1,b2,zC,zD,aP],by simp only[SZ,b1,b3,zC,zD,aP]⟩
theorem z38{f:GFS}(hf:c8 f 1000)(hn:3000000<=n):EX n f f=some true:=by rw[jo hf hf hn,jw.2 rfl];rfl
theorem z8r(ha:¬ (0<=a/\a<(c.length:Int))):BY n a h.Types h.Feats c tl mk=some (⟨[]⟩,false):=by by_cases h1:a<0;have b1:decide (a<0)=true:=decide_eq_true h1;simp only[BY,b1,zC,aP];have b1:decide (a<0)=false:=decide_eq_false h1;have b2:decide (a>=(c.length:Int))=true:=decide_eq_true (by omega);simp only[BY,b1,b2,zC,zD,aP]
theorem z5x(ha:¬ (0<=a/\a<(L.length:Int))):T0 n ⟨h,L,cl,rm⟩ a=some (⟨[]⟩,false):=by simp only[T0,nh,aP,decide_eq_false ha,Bool.not_false,zC]
theorem qe(hh:pD h ws)(p:HS h ws U c tl mk L cl rm S)(hU:U<=47){o:qT}(ho:o.Kind=0->GG h o.F/\o.F.Nodes.length<=6)(hn:3000000<=n)(t5 t7 t9:Nat):
  ∃c' kF mk' L' cl' rm' wn wl wh,Z7 n ⟨h,L,cl,rm⟩ o h.Types h.Feats c t5 tl t7 mk t9=some (⟨h,L',cl',rm'⟩,true,c',wn,kF,wl,mk',wh)/\zj h ws (U+1) c' kF mk' L' cl' rm':=by
 have l3:=p.lm;have l4:=p.ln;have l2:=p.lr;obtain⟨q1,q2,q3⟩:=p.pt.len;unfold Z7;by_cases k0:o.Kind=0;obtain⟨hf,hf6⟩:=ho k0;have e0:(o.Kind==0)=true:=by simp[k0]
 have r1:=z8w (p1:=⟨h,L,cl,rm⟩) (f:=o.F) q2 (by show L.length<=900;omega) (by omega) hf.two (n:=n) (by omega);have r2:=xy hf.sm hf.to (p4:=c) (by omega) (n:=n) (by omega) t5 h.Types h.Feats tl mk;simp only[e0,zC,r1,aP,r2];have bz:=zc8 hh p.pt hf;rw[<-q1]at bz;have e1:((c.length:Int)==(L.length:Int))=true:=by rw[q1];simp
 rw[e1];refine⟨_,_,_,_,_,_,_,_,_,rfl,S,?_⟩;rw[<-q1];exact jb p (bz.up (by omega)) (z73 c tl _) ⟨_,rfl⟩ (by simp only[zU,yA];omega);have e0:(o.Kind==0)=false:=by simp[k0]
 rw[e0,zD];by_cases k1:o.Kind=1;have e1:(o.Kind==1)=true:=by simp[k1]
 obtain⟨ok,c',kF,cl',t',u1,u2,u3,u4,u5⟩:=z8m hh p.pt (by omega) (by omega) hn o.A o.B mk rm t7;simp only[e1,zC,u2,aP,u1];have e2:(ok==ok)=true:=by simp
 rw[e2];exact⟨_,_,_,_,_,_,_,_,_,rfl,S,jb p u3 u4 ⟨[],by simp⟩ (by omega)⟩;have e1:(o.Kind==1)=false:=by simp[k1]
 rw[e1,zD];by_cases k2:o.Kind=2;have e2:(o.Kind==2)=true:=by simp[k2]
 have m1:=zby (p1:=h.Types) (p2:=h.Feats) (c:=c) (tl:=tl) (mk:=mk) (by omega) n t9;have m2:=z8x (h:=h) (L:=L) (cl:=cl) (rm:=rm) (by omega) n;simp only[e2,zC,m2,aP,m1];have e3:((mk.length:Int)==(rm.length:Int))=true:=by rw[l2];simp
 rw[e3];exact⟨_,_,_,_,_,_,_,_,_,rfl,_,zbp p⟩;have e2:(o.Kind==2)=false:=by simp[k2]
 rw[e2,zD];have same:zj h ws (U+1) c tl mk L cl rm:=⟨S,jb p (p.pt.up (by omega)) (AC.refl c tl) ⟨[],by simp⟩ (by omega)⟩;by_cases k3:o.Kind=3;have e3:(o.Kind==3)=true:=by simp[k3]
 by_cases ha:0<=o.A/\o.A<(mk.length:Int);obtain⟨s,A6,s1,s2,u1,u2⟩:=zcr p (by omega) ha hn;simp only[e3,zC,u2,aP,u1];have e4:(true==true)=true:=rfl;rw[e4];refine⟨_,_,_,_,_,_,_,_,_,rfl,S.take (o.A.toNat+1),?_⟩;have hu:=zbq p s1 s2;exact jb hu (hu.pt.up (by omega)) (AC.refl _ _) ⟨[],by simp⟩ (by omega);obtain⟨u1,u2⟩:=z98 (h:=h) (c:=c) (tl:=tl) (L:=L) (cl:=cl) l2 ha (n:=n);simp only[e3,zC,u2,aP,u1];have e4:(false==false)=true:=rfl;rw[e4];exact⟨_,_,_,_,_,_,_,_,_,rfl,same⟩;have e3:(o.Kind==3)=false:=by simp[k3]
 rw[e3,zD];by_cases ha:0<=o.A/\o.A<(L.length:Int);obtain⟨aA,d,r,D,pp⟩:=p.pt;obtain⟨s1,s2,s3⟩:=zc9 hh pp (by omega) (by omega) (n:=n) (by omega) ha tl mk rm;simp only[s2,s3,aP,z38 s1 hn];have e4:(true==true)=true:=rfl;rw[e4];exact⟨_,_,_,_,_,_,_,_,_,rfl,same⟩;have s2:=z8r (h:=h) (tl:=tl) (mk:=mk) (c:=c) (by rw[q1];exact ha) (n:=n);have s3:=z5x (h:=h) (cl:=cl) (rm:=rm) ha (n:=n);have s1:c8 ⟨[]⟩ 1000:=⟨by simp,fun x hx=>by cases hx⟩;simp only[s2,s3,aP,z38 s1 hn];have e4:(false==false)=true:=rfl;rw[e4];exact⟨_,_,_,_,_,_,_,_,_,rfl,same⟩
end
def Fe(h:cB)(o:qT):Prop:=o.Kind=0->GG h o.F/\o.F.Nodes.length<=6
theorem z4e{h:cB}{l:I qT}(hl:l.length<=9223372036854775807){n:Nat}(hn:3000000<=n):∀(m i:Nat),l.length-i<m->i<=l.length->∃b,Jf h l n m (i:Int)=some b/\(b=true->l.length<=16/\∀o∈l.drop i,Fe h o)
 |0,i,hm,_=>by omega
 |m+1,i,hm,hi=>by
  unfold Jf;by_cases aE:i<l.length;obtain⟨o,ho,_⟩:=eI aE;simp only[gS aE,zC,cH,ho,aP,iG aE hl];obtain⟨b,g1,g2⟩:=z4e (h:=h) hl hn m (i+1) (by omega) (by omega);by_cases k0:o.Kind=0;have e0:(o.Kind==0)=true:=by simp[k0]
  by_cases h6:(o.F.Nodes.length:Int)>6;simp only[e0,zC,decide_eq_true h6,aP];exact⟨false,rfl,fun q=>by cases q⟩;obtain⟨b2,f1,f2⟩:=zbk h (l:=[o.F]) (by simp) hn;simp only[e0,zC,decide_eq_false h6,zD,f1,aP];rcases b2 with _|_;exact⟨false,rfl,fun q=>by cases q⟩;simp only[Bool.not_true,zD,g1];refine⟨b,rfl,fun q=>⟨(g2 q).1,fun x hx=>?_⟩⟩;rw[aX ho]at hx;rcases zI.1 hx with rfl |hx;exact fun _=>⟨f2 rfl _ (by simp),by omega⟩
  exact(g2 q).2 x hx;have e0:(o.Kind==0)=false:=by simp[k0]
  simp only[e0,zD,aP,g1];refine⟨b,rfl,fun q=>⟨(g2 q).1,fun x hx=>?_⟩⟩;rw[aX ho]at hx;rcases zI.1 hx with rfl |hx;exact fun q=>absurd q k0
  exact(g2 q).2 x hx;simp only[hZ aE,zD,sd];exact⟨_,rfl,fun q=>⟨by have:=of_decide_eq_true q;omega,fun x hx=>by rw[bV aE]at hx;cases hx⟩⟩
theorem FD(h:cB){l:I qT}(hl:l.length<=9223372036854775807){n:Nat}(hn:3000000+l.length<=n):∃b,yh n h l=some b/\(b=true->l.length<=16/\∀o∈l,Fe h o):=by have:=z4e (h:=h) hl (n:=n) (by omega) n 0 (by omega) (by omega);rw[zV,List.drop_zero]at this;exact this
theorem zbo{h:cB}{ws:I Nat}:zj h ws 0 [] [] [] [] [] []:=⟨[],⟨⟨id,(fun _=>0),id,0,⟨rfl,fun j x a hj=>by simp at hj⟩,(fun x hx=>by cases hx),(fun x hx=>by cases hx),lO.init rfl (fun c hc=>by cases hc),⟨fun j x a hj=>by simp at hj,fun i b hi=>by simp at hi,fun i hi=>by simp at hi⟩,⟨rfl,fun i hi=>by simp at hi,fun i hi=>zF _,fun i hi=>rfl⟩,fun i j hi=>by simp at hi,by simp[tot],by simp[tot]⟩,rfl,rfl,by simp,by simp,fun k s hs=>by simp at hs,fun j k s s' _ hj=>by simp at hj⟩⟩
section
variable{h:cB}{ws:I Nat}{U:Nat}{c:I aT}{tl:I bH}{mk:I d6}{L:I aM}{cl:I Int}{rm:I qL}
end
theorem qzo{h:cB}{ws:I Nat}(hh:pD h ws){l:I qT}(hl:l.length<=16)(pY:∀o∈l,Fe h o){n:Nat}(hn:3000000<=n):∀(m i:Nat)(c:I aT)(tl:I bH)(mk:I d6)(L:I aM)(cl:I Int)(rm:I qL)(t1 t2 t3:Nat),l.length-i<m->i<=l.length->zj h ws i c tl mk L cl rm->
  ∃c' kF mk' L' cl' rm' t1' t2' t3',Jt l n (h.Types,h.Feats) m (i:Int) mk t1 tl t2 c t3 h.Types h.Feats L cl rm=some (h.Types,h.Feats,c',t3',kF,t2',mk',t1')/\zj h ws l.length c' kF mk' L' cl' rm'
 |0,i,c,tl,mk,L,cl,rm,t1,t2,t3,hm,_,_=>by omega
 |m+1,i,c,tl,mk,L,cl,rm,t1,t2,t3,hm,hi,p=>by
  unfold Jt;by_cases aE:i<l.length;obtain⟨o,ho,hom⟩:=eI aE;obtain⟨S,p⟩:=p;obtain⟨c',kF,mk',L',cl',rm',wn,wl,wh,d1,d2⟩:=qe hh p (by omega) (pY o hom) hn t3 t2 t1;have e1:Z7 n (gT.mk (cB.mk h.Types h.Feats) L cl rm) o h.Types h.Feats c t3 tl t2 mk t1=some (⟨h,L',cl',rm'⟩,true,c',wn,kF,wl,mk',wh):=d1;simp only[gS aE,zC,cH,ho,aP,e1,iG aE (show l.length<=9223372036854775807 by omega)];exact qzo hh hl pY hn m (i+1) c' kF mk' L' cl' rm' wh wl wn (by omega) (by omega) d2;have:i=l.length:=by omega
  subst this;simp only[hZ aE,zD,py];exact⟨_,_,_,_,_,_,_,_,_,rfl,p⟩
section
variable{h:cB}{ws:I Nat}{c0:I aT}{EC:I bH}{mk1:I d6}
end
end Go.Proofs
namespace Go.Proofs
open Go Go.Rx Go.Vx Go.Shelf Go.Sort
set_option maxRecDepth 10000
inductive HR(f:GFS):Int->Int->Prop
 |one {u:Int} {a:aK}:a∈(nd f u).Arcs->HR f u a.To
 |snoc {u v:Int} {a:aK}:HR f u v->a∈(nd f v).Arcs->HR f u a.To
theorem HR.trans{f:GFS}{u v w:Int}(h:HR f u v)(h':HR f v w):HR f u w:=by induction h' with|one ha=>exact .snoc h ha|snoc _ ha ih=>exact .snoc ih ha
def A9(f:GFS)(s t:I Int):Prop:=∀t1 u t2,t=t1++u::t2->∃w∈s++t1,∃a∈(nd f w).Arcs,a.To=u
theorem A9.nil(f:GFS)(s:I Int):A9 f s []:=fun t1 u t2 h=>by simp at h
theorem A9.cons{f:GFS}{s t:I Int}{x:Int}(hx:∃w∈s,∃a∈(nd f w).Arcs,a.To=x)(h:A9 f (s++[x]) t):A9 f s (x::t):=fun t1 u t2 e=>by
 cases t1 with
 |nil=>simp only[List.nil_append,List.cons.injEq]at e;obtain⟨rfl,rfl⟩:=e;simpa using hx
 |cons y t1=>simp only[List.cons_append,List.cons.injEq]at e;obtain⟨rfl,rfl⟩:=e;obtain⟨w,hw,g⟩:=h t1 u t2 rfl;exact⟨w,by simpa using hw,g⟩
theorem A9.app{f:GFS}:∀{t s t':I Int},A9 f s t->A9 f (s++t) t'->A9 f s (t++t')
 |[],s,t',_,h'=>by simpa using h'
 |x::t,s,t',h,h'=>by have h1:=h [] x t rfl;rw[List.append_nil]at h1;refine A9.cons h1 (A9.app (t:=t) (fun t1 u t2 e=>?_) (by simpa using h'));obtain⟨w,hw,g⟩:=h (x::t1) u t2 (by rw[e];rfl);exact⟨w,by simpa using hw,g⟩
theorem z32{f:GFS}(hg:u7 f):∀(k:Nat)(o:I Int)(v:Int),Seen f o->oR f v->v ∉ o->f.Nodes.length-o.length<=k->
  ∃t,dfs f k o v=o++v::t/\A9 f (o++[v]) t/\∀u∈t,HR f v u
 |0,o,v,hs,hv,hn,hk=>by have h1:=(hs.snoc hv hn).len;simp only[zU,zO,zS]at h1;omega
 |k+1,o,v,hs,hv,hn,hk=>by
  have nA:=hs.snoc hv hn;have CC:=nA.len;simp only[zU,zO,zS]at CC;have key:∀(l:I aK),(∀a∈l,a∈(nd f v).Arcs/\oR f a.To)->∀(t0:I Int),Seen f (o++v::t0)->A9 f (o++[v]) t0->(∀u∈t0,HR f v u)->
    ∃t,l.foldl (lD (dfs f k)) (o++v::t0)=o++v::t/\A9 f (o++[v]) t/\∀u∈t,HR f v u:=by
   intro l;induction l with
   |nil=>intro _ t0 _ h1 h2;exact⟨t0,rfl,h1,h2⟩|cons a l ih=>
    intro hl t0 hp h1 h2;have CB:=hl a (by simp);have B4:=fun b hb=>hl b (List.mem_cons_of_mem a hb);simp only[List.foldl_cons];by_cases hm:a.To∈o++v::t0;have e:lD (dfs f k) (o++v::t0) a=o++v::t0:=by simp only[lD,hm,if_true]
    rw[e];exact ih B4 t0 hp h1 h2;have e:lD (dfs f k) (o++v::t0) a=dfs f k (o++v::t0) a.To:=by simp only[lD,hm,if_false]
    have bA:(o++v::t0).length=o.length+1+t0.length:=by simp;omega
    obtain⟨t1,d1,d2,d3⟩:=z32 hg k (o++v::t0) a.To hp CB.2 hm (by omega);obtain⟨q1,_⟩:=Oo hg k (o++v::t0) a.To hp CB.2 hm (by omega);rw[e,d1];rw[d1]at q1;have e2:o++v::t0++a.To::t1=o++v::(t0++a.To::t1):=by simp
    rw[e2]at q1 ⊢;refine ih B4 (t0++a.To::t1) q1 (h1.app (A9.cons ⟨v,by simp,a,CB.1,rfl⟩ (by simpa using d2))) fun u hu=>?_;rcases yD.1 hu with hu |hu
    exact h2 u hu;rcases zI.1 hu with rfl |hu;exact .one CB.1;exact(HR.one CB.1).trans (d3 u hu)
  obtain⟨t,g1,g2,g3⟩:=key (mF f v) (fun a ha=>⟨yI.1 ha,by have h1:=(hg _ (SE hv).2).arc a (yI.1 ha);exact⟨h1.2.1,h1.2.2⟩⟩) [] nA (A9.nil _ _) (by simp);exact⟨t,g1,g2,g3⟩
theorem z8k{f:GFS}(hg:u7 f){r:Int}(hr:oR f r):∃t,pP f r=r::t/\A9 f [r] t/\∀u∈t,HR f r u:=by obtain⟨t,h1,h2,h3⟩:=z32 hg f.Nodes.length [] r (Seen.nil f) hr (by simp) (by simp);exact⟨t,h1,h2,h3⟩
end Go.Proofs
namespace Go.Proofs
open Go Go.Rx Go.Vx Tryz
instance:TbP prog tb:=⟨tb_ok⟩
set_option maxRecDepth 20000
set_option maxHeartbeats 4000000
set_option synthInstance.maxSize 4000
set_option synthInstance.maxHeartbeats 200000
structure JB where
 E0:Int
 E1:Int
def EW(x:JB):I U:=[.int .u8 x.E0,.int .u8 x.E1]
theorem qsc(n:Nat)(x:JB):aL n (EW x):=by simp only[EW,aL,bC,true_and,and_true]
instance(n:Nat)(x:JB):fB n (EW x):=⟨qsc n x⟩
abbrev YV(a)(b:Nat)(c)(d:Nat)(e)(f:Nat)(g)(h)(i:B)(j:B):=([(7,.bv pT a 94 2 b),(6,.bv lY c 151 4 d),(5,.bv fY e 96 3 f),(3,.row [.iM fK g,.iM gR h,.vl 5 f 0 e.length,.vl 6 d 0 c.length,.vl 7 b 0 a.length] 85),(1,i),(0,j)]:I (Nat×B))
abbrev J9(a:B)(b)(c)(d:B):=([(3,a),(2,.row [.iM aY b] 40),(1,.row [.iM aY c] 40),(0,d)]:I (Nat×B))
def PE(n:Nat)(p1:cB)(p2:Int)(p3:Int):V (Bool):=
 a8 (aB p1.Types p3) fun x4=>
 a8 (aB p1.Types p2) fun x6=>
 a8 (Z8 n x4.Code x6.Code) fun r8=>some r8
theorem qpl(n:Nat)(p1:cB)(p2:Int)(p3:Int)(r:Bool)(J:PE n p1 p2 p3=some r):cY prog 78 [.agg (eF p1),.int .i64 p2,.int .i64 p3] (.bool r):=by unfold PE at J;refine xV 20 Yt ?_;obtain⟨x4,h5,J⟩:=aC J;obtain⟨x6,h7,J⟩:=aC J;obtain⟨r8,h9,J⟩:=aC J;refine go ?_;refine dE [] ?_;refine gd ?_;refine bP h5 ?_;refine gd ?_;refine bP h7 ?_;refine gd ?_;refine eM rfl (pC (N_ n x4.Code x6.Code r8 h9)) DX ?_;refine gd ?_;refine bD ⟨by kernel_rfl,trivial,?_⟩;exact gx J
def T_: V (Int):=
 some (-1)
def Jm(p1:aM)(p2:Int):Nat->Int->V (Int)
 |0,_=>none|m1+1,z9=>cond (decide (z9<(p1.Arcs.length:Int))) (a8 (aB p1.Arcs z9) fun fZ=>cond (fZ.Feat==p2) (some fZ.To) ((Jm p1 p2 m1) (IntKind.i64.wrap (z9+1)))) (T_)
def mf(n:Nat)(p1:aM)(p2:Int):V (Int):=
 Jm p1 p2 n 0
theorem qod(n:Nat)(p1:aM)(p2:Int)(r:Int)(J:mf n p1 p2=some r):cY prog 79 [.agg (aY p1),.int .i64 p2] (.int .i64 r):=by unfold mf at J;refine gP 21 Ys ?_;refine go ?_;refine gL (fun m tm O=>∃z9,Jm p1 p2 m z9=some r/\tm=fr 21 [(1,.i6 p2),(8,.iM aU p1.Arcs),(9,.i6 (p1.Arcs.length:Int)),(10,.i6 z9)]/\O=⟨[(0,.row (aY p1) 78)],1⟩) (fun tm O=>T_=some r/\tm=fr 21 []/\O=⟨[(0,.row (aY p1) 78)],1⟩) n ⟨0,J,rfl,rfl⟩ ?_ ?_;rintro _ _ ⟨J,rfl,rfl⟩;unfold T_ at J;exact gx J;rintro(_|m1) _ _ ⟨z9,J,rfl,rfl⟩;cases J;unfold Jm at J;refine gF J ?_ ?_<;>intro fH J;refine go ?_;apply aV;obtain⟨fZ,eC,J⟩:=aC J;refine go ?_;refine aZ eC ?_;refine gF J ?_ ?_<;>intro dG J;exact gx J;refine go ?_;exact lC ⟨_,J,rfl,rfl⟩;refine go ?_;exact xC ⟨J,rfl,rfl⟩
def mh(z26:Int)(rc2:Int->(I Int)->V ((I Int)×Bool))(Kj:I Int):V ((I Int)×Bool):=
 rc2 (IntKind.i64.wrap (z26+1)) Kj
def Iw(p2:GFS)(A8:Bool)(eJ:I Int)(eO:I aM)(eD:I aM)(iR:I dI)(rG:I eB):V ((I Int)×Bool):=
 cond (!A8) (some ([],false)) (aF ((p2.Nodes.length:Int).toNat=eJ.length) (some (eJ,true)))
def Iu(p1:cB)(p2:GFS)(p3:GFS)(n:Nat)(z26:Int)(rc2:Int->(I Int)->V ((I Int)×Bool))(fM:aM)(x39:Int):Nat->Int->(I Int)->V ((I Int)×Bool)
 |0,_,_=>none|m3+1,RE,jB=>
  cond (decide (RE<(fM.Arcs.length:Int))) (a8 (aB fM.Arcs RE) fun I7=>
   a8 (aB p3.Nodes x39) fun ax=>
   a8 (mf n ax I7.Feat) fun S9=>
   a8 (cond (decide (S9<0)) (some true) (a8 (iU jB 0 ((p2.Nodes.length:Int).toNat) I7.To) fun aq=>cond (decide (aq>=0)) (a8 (iU jB 0 ((p2.Nodes.length:Int).toNat) I7.To) fun WH=>some (WH != S9)) (some false))) fun qr=>cond qr (Iw p2 false jB p3.Nodes p2.Nodes p1.Types p1.Feats) (a8 (iU jB 0 ((p2.Nodes.length:Int).toNat) I7.To) fun x83=>(Iu p1 p2 p3 n z26 rc2 fM x39 m3) (IntKind.i64.wrap (RE+1)) (jB.set I7.To.toNat S9))) (mh z26 rc2 jB)
def PF(p1:cB)(p2:GFS)(p3:GFS)(n:Nat):Nat->Int->(I Int)->V ((I Int)×Bool)
 |0,_,_=>none|m2+1,z26,l27=>
  cond (decide (z26<(p2.Nodes.length:Int))) (a8 (aB p2.Nodes z26) fun fM=>
   a8 (iU l27 0 ((p2.Nodes.length:Int).toNat) z26) fun x39=>
   a8 (cond (decide (x39<0)) (some true) (a8 (aB p3.Nodes x39) fun db=>a8 (PE n p1 fM.Typex db.Typex) fun gJ=>some (!gJ))) fun b46=>cond b46 (Iw p2 false l27 p3.Nodes p2.Nodes p1.Types p1.Feats) (Iu p1 p2 p3 n z26 (PF p1 p2 p3 n m2) fM x39 n 0 l27)) (Iw p2 true l27 p3.Nodes p2.Nodes p1.Types p1.Feats)
def So(p1:cB)(p2:GFS)(p3:GFS)(n:Nat)(fG:I Int):V ((I Int)×Bool):=
 a8 (iU fG 0 ((p2.Nodes.length:Int).toNat) 0) fun qW=>
 PF p1 p2 p3 n n 0 (fG.set (0:Int).toNat 0)
def Iv(p1:cB)(p2:GFS)(p3:GFS)(n:Nat):Nat->Int->(I Int)->V ((I Int)×Bool)
 |0,_,_=>none|m1+1,dM,bS=>cond (decide (dM<(((p2.Nodes.length:Int).toNat:Nat):Int))) (a8 (iU bS 0 ((p2.Nodes.length:Int).toNat) dM) fun x86=>(Iv p1 p2 p3 n m1) (IntKind.i64.wrap (dM+1)) (bS.set dM.toNat (-1))) (So p1 p2 p3 n bS)
def Ra(n:Nat)(p1:cB)(p2:GFS)(p3:GFS):V ((I Int)×Bool):=
 aF (0<=(p2.Nodes.length:Int)/\8*(p2.Nodes.length:Int).toNat<=281474976710656/\(p2.Nodes.length:Int)<=281474976710656) (
 Iv p1 p2 p3 n n 0 (List.replicate (p2.Nodes.length:Int).toNat 0))
theorem qu3(n:Nat)(p1:cB)(p2:GFS)(p3:GFS)(r:(I Int)×Bool)(J:Ra n p1 p2 p3=some r):cY prog 49 [.agg (eF p1),.agg [.isl false (p2.Nodes.map aY)],.agg [.isl false (p3.Nodes.map aY)]] (.tup [.isl false (r.1.map (cI .i64)),.bool r.2]):=by
 unfold Ra at J;refine xV 103 Zl ?_;refine gr ?_;refine WPU.scope ?_;obtain⟨h4,J⟩:=d7 J;refine go ?_;refine aO (u:=.sl 3 0 ((p2.Nodes.length:Int).toNat) ((p2.Nodes.length:Int).toNat)) (O':=⟨J9 (.row (List.map (cI .i64) (List.replicate (p2.Nodes.length:Int).toNat 0)).flatten 3) p3.Nodes p2.Nodes (.row (eF p1) 27),4⟩) rfl (Og (cI .i64) 0 rfl rfl dY.h fQ.h rfl rfl rfl rfl h4) ?_;refine go ?_;refine aO rfl (OD rfl rfl rfl (za6 dY.h rfl)) ?_;refine go ?_;refine gL (fun m tm O=>∃dM bS,Iv p1 p2 p3 n m dM bS=some r/\tm=fr 103 [(3,.ptr 0 0 0),(4,.ptr 1 0 0),(5,.ptr 2 0 0),(8,.sl 3 0 ((p2.Nodes.length:Int).toNat) ((p2.Nodes.length:Int).toNat)),(22,.i6 (((p2.Nodes.length:Int).toNat:Nat):Int)),(23,.i6 dM)]/\O=⟨J9 (.row (bS.map (cI .i64)).flatten 3) p3.Nodes p2.Nodes (.row (eF p1) 27),4⟩) (fun tm O=>∃fG,So p1 p2 p3 n fG=some r/\tm=fr 103 [(3,.ptr 0 0 0),(4,.ptr 1 0 0),(5,.ptr 2 0 0),(8,.sl 3 0 ((p2.Nodes.length:Int).toNat) ((p2.Nodes.length:Int).toNat))]/\O=⟨J9 (.row (fG.map (cI .i64)).flatten 3) p3.Nodes p2.Nodes (.row (eF p1) 27),4⟩) n ⟨0,(List.replicate (p2.Nodes.length:Int).toNat 0),J,rfl,rfl⟩ ?_ ?_;rintro _ _ ⟨fG,J,rfl,rfl⟩;unfold So at J;obtain⟨qW,nV,J⟩:=aC J;refine go ?_;refine aO rfl (dC rfl rfl (wI dY.h (aW fQ.h) rfl nV)) (G8 (u:=.junk) (O':=⟨J9 (.row (List.map (cI .i64) (fG.set (0:Int).toNat 0)).flatten 3) p3.Nodes p2.Nodes (.row (eF p1) 27),4⟩) rfl (OA (cI .i64) (aW fQ.h) (kN .i64) rfl rfl rfl rfl rfl rfl nV rfl) rfl ?_);refine gr ?_;refine WPU.label ?_;refine go ?_;refine gL (fun m tm O=>∃z26 l27,PF p1 p2 p3 n m z26 l27=some r/\tm=fr 103 [(3,.ptr 0 0 0),(5,.ptr 2 0 0),(8,.sl 3 0 ((p2.Nodes.length:Int).toNat) ((p2.Nodes.length:Int).toNat)),(10,.bool true),(33,.iM aY p2.Nodes),(34,.i6 (p2.Nodes.length:Int)),(35,.i6 z26)]/\O=⟨J9 (.row (l27.map (cI .i64)).flatten 3) p3.Nodes p2.Nodes (.row (eF p1) 27),4⟩) (fun tm O=>∃A8 eJ,∃eO eD,∃iR rG,Iw p2 A8 eJ eO eD iR rG=some r/\tm=fr 103 [(8,.sl 3 0 ((p2.Nodes.length:Int).toNat) ((p2.Nodes.length:Int).toNat)),(10,.bool A8)]/\O=⟨[(3,.row (eJ.map (cI .i64)).flatten 3),(2,.row [.iM aY eO] 40),(1,.row [.iM aY eD] 40),(0,.row [.iM fK iR,.iM gR rG] 27)],4⟩) n ⟨0,(fG.set (0:Int).toNat 0),J,rfl,rfl⟩ ?_ ?_;rintro _ _ ⟨A8,eJ,eO,eD,iR,rG,J,rfl,rfl⟩;unfold Iw at J;refine gF J ?_ ?_<;>intro nT J;refine go ?_;obtain rfl:=sI J;exact rT (us:=[.nils,.bool false]) (u:=.tup [.isl false [],.bool false]) (dW rfl (dW rfl (dN))) wR;obtain⟨o8,J⟩:=d7 J;refine go ?_;obtain rfl:=sI J;exact⟨.inr rfl,[.sl 3 0 ((p2.Nodes.length:Int).toNat) ((p2.Nodes.length:Int).toNat),.bool true],dW rfl (dW rfl (dN)),.tup [.iM (cI .i64) eJ,.bool true],⟨[],0⟩,zF _,Gh.trans (Gh.fz (tm':=[.tup [.iM (cI .i64) eJ,.bool true]]) (h':=[(2,.row [.iM aY eO] 40),(1,.row [.iM aY eD] 40),(0,.row [.iM fK iR,.iM gR rG] 27)]) 3 (.row (eJ.map (cI .i64)).flatten 3) 1 rfl (by simp) (by simp only[oG,wL,uI,D7,H5,GW,ET,J4,J5,J6,H4,GX,J2,EP,GV,GR,BM,SH (kN .i64) o8]) (by simp only[fzH,fzB,ug,Nat.beq,zC,zD,oG,wL,uI,D7,H5,GW,ET,J4,J5,J6,H4,GX,J2,EP,GV,GR,BM,SH (kN .i64) o8])) (u9 (.tup [.iM (cI .i64) eJ,.bool true]) rfl),rfl,BU.h⟩;rintro(_|m2) _ _ ⟨z26,l27,J,rfl,rfl⟩;cases J;unfold PF at J;refine gF J ?_ ?_<;>intro w4 J;refine go ?_;apply aV;obtain⟨fM,kX,J⟩:=aC J;refine go ?_;refine aZ kX ?_;obtain⟨x39,qB,J⟩:=aC J;refine go ?_;refine aO rfl (dC rfl rfl (wI dY.h (aW fQ.h) rfl qB)) (aO (u:=.i6 x39) rfl (MA (cI .i64) (fun x=>.i6 x) jN.h rfl (fun _=>rfl) rfl rfl qB) ?_);obtain⟨b46,B8,J⟩:=aC J;refine gn ?_;refine dO (fun tm O=>tm=fr 103 [(3,.ptr 0 0 0),(5,.ptr 2 0 0),(8,.sl 3 0 ((p2.Nodes.length:Int).toNat) ((p2.Nodes.length:Int).toNat)),(10,.bool true),(12,.ptr 4 0 0),(13,.i6 x39),(33,.iM aY p2.Nodes),(34,.i6 (p2.Nodes.length:Int)),(35,.i6 z26),(58,.bool b46)]/\O=⟨(4,.row (aY fM) 78)::J9 (.row (l27.map (cI .i64)).flatten 3) p3.Nodes p2.Nodes (.row (eF p1) 27),5⟩) ?_ ?_;rintro _ _ ⟨rfl,rfl⟩;refine gF J ?_ ?_<;>intro HM J;refine go ?_;exact xC ⟨false,l27,p3.Nodes,p2.Nodes,p1.Types,p1.Feats,J,rfl,rfl⟩;refine go ?_;refine gL (fun m tm O=>∃RE jB,Iu p1 p2 p3 n z26 (PF p1 p2 p3 n m2) fM x39 m RE jB=some r/\tm=fr 103 [(3,.ptr 0 0 0),(5,.ptr 2 0 0),(8,.sl 3 0 ((p2.Nodes.length:Int).toNat) ((p2.Nodes.length:Int).toNat)),(10,.bool true),(13,.i6 x39),(33,.iM aY p2.Nodes),(34,.i6 (p2.Nodes.length:Int)),(35,.i6 z26),(60,.iM aU fM.Arcs),(61,.i6 (fM.Arcs.length:Int)),(62,.i6 RE)]/\O=⟨(4,.row (aY fM) 78)::J9 (.row (jB.map (cI .i64)).flatten 3) p3.Nodes p2.Nodes (.row (eF p1) 27),5⟩) (fun tm O=>∃Kj,mh z26 (PF p1 p2 p3 n m2) Kj=some r/\tm=fr 103 [(3,.ptr 0 0 0),(5,.ptr 2 0 0),(8,.sl 3 0 ((p2.Nodes.length:Int).toNat) ((p2.Nodes.length:Int).toNat)),(10,.bool true),(33,.iM aY p2.Nodes),(34,.i6 (p2.Nodes.length:Int)),(35,.i6 z26)]/\O=⟨(4,.row (aY fM) 78)::J9 (.row (Kj.map (cI .i64)).flatten 3) p3.Nodes p2.Nodes (.row (eF p1) 27),5⟩) n ⟨0,l27,J,rfl,rfl⟩ ?_ ?_;rintro _ _ ⟨Kj,J,rfl,rfl⟩;unfold mh at J;refine go ?_;exact lC ⟨_,Kj,J,rfl,rfl⟩;rintro(_|m3) _ _ ⟨RE,jB,J,rfl,rfl⟩;cases J;unfold Iu at J;refine gF J ?_ ?_<;>intro Cy J;refine go ?_;apply aV;obtain⟨I7,Lg,J⟩:=aC J;refine go ?_;refine aZ Lg ?_;obtain⟨ax,Lf,J⟩:=aC J;obtain⟨S9,Xy,J⟩:=aC J;refine go ?_;refine dE [] ?_;refine gd ?_;refine bP Lf ?_;refine gd ?_;refine eM rfl (pC (qod n ax I7.Feat S9 Xy)) Ys ?_;refine gd ?_;refine bD ⟨by kernel_rfl,trivial,?_⟩;obtain⟨qr,B7,J⟩:=aC J;refine gn ?_;refine dO (fun tm O=>tm=fr 103 [(3,.ptr 0 0 0),(5,.ptr 2 0 0),(8,.sl 3 0 ((p2.Nodes.length:Int).toNat) ((p2.Nodes.length:Int).toNat)),(10,.bool true),(13,.i6 x39),(15,.ptr 5 0 0),(16,.i6 S9),(33,.iM aY p2.Nodes),(34,.i6 (p2.Nodes.length:Int)),(35,.i6 z26),(60,.iM aU fM.Arcs),(61,.i6 (fM.Arcs.length:Int)),(62,.i6 RE),(92,.bool qr)]/\O=⟨(5,.row (aU I7) 98)::(4,.row (aY fM) 78)::J9 (.row (jB.map (cI .i64)).flatten 3) p3.Nodes p2.Nodes (.row (eF p1) 27),6⟩) ?_ ?_;rintro _ _ ⟨rfl,rfl⟩;refine gF J ?_ ?_<;>intro h82 J;refine go ?_;exact xC ⟨false,jB,p3.Nodes,p2.Nodes,p1.Types,p1.Feats,J,rfl,rfl⟩;obtain⟨x83,h84,J⟩:=aC J;refine go ?_;refine aO rfl (dC rfl rfl (wI dY.h (aW fQ.h) rfl h84)) (G8 (u:=.junk) (O':=⟨(5,.row (aU I7) 98)::(4,.row (aY fM) 78)::J9 (.row (List.map (cI .i64) (jB.set I7.To.toNat S9)).flatten 3) p3.Nodes p2.Nodes (.row (eF p1) 27),6⟩) rfl (OA (cI .i64) (aW fQ.h) (kN .i64) rfl rfl rfl rfl rfl rfl h84 rfl) rfl ?_);refine go ?_;exact lC ⟨_,(jB.set I7.To.toNat S9),J,rfl,rfl⟩;refine go ?_;rcases gB B7 with⟨h74,B7⟩|⟨h74,B7⟩;obtain rfl:=sI B7;refine go ?_
 repeat refine RS.no (GO rfl rfl rfl) rfl rfl ?_
 refine go ?_;exact xC ⟨rfl,rfl⟩;obtain⟨aq,eu,B7⟩:=aC B7;refine go ?_;refine RS.w rfl (dC rfl rfl (wI dY.h (aW fQ.h) rfl eu)) (RS.w (u:=.i6 aq) rfl (MA (cI .i64) (fun x=>.i6 x) jN.h rfl (fun _=>rfl) rfl rfl eu) ?_);refine go ?_;rcases gB B7 with⟨h77,B7⟩|⟨h77,B7⟩;obtain⟨WH,ep,B7⟩:=aC B7;obtain rfl:=sI B7;refine go ?_;refine RS.w rfl (dC rfl rfl (wI dY.h (aW fQ.h) rfl ep)) (RS.w (u:=.i6 WH) rfl (MA (cI .i64) (fun x=>.i6 x) jN.h rfl (fun _=>rfl) rfl rfl ep) ?_);refine go ?_;exact xC ⟨rfl,rfl⟩;exact gy B7;refine go ?_;exact xC ⟨jB,J,rfl,rfl⟩;refine dE [] ?_;refine gd ?_;rcases gB B8 with⟨KU,B8⟩|⟨KU,B8⟩;obtain rfl:=sI B8;refine gd ?_;refine bD ⟨by kernel_rfl,trivial,?_⟩;refine go ?_;exact xC ⟨rfl,rfl⟩;obtain⟨db,Db,B8⟩:=aC B8;obtain⟨gJ,pK,B8⟩:=aC B8;obtain rfl:=sI B8;refine gd ?_;refine bP Db ?_;refine gd ?_;refine eM rfl (pC (qpl n p1 fM.Typex db.Typex gJ pK)) Yt ?_;refine gd ?_;refine bD ⟨by kernel_rfl,trivial,?_⟩;refine go ?_;exact xC ⟨rfl,rfl⟩;refine go ?_;exact xC ⟨true,l27,p3.Nodes,p2.Nodes,p1.Types,p1.Feats,J,rfl,rfl⟩;rintro(_|m1) _ _ ⟨dM,bS,J,rfl,rfl⟩;cases J;unfold Iv at J;refine gF J ?_ ?_<;>intro o7 J;refine go ?_;apply aV;obtain⟨x86,eo,J⟩:=aC J;refine go ?_;refine aO rfl (dC rfl rfl (wI dY.h (aW fQ.h) rfl eo)) (G8 (u:=.junk) (O':=⟨J9 (.row (List.map (cI .i64) (bS.set dM.toNat (-1))).flatten 3) p3.Nodes p2.Nodes (.row (eF p1) 27),4⟩) rfl (OA (cI .i64) (aW fQ.h) (kN .i64) rfl rfl rfl rfl rfl rfl eo rfl) rfl ?_);refine go ?_;exact lC ⟨_,(bS.set dM.toNat (-1)),J,rfl,rfl⟩;refine go ?_;exact xC ⟨bS,J,rfl,rfl⟩
def MY(n:Nat)(p1:cB)(p2:GFS)(p3:GFS):V (Bool):=
 a8 (Ra n p1 p2 p3) fun r4=>some r4.2
theorem V_(n:Nat)(p1:cB)(p2:GFS)(p3:GFS)(r:Bool)(J:MY n p1 p2 p3=some r):cY prog 24 [.agg (eF p1),.agg [.isl false (p2.Nodes.map aY)],.agg [.isl false (p3.Nodes.map aY)]] (.bool r):=by unfold MY at J;refine xV 17 QU ?_;obtain⟨r4,h5,J⟩:=aC J;refine go ?_;refine aR rfl (pC (qu3 n p1 p2 p3 r4 h5) _) Zl ?_;exact gx J
def Jv(p3:JB)(n:Nat)(r4:cB)(r11:(I dI)×(I eB)×(I aT)×Nat×(I bH)×Nat×(I d6)×Nat)(r20:Int)(r24:Int)(oY:(I GFS))(r31:Bool×(I aT)×(I bH)×Nat)(lX:(I GFS)): V (Bool):=
 a8 (a8 (aB lX ((IntKind.i64.wrap p3.E0).tmod r20)) fun da=>
 a8 (aB lX ((IntKind.i64.wrap p3.E1).tmod r24)) fun E8=>
 a8 (EX n da E8) fun fc=>cond (!fc) (some true) (a8 (aB oY ((IntKind.i64.wrap p3.E0).tmod r20)) fun aw=>
  a8 (aB lX ((IntKind.i64.wrap p3.E1).tmod r24)) fun av=>
  a8 (MY n r4 aw av) fun fb=>cond (!fb) (some true) (a8 (aB oY ((IntKind.i64.wrap p3.E1).tmod r24)) fun WH=>
   a8 (aB lX ((IntKind.i64.wrap p3.E0).tmod r20)) fun ap=>
   a8 (MY n r4 WH ap) fun EH=>some (!EH)))) fun b84=>cond b84 (some false) (a8 (a8 (AT n ((IntKind.i64.wrap p3.E1).tmod r24) ((IntKind.i64.wrap p3.E0).tmod r20) r11.1 r11.2.1 r31.2.1 r31.2.2.1 r31.2.2.2 r11.2.2.2.2.2.2.1) fun y5=>cond y5.1 (a8 (ZW n r11.1 r11.2.1 y5.2.1 y5.2.2.1 r11.2.2.2.2.2.2.1) fun xB=>
   a8 (T9 n xB lX) fun dz=>cond dz (a8 (N3 n) fun dy=>some (dy,y5.2.2.1,y5.2.2.2,y5.2.1)) (some (false,y5.2.2.1,y5.2.2.2,y5.2.1))) (some (false,y5.2.2.1,y5.2.2.2,y5.2.1))) fun FF=>some FF.1)
def Ab(p3:JB)(n:Nat)(r4:cB)(r11:(I dI)×(I eB)×(I aT)×Nat×(I bH)×Nat×(I d6)×Nat)(r20:Int)(r24:Int)(oY:(I GFS))(r31:Bool×(I aT)×(I bH)×Nat)(lX:(I GFS)):Nat->Int->V (Bool)
 |0,_=>none|m1+1,oU=>
  cond (decide (oU<(oY.length:Int))) (a8 (aB oY oU) fun WN=>
   a8 (aB lX oU) fun WM=>
   a8 (MY n r4 WN WM) fun XZ=>cond (!XZ) (some false) ((Ab p3 n r4 r11 r20 r24 oY r31 lX m1) (IntKind.i64.wrap (oU+1)))) (Jv p3 n r4 r11 r20 r24 oY r31 lX)
def pf(n:Nat)(p1:I bL)(p2:I qT)(p3:JB):V (Bool):=
 a8 (Ts n p1) fun r4=>
 a8 (yh n r4 p2) fun r6=>cond (!r6) (a8 (N3 n) fun r9=>some r9) (a8 (Tr n r4 p2) fun r11=>
  a8 (MZ n r11.1 r11.2.1 r11.2.2.1 r11.2.2.2.2.1 r11.2.2.2.2.2.2.1) fun eK=>cond (eK==0) (a8 (N3 n) fun fD=>some fD) (a8 (MZ n r11.1 r11.2.1 r11.2.2.1 r11.2.2.2.2.1 r11.2.2.2.2.2.2.1) fun r20=>
   aF (¬ r20=0) (
   a8 (MZ n r11.1 r11.2.1 r11.2.2.1 r11.2.2.2.2.1 r11.2.2.2.2.2.2.1) fun r24=>
   aF (¬ r24=0) (
   a8 (ZW n r11.1 r11.2.1 r11.2.2.1 r11.2.2.2.2.1 r11.2.2.2.2.2.2.1) fun oY=>
   a8 (AT n ((IntKind.i64.wrap p3.E0).tmod r20) ((IntKind.i64.wrap p3.E1).tmod r24) r11.1 r11.2.1 r11.2.2.1 r11.2.2.2.2.1 r11.2.2.2.2.2.1 r11.2.2.2.2.2.2.1) fun r31=>
   a8 (ZW n r11.1 r11.2.1 r31.2.1 r31.2.2.1 r11.2.2.2.2.2.2.1) fun lX=>cond (!r31.1) (a8 (a8 (T9 n oY lX) fun oE=>cond oE (a8 (N3 n) fun oX=>some oX) (some false)) fun w5=>some w5) (Ab p3 n r4 r11 r20 r24 oY r31 lX n 0)))))
theorem qlp(n:Nat)(p1:I bL)(p2:I qT)(p3:JB)(r:Bool)(J:pf n p1 p2 p3=some r):cY prog 5 [.isl false (p1.map bU),.isl false (p2.map nH),.agg (EW p3)] (.bool r):=by unfold pf at J;refine xV 123 fn5 ?_;obtain⟨r4,h5,J⟩:=aC J;refine go ?_;refine aR rfl (pC (qn5 n p1 r4 h5) _) fn9 ?_;obtain⟨r6,h7,J⟩:=aC J;refine go ?_;refine aR rfl (pC (qsy n r4 p2 r6 h7) _) Zz ?_;refine gF J ?_ ?_<;>intro h8 J;obtain⟨r9,fH,J⟩:=aC J;refine go ?_;refine aR rfl (pC (gg n r9 fH) _) LA ?_;exact gx J;obtain⟨r11,eC,J⟩:=aC J;refine go ?_;refine lL (args:=[.agg (eF r4),.iM nH p2]) rfl (gM rfl rfl Zw rfl rfl rfl) (bE.st [] (qn7 n r4 p2 r11 eC )) rfl rfl ?_;rintro _ _ ⟨mC,rfl,rfl⟩;obtain⟨eK,eW,J⟩:=aC J;refine go ?_;refine lL (args:=[.ptr 3 0 0]) rfl (gM rfl rfl FZ rfl rfl rfl) (bE.st [3,5,6,7] (Ub n r11.1 r11.2.1 r11.2.2.1 r11.2.2.2.2.1 r11.2.2.2.2.2.2.1 eK eW r11.2.2.2.1 r11.2.2.2.2.2.1 r11.2.2.2.2.2.2.2)) rfl rfl ?_;rintro _ _ ⟨fE,rfl,rfl⟩;refine gF J ?_ ?_<;>intro fU J;obtain⟨fD,iS,J⟩:=aC J;refine go ?_;refine aR rfl (pC (gg n fD iS) _) LA ?_;exact gx J;obtain⟨r20,lS,J⟩:=aC J;obtain⟨mR,J⟩:=d7 J;obtain⟨r24,pL,J⟩:=aC J;obtain⟨uR,J⟩:=d7 J;refine go ?_;refine dE [(0,4),(0,10),(1,4),(1,10),(2,4),(2,10),(5,10),(6,4),(6,10),(7,4),(7,10),(8,4),(8,10),(9,4)] ?_;refine aQ rfl (dC rfl rfl (EN EB.h (aW Kk.h) rfl (by decide) rfl)) ?_;refine gd ?_;refine aQ (u:=.i6 (IntKind.i64.wrap p3.E0)) rfl (MC rfl rfl (by simp only[convX,M5.h,jN.h]<;>rfl) rfl) ?_;refine gd ?_;refine BC (u:=.i6 r20) (O1:=⟨YV r11.2.2.2.2.2.2.1 r11.2.2.2.2.2.2.2 r11.2.2.2.2.1 r11.2.2.2.2.2.1 r11.2.2.1 r11.2.2.2.1 r11.1 r11.2.1 (.row (eF r4) 27) (.row (EW p3) 56),8⟩) (args:=[.ptr 3 0 0]) rfl (gM rfl rfl FZ rfl rfl rfl) ((bE.st [3,5,6,7] (Ub n r11.1 r11.2.1 r11.2.2.1 r11.2.2.2.2.1 r11.2.2.2.2.2.2.1 r20 lS r11.2.2.2.1 r11.2.2.2.2.2.1 r11.2.2.2.2.2.2.2)).mono fun _ _ ⟨_,h⟩=>h) rfl rfl ?_;refine aQ rfl (tC rfl rfl (Ok _ mR) rfl) ?_;refine aQ rfl (dC rfl rfl (EN EB.h (aW Kk.h) rfl (by decide) rfl)) ?_;refine gd ?_;refine aQ (u:=.i6 (IntKind.i64.wrap p3.E1)) rfl (MC rfl rfl (by simp only[convX,M5.h,jN.h]<;>rfl) rfl) ?_;refine gd ?_;refine BC (u:=.i6 r24) (O1:=⟨YV r11.2.2.2.2.2.2.1 r11.2.2.2.2.2.2.2 r11.2.2.2.2.1 r11.2.2.2.2.2.1 r11.2.2.1 r11.2.2.2.1 r11.1 r11.2.1 (.row (eF r4) 27) (.row (EW p3) 56),8⟩) (args:=[.ptr 3 0 0]) rfl (gM rfl rfl FZ rfl rfl rfl) ((bE.st [3,5,6,7] (Ub n r11.1 r11.2.1 r11.2.2.1 r11.2.2.2.2.1 r11.2.2.2.2.2.2.1 r24 pL r11.2.2.2.1 r11.2.2.2.2.2.1 r11.2.2.2.2.2.2.2)).mono fun _ _ ⟨_,h⟩=>h) rfl rfl ?_;refine aQ rfl (tC rfl rfl (Ok _ uR) rfl) ?_;refine gd ?_;refine bD ⟨by kernel_rfl,⟨dC rfl rfl (EN EB.h (aW Kk.h) rfl (by decide) rfl),⟨dC rfl rfl (EN EB.h (aW Kk.h) rfl (by decide) rfl),⟨mW M5.h rfl rfl rfl rfl,⟨mW M5.h rfl rfl rfl rfl,⟨MC rfl rfl (by simp only[convX,M5.h,jN.h]<;>rfl) rfl,⟨MC rfl rfl (by simp only[convX,M5.h,jN.h]<;>rfl) rfl,⟨tC rfl rfl (Ok _ mR) rfl,⟨dC rfl rfl (EN EB.h (aW Kk.h) rfl (by decide) rfl),⟨dC rfl rfl (EN EB.h (aW Kk.h) rfl (by decide) rfl),⟨mW M5.h rfl rfl rfl rfl,⟨mW M5.h rfl rfl rfl rfl,⟨MC rfl rfl (by simp only[convX,M5.h,jN.h]<;>rfl) rfl,⟨MC rfl rfl (by simp only[convX,M5.h,jN.h]<;>rfl) rfl,⟨iQ rfl,trivial⟩⟩⟩⟩⟩⟩⟩⟩⟩⟩⟩⟩⟩⟩,?_⟩;obtain⟨oY,o9,J⟩:=aC J;refine go ?_;refine lL (args:=[.ptr 3 0 0]) rfl (gM rfl rfl QW rfl rfl rfl) (bE.st [3,5,6,7] (U_ n r11.1 r11.2.1 r11.2.2.1 r11.2.2.2.2.1 r11.2.2.2.2.2.2.1 oY o9 r11.2.2.2.1 r11.2.2.2.2.2.1 r11.2.2.2.2.2.2.2)) rfl rfl ?_;rintro _ _ ⟨oB,rfl,rfl⟩;obtain⟨r31,nU,J⟩:=aC J;refine go ?_;refine lL (args:=[.ptr 3 0 0,.i6 ((IntKind.i64.wrap p3.E0).tmod r20),.i6 ((IntKind.i64.wrap p3.E1).tmod r24)]) rfl (gM rfl rfl A4 rfl rfl rfl) (bE.st [3,5,6,7] (Ac n ((IntKind.i64.wrap p3.E0).tmod r20) ((IntKind.i64.wrap p3.E1).tmod r24) r11.1 r11.2.1 r11.2.2.1 r11.2.2.2.2.1 r11.2.2.2.2.2.1 r11.2.2.2.2.2.2.1 r31 nU r11.2.2.2.1 r11.2.2.2.2.2.2.2)) rfl rfl ?_;rintro _ _ ⟨mS,rfl,rfl⟩;obtain⟨lX,o8,J⟩:=aC J;refine go ?_;refine lL (args:=[.ptr 3 0 0]) rfl (gM rfl rfl QW rfl rfl rfl) (bE.st [3,5,6,7] (U_ n r11.1 r11.2.1 r31.2.1 r31.2.2.1 r11.2.2.2.2.2.2.1 lX o8 r11.2.2.2.1 r31.2.2.2 r11.2.2.2.2.2.2.2)) rfl rfl ?_;rintro _ _ ⟨t36,rfl,rfl⟩;refine gF J ?_ ?_<;>intro FX J;obtain⟨w5,gW,J⟩:=aC J;refine gn ?_;refine dO (fun tm O=>tm=fr 123 [(6,.bool w5)]/\O=⟨YV r11.2.2.2.2.2.2.1 r11.2.2.2.2.2.2.2 r31.2.2.1 r31.2.2.2 r31.2.1 r11.2.2.2.1 r11.1 r11.2.1 (.row (eF r4) 27) (.row (EW p3) 56),8⟩) ?_ ?_;rintro _ _ ⟨rfl,rfl⟩;exact gx J;obtain⟨oE,vB,gW⟩:=aC gW;refine go ?_;refine aR rfl (pC (qi6 n oY lX oE vB) _) Dt ?_;refine go ?_;rcases gB gW with⟨qB,gW⟩|⟨qB,gW⟩;obtain⟨oX,qA,gW⟩:=aC gW;obtain rfl:=sI gW;refine aR rfl (pC (gg n oX qA) _) LA ?_;refine go ?_;exact xC ⟨rfl,rfl⟩;exact gy gW;refine go ?_;refine gL (fun m tm O=>∃oU,Ab p3 n r4 r11 r20 r24 oY r31 lX m oU=some r/\tm=fr 123 [(7,.ptr 1 0 0),(8,.ptr 3 0 0),(9,.i6 ((IntKind.i64.wrap p3.E0).tmod r20)),(10,.i6 ((IntKind.i64.wrap p3.E1).tmod r24)),(11,.iM qJ oY),(13,.iM qJ lX),(58,.i6 (oY.length:Int)),(59,.i6 oU)]/\O=⟨YV r11.2.2.2.2.2.2.1 r11.2.2.2.2.2.2.2 r31.2.2.1 r31.2.2.2 r31.2.1 r11.2.2.2.1 r11.1 r11.2.1 (.row (eF r4) 27) (.row (EW p3) 56),8⟩) (fun tm O=>Jv p3 n r4 r11 r20 r24 oY r31 lX=some r/\tm=fr 123 [(7,.ptr 1 0 0),(8,.ptr 3 0 0),(9,.i6 ((IntKind.i64.wrap p3.E0).tmod r20)),(10,.i6 ((IntKind.i64.wrap p3.E1).tmod r24)),(11,.iM qJ oY),(13,.iM qJ lX)]/\O=⟨YV r11.2.2.2.2.2.2.1 r11.2.2.2.2.2.2.2 r31.2.2.1 r31.2.2.2 r31.2.1 r11.2.2.2.1 r11.1 r11.2.1 (.row (eF r4) 27) (.row (EW p3) 56),8⟩) n ⟨0,J,rfl,rfl⟩ ?_ ?_;rintro _ _ ⟨J,rfl,rfl⟩;unfold Jv at J;obtain⟨b84,o7,J⟩:=aC J;refine gn ?_;refine dO (fun tm O=>tm=fr 123 [(8,.ptr 3 0 0),(9,.i6 ((IntKind.i64.wrap p3.E0).tmod r20)),(10,.i6 ((IntKind.i64.wrap p3.E1).tmod r24)),(13,.iM qJ lX),(109,.bool b84)]/\O=⟨YV r11.2.2.2.2.2.2.1 r11.2.2.2.2.2.2.2 r31.2.2.1 r31.2.2.2 r31.2.1 r11.2.2.2.1 r11.1 r11.2.1 (.row (eF r4) 27) (.row (EW p3) 56),8⟩) ?_ ?_;rintro _ _ ⟨rfl,rfl⟩;refine gF J ?_ ?_<;>intro h86 J;exact gx J;obtain⟨FF,m9,J⟩:=aC J;refine gn ?_;refine dO (fun tm O=>tm=fr 123 [(6,.bool FF.1)]/\O=⟨YV r11.2.2.2.2.2.2.1 r11.2.2.2.2.2.2.2 FF.2.1 FF.2.2.1 FF.2.2.2 r11.2.2.2.1 r11.1 r11.2.1 (.row (eF r4) 27) (.row (EW p3) 56),8⟩) ?_ ?_;rintro _ _ ⟨rfl,rfl⟩;exact gx J;obtain⟨y5,h88,m9⟩:=aC m9;refine go ?_;refine lL (args:=[.ptr 3 0 0,.i6 ((IntKind.i64.wrap p3.E1).tmod r24),.i6 ((IntKind.i64.wrap p3.E0).tmod r20)]) rfl (gM rfl rfl A4 rfl rfl rfl) (bE.st [3,5,6,7] (Ac n ((IntKind.i64.wrap p3.E1).tmod r24) ((IntKind.i64.wrap p3.E0).tmod r20) r11.1 r11.2.1 r31.2.1 r31.2.2.1 r31.2.2.2 r11.2.2.2.2.2.2.1 y5 h88 r11.2.2.2.1 r11.2.2.2.2.2.2.2)) rfl rfl ?_;rintro _ _ ⟨t89,rfl,rfl⟩;refine go ?_;rcases gB m9 with⟨UY,m9⟩|⟨UY,m9⟩;obtain⟨xB,Le,m9⟩:=aC m9;obtain⟨dz,ei,m9⟩:=aC m9;refine go ?_;refine lL (args:=[.ptr 3 0 0]) (BL rfl rfl rfl UY) (gM rfl rfl QW rfl rfl rfl) (bE.st [3,5,6,7] (U_ n r11.1 r11.2.1 y5.2.1 y5.2.2.1 r11.2.2.2.2.2.2.1 xB Le r11.2.2.2.1 y5.2.2.2 r11.2.2.2.2.2.2.2)) rfl rfl ?_;rintro _ _ ⟨t93,rfl,rfl⟩;refine go ?_;refine aR rfl (pC (qi6 n xB lX dz ei) _) Dt ?_;refine go ?_;rcases gB m9 with⟨h96,m9⟩|⟨h96,m9⟩;obtain⟨dy,HL,m9⟩:=aC m9;obtain rfl:=sI m9;refine aR rfl (pC (gg n dy HL) _) LA ?_;refine go ?_;exact xC ⟨rfl,rfl⟩;exact gy m9;exact gy m9;obtain⟨da,Cz,o7⟩:=aC o7;obtain⟨E8,Cy,o7⟩:=aC o7;obtain⟨fc,Lg,o7⟩:=aC o7;refine dE [] ?_;refine gd ?_;refine bP Cz ?_;refine gd ?_;refine bP Cy ?_;refine gd ?_;refine eM rfl (pC (ZB n da E8 fc Lg)) A3 ?_;refine gd ?_;rcases gB o7 with⟨h70,o7⟩|⟨h70,o7⟩;obtain rfl:=sI o7;refine gd ?_;refine bD ⟨by kernel_rfl,trivial,?_⟩;refine go ?_;exact xC ⟨rfl,rfl⟩;obtain⟨aw,h72,o7⟩:=aC o7;obtain⟨av,h74,o7⟩:=aC o7;obtain⟨fb,eu,o7⟩:=aC o7;refine gd ?_;refine bP h72 ?_;refine gd ?_;refine bP h74 ?_;refine gd ?_;refine eM rfl (pC (V_ n r4 aw av fb eu)) QU ?_;refine gd ?_;rcases gB o7 with⟨h77,o7⟩|⟨h77,o7⟩;obtain rfl:=sI o7;refine gd ?_;refine bD ⟨by kernel_rfl,trivial,?_⟩;refine go ?_;exact xC ⟨rfl,rfl⟩;obtain⟨WH,ep,o7⟩:=aC o7;obtain⟨ap,B7,o7⟩:=aC o7;obtain⟨EH,h83,o7⟩:=aC o7;obtain rfl:=sI o7;refine gd ?_;refine bP ep ?_;refine gd ?_;refine bP B7 ?_;refine gd ?_;refine eM rfl (pC (V_ n r4 WH ap EH h83)) QU ?_;refine gd ?_;refine bD ⟨by kernel_rfl,trivial,?_⟩;refine go ?_;exact xC ⟨rfl,rfl⟩;rintro(_|m1) _ _ ⟨oU,J,rfl,rfl⟩;cases J;unfold Ab at J;refine gF J ?_ ?_<;>intro h105 J;refine go ?_;apply aV;obtain⟨WN,Df,J⟩:=aC J;obtain⟨WM,QK,J⟩:=aC J;obtain⟨XZ,QJ,J⟩:=aC J;refine go ?_;refine dE [] ?_;refine gd ?_;refine bP Df ?_;refine gd ?_;refine bP QK ?_;refine gd ?_;refine eM rfl (pC (V_ n r4 WN WM XZ QJ)) QU ?_;refine gd ?_;refine bD ⟨by kernel_rfl,trivial,?_⟩;refine gF J ?_ ?_<;>intro De J;exact gx J;refine go ?_;exact lC ⟨_,J,rfl,rfl⟩;refine go ?_;exact xC ⟨J,rfl,rfl⟩
end Go.Proofs
namespace Go.Proofs
open Go Go.Rx Go.Vx
set_option maxRecDepth 10000
structure Hm(le:Int->Int->Prop)(f g:GFS)(Z:Int->Int)(S:Int->Prop):Prop where
 clo:∀v,S v->∀a∈(nd f v).Arcs,S a.To
 arc:∀v,S v->∀a∈(nd f v).Arcs,∃b∈(nd g (Z v)).Arcs,b.Feat=a.Feat/\b.To=Z a.To
 ty:∀v,S v->le (nd f v).Typex (nd g (Z v)).Typex
theorem TT{f:GFS}{S:Int->Prop}(h:∀v,S v->∀a∈(nd f v).Arcs,S a.To){r:Int}(hr:S r):∀u∈pP f r,S u:=by
 have hS:rR f f id S:=⟨fun v hv a ha=>h v hv a (yI.1 ha),fun u v _ _ e=>e,fun _ _=>rfl,fun v _=>by
  have:(fun a:aK=>(⟨a.Feat,id a.To⟩:aK))=id:=by funext a;rfl
  rw[this,List.map_id];rfl⟩
 exact(hS.dfs f.Nodes.length [] r hr (by simp)).2
structure Hc(le:Int->Int->Prop)(f g:GFS)(r:Int)(Z:Int->Int)(o o':I Int):Prop where
 ho:o=pP f r
 ho':o'=pP g (Z r)
 hf:u7 f
 hg:u7 g
 hr:oR f r
 hr':oR g (Z r)
 mem:∀u∈o,Z u∈o'
 arc:∀u∈o,∀a∈(nd f u).Arcs,∃b∈(nd g (Z u)).Arcs,b.Feat=a.Feat/\b.To=Z a.To
 ty:∀u∈o,le (nd f u).Typex (nd g (Z u)).Typex
theorem Hm.hc{le:Int->Int->Prop}{f g:GFS}{Z:Int->Int}{S:Int->Prop}(h:Hm le f g Z S){r:Int}(hS:S r)(hf:u7 f)(hg:u7 g)(hr:oR f r)(hr':oR g (Z r)):Hc le f g r Z (pP f r) (pP g (Z r)):=by have ok':=(H3 hg hr').1;have hs:=TT h.clo hS;refine⟨rfl,rfl,hf,hg,hr,hr',?_,fun u hu=>h.arc u (hs u hu),fun u hu=>h.ty u (hs u hu)⟩;have:=TT (f:=f) (S:=fun u=>S u/\Z u∈pP g (Z r)) (fun v hv a ha=>⟨h.clo v hv.1 a ha,by obtain⟨b,hb,_,e⟩:=h.arc v hv.1 a ha;rw[<-e];exact ok'.clo _ hv.2 b hb⟩) (r:=r) ⟨hS,by obtain⟨t,e⟩:=ok'.head;rw[e];simp⟩;exact fun u hu=>(this u hu).2
structure MI(Z:Int->Int)(o o':I Int)(m:I Int):Prop where
 len:m.length=o.length
 at_:∀(j:Nat)(x:Int),m[j]? = some x->x= -1\/∃u,o[j]? = some u/\x=(o'.idxOf (Z u):Int)
theorem zaw{x:aM}{f:Int}(hd:mA x.Arcs){b:aK}(hb:b∈x.Arcs)(hf:b.Feat=f)(hl:x.Arcs.length<=1000000):∀(m i:Nat),x.Arcs.length-i<m->i<=x.Arcs.length->(∀a∈x.Arcs.take i,a.Feat≠f)->Jm x f m (i:Int)=some b.To
 |0,i,hm,_,_=>by omega
 |m+1,i,hm,hi,hn=>by
  unfold Jm;by_cases aE:i<x.Arcs.length;obtain⟨a,ha,tS⟩:=eI aE;simp only[gS aE,zC,cH,ha,aP];by_cases e:a.Feat=f;rw[beq_iff_eq.2 e,zC,hd.eq a tS b hb (by omega)];rw[beq_eq_false_iff_ne.2 e,zD,iG aE (show x.Arcs.length<=9223372036854775807 by omega)];refine zaw hd hb hf hl m (i+1) (by omega) (by omega) fun z hz=>?_;rw[j5 ha,yD,List.mem_singleton]at hz;rcases hz with hz |rfl
  exact hn z hz;exact e;exfalso;rw[zW (by omega)]at hn;exact hn b hb hf
theorem Gd{o:I Int}{x:Int}(h:x∈o):o[o.idxOf x]? = some x:=by have aE:=List.idxOf_lt_length_of_mem h;rw[List.getElem?_eq_getElem aE,List.getElem_idxOf]
theorem XT{Z:Int->Int}{o o' m:I Int}(h:MI Z o o' m){u:Int}(hu:u∈o):MI Z o o' (m.set (o.idxOf u) (o'.idxOf (Z u):Int)):=⟨by simp[h.len],fun j x hx=>by
 rcases MB hx with⟨e,rfl⟩|⟨_,hx⟩;subst e;exact .inr ⟨u,Gd hu,rfl⟩;exact h.at_ j x hx⟩
section
variable{h:cB}{le:Int->Int->Prop}{f g:GFS}{r:Int}{Z:Int->Int}{o o':I Int}
theorem zac(H:Hc le f g r Z o o'){n:Nat}(hn:2000000<=n)(HC:c8 (fX g (Z r)) 1000000)(nA:c8 (fX f r) 1000000){z26:Int}{rc2:Int->I Int->V (I Int×Bool)}{u:Int}(hu:u∈o):
  ∀(mm k:Nat)(m:I Int),(j9 f o u).Arcs.length-k<mm->k<=(j9 f o u).Arcs.length->MI Z o o' m->(∀a∈(j9 f o u).Arcs.take k,∃x,m[a.To.toNat]? = some x/\0<=x)->
   ∃m',Iu h (fX f r) (fX g (Z r)) n z26 rc2 (j9 f o u) (o'.idxOf (Z u):Int) mm (k:Int) m=rc2 (IntKind.i64.wrap (z26+1)) m'/\MI Z o o' m'/\(∀a∈(j9 f o u).Arcs,∃x,m'[a.To.toNat]? = some x/\0<=x)/\(∀(j:Nat)(x:Int),m[j]? = some x->0<=x->∃y,m'[j]? = some y/\0<=y)
 |0,k,m,hm,_,_,_=>by omega
 |mm+1,k,m,hm,hk,hM,oO=>by
  obtain⟨ok,_⟩:=H3 H.hf H.hr;obtain⟨ok',_⟩:=H3 H.hg H.hr';rw[<-H.ho]at ok;rw[<-H.ho']at ok';have eN:(fX f r).Nodes=o.map (j9 f o):=by rw[H.ho];rfl
  have eN':(fX g (Z r)).Nodes=o'.map (j9 g o'):=by rw[H.ho'];rfl
  have eL:((((fX f r).Nodes.length:Nat):Int).toNat)=o.length:=by rw[zZ,eN,yA]
  unfold Iu;by_cases aE:k<(j9 f o u).Arcs.length;obtain⟨a,ha,tS⟩:=eI aE;obtain⟨a0,Ct,rfl⟩:=List.mem_map.1 (show a∈(mF f u).map (mG o)from tS);rw[yI]at Ct;have pV:=ok.clo u hu a0 Ct;obtain⟨b0,Cs,q1,q2⟩:=H.arc u hu a0 Ct;have hpu:=H.mem u hu;have K1:(fX g (Z r)).Nodes[o'.idxOf (Z u)]? = some (j9 g o' (Z u)):=by rw[eN',List.getElem?_map,Gd hpu];rfl
  have bG:mA (j9 g o' (Z u)).Arcs:=by
   have jD:=ok'.seen.ing _ hpu;have:=(H.hg _ (SE jD).2).dis;have yO:kY ((mF g (Z u)).map (mG o')):=by unfold kY;rw[List.pairwise_map];exact(YG this).imp fun{a b} q=>q
   exact yO.dis
  have hb:mG o' b0∈(j9 g o' (Z u)).Arcs:=List.mem_map_of_mem (yI.2 Cs);have ht:=zaw (f:=a0.Feat) bG hb (by exact q1) (by exact HC.arcs _ (zX K1)) n 0 (by have:=HC.arcs _ (zX K1);omega) (by omega) (by simp);have er:(mG o' b0).To=(o'.idxOf (Z a0.To):Int):=by simp only[mG,q2]
  rw[er]at ht;have hi:=List.idxOf_lt_length_of_mem pV;have Ca:o.idxOf a0.To<m.length:=by rw[hM.len];exact hi
  obtain⟨x,hx,_⟩:=eI Ca;have i1:iU m 0 o.length ((o.idxOf a0.To:Nat):Int)=some x:=by rw[iU,if_pos (by omega),Nat.zero_add,zZ];exact hx
  have d0:decide ((o'.idxOf (Z a0.To):Int)<0)=false:=by simp
  have qr:(cond (decide ((o'.idxOf (Z a0.To):Int)<0)) (some true) (cond (decide (x>=0)) (some (x != (o'.idxOf (Z a0.To):Int))) (some false)))=some false:=by
   simp only[d0,zD];rcases hM.at_ _ _ hx with rfl |⟨w,w1,w2⟩;rfl;rw[Gd pV]at w1;cases w1;subst w2;have:decide ((o'.idxOf (Z a0.To):Int)>=0)=true:=by simp
   simp only[this,zC,bne_self_eq_false]
  have hw:=iG aE (show(j9 f o u).Arcs.length<=9223372036854775807 by
   have h2:(fX f r).Nodes[o.idxOf u]? = some (j9 f o u):=by rw[eN,List.getElem?_map,Gd hu];rfl
   have:=nA.arcs _ (zX h2);omega)
  have et:mf n (j9 g o' (Z u)) (mG o a0).Feat=some (o'.idxOf (Z a0.To):Int):=ht;have i2:iU m 0 o.length (mG o a0).To=some x:=i1;simp only[gS aE,zC,cH,ha,aP,K1,et,eL,i2,hw];rw[qr];simp only[aP,zD];have e3:(mG o a0).To.toNat=o.idxOf a0.To:=by simp[mG]
  rw[e3];obtain⟨m',g1,g2,g3,g4⟩:=zac H hn HC nA hu mm (k+1) (m.set (o.idxOf a0.To) (o'.idxOf (Z a0.To):Int)) (by omega) (by omega) (XT hM pV) fun z hz=>by rw[j5 ha,yD,List.mem_singleton]at hz;by_cases e:z.To.toNat=o.idxOf a0.To;rw[e,List.getElem?_set_self Ca];exact⟨_,rfl,by omega⟩;rcases hz with hz |rfl;rw[List.getElem?_set_ne (fun q=>e q.symm)];exact oO z hz;exact absurd e3 e
  refine⟨m',g1,g2,g3,fun j y hj hy=>?_⟩;by_cases e:o.idxOf a0.To=j;subst e;exact g4 _ _ (List.getElem?_set_self Ca) (by omega);exact g4 j y (by rw[List.getElem?_set_ne e];exact hj) hy;simp only[hZ aE,zD,mh];rw[zW (by omega)]at oO;exact⟨m,rfl,hM,oO,fun j x hj hx=>⟨x,hj,hx⟩⟩
theorem zab(H:Hc le f g r Z o o'){n:Nat}(hn:2000000<=n)(HC:c8 (fX g (Z r)) 1000000)(nA:c8 (fX f r) 1000000)(oN:∀s t,le s t->PE n h s t=some true):
  ∀(mm i:Nat)(m:I Int),o.length-i<mm->i<=o.length->MI Z o o' m->(∃x,m[0]? = some x/\0<=x)->(∀(j:Nat)(u:Int),j<i->o[j]? = some u->∀a∈(j9 f o u).Arcs,∃x,m[a.To.toNat]? = some x/\0<=x)->∃m',PF h (fX f r) (fX g (Z r)) n mm (i:Int) m=some (m',true)
 |0,i,m,hm,_,_,_,_=>by omega
 |mm+1,i,m,hm,hi,hM,h0,oO=>by
  obtain⟨ok,_⟩:=H3 H.hf H.hr;rw[<-H.ho]at ok;have eN:(fX f r).Nodes=o.map (j9 f o):=by rw[H.ho];rfl
  have eN':(fX g (Z r)).Nodes=o'.map (j9 g o'):=by rw[H.ho'];rfl
  have el:(fX f r).Nodes.length=o.length:=by rw[eN,yA]
  have eL:((((fX f r).Nodes.length:Nat):Int).toNat)=o.length:=by rw[zZ,el]
  unfold PF;by_cases aE:i<o.length
  ·obtain⟨u,hu,NA⟩:=eI aE;have Vv:(fX f r).Nodes[i]? = some (j9 f o u):=by rw[eN,List.getElem?_map,hu];rfl
   have hiu:o.idxOf u=i:=by have h1:=Gd NA;have h2:=List.idxOf_lt_length_of_mem NA;exact(List.getElem?_inj h2 ok.seen.nd).1 (by rw[h1,hu])
   have cj:∃x,m[i]? = some x/\0<=x:=by
    obtain⟨t,e1,e2,_⟩:=z8k H.hf H.hr;rw[<-H.ho]at e1;by_cases z:i=0;subst z;exact h0
    ·obtain⟨i',rfl⟩:=Nat.exists_eq_add_of_le' (show 1<=i by omega);have ht:t[i']? = some u:=by rw[e1,zH]at hu;exact hu
     have hti:=(zG.1 ht).1;obtain⟨w,hw,a,ha,hau⟩:=e2 (t.take i') u (t.drop (i'+1)) (by
      rw[<-List.take_append_drop i' t,List.take_append_drop i' t]
      conv=>lhs;rw[<-List.take_append_drop i' t]
      congr 1;rw[List.drop_eq_getElem_cons hti];congr 1;rw[List.getElem?_eq_getElem hti]at ht;exact Option.some.inj ht)
     have xQ:w∈o.take (i'+1):=by rw[e1];simpa using hw
     obtain⟨j,hj⟩:=List.getElem?_of_mem xQ;have hjl:=(zG.1 hj).1;rw[List.length_take]at hjl;have B5:o[j]? = some w:=by rw[List.getElem?_take_of_lt (by omega)]at hj;exact hj
     have:=oO j w (by omega) B5 (mG o a) (List.mem_map_of_mem (yI.2 ha));simp only[mG,zZ,hau,hiu]at this;exact this
   obtain⟨x,hx,vT⟩:=cj;have hxe:x=(o'.idxOf (Z u):Int):=by rcases hM.at_ _ _ hx with q |⟨w,w1,w2⟩;omega;rw[hu]at w1;cases w1;exact w2
   subst hxe;have i1:iU m 0 o.length (i:Int)=some (o'.idxOf (Z u):Int):=by rw[iU,if_pos (by omega),Nat.zero_add,zZ];exact hx
   have K1:(fX g (Z r)).Nodes[o'.idxOf (Z u)]? = some (j9 g o' (Z u)):=by rw[eN',List.getElem?_map,Gd (H.mem u NA)];rfl
   have d0:decide ((o'.idxOf (Z u):Int)<0)=false:=by simp
   have jC:PE n h (j9 f o u).Typex (j9 g o' (Z u)).Typex=some true:=oN _ _ (H.ty u NA);obtain⟨m',g1,g2,g3,g4⟩:=zac (h:=h) H hn HC nA (z26:=(i:Int)) (rc2:=PF h (fX f r) (fX g (Z r)) n mm) NA n 0 m (by have:=nA.arcs _ (zX Vv);omega) (by omega) hM (by simp);rw[zV]at g1;have d1:decide ((i:Int)<((fX f r).Nodes.length:Int))=true:=by rw[el];exact gS aE
   simp only[d1,zC,cH,Vv,aP,eL,i1,d0,zD,K1,jC,Bool.not_true,g1,iG aE (show o.length<=9223372036854775807 by have:=nA.nodes;omega)];obtain⟨x0,G?,F?⟩:=h0;refine zab H hn HC nA oN mm (i+1) m' (by omega) (by omega) g2 (g4 0 x0 G? F?) fun j w hj hw a ha=>?_;by_cases e:j=i;subst e;rw[hu]at hw;cases hw;exact g3 a ha;obtain⟨y,hy,hy0⟩:=oO j w (by omega) hw a ha;exact g4 _ _ hy hy0
  have d1:decide ((i:Int)<((fX f r).Nodes.length:Int))=false:=by rw[el];exact hZ aE
  simp only[d1,zD,Iw,Bool.not_true,eL,hM.len];exact⟨m,by simp[aF]⟩
theorem zaa{a b:GFS}{n:Nat}(hl:a.Nodes.length<=1000000):∀(mm i:Nat),a.Nodes.length-i<mm->i<=a.Nodes.length->Iv h a b n mm (i:Int) (List.replicate i (-1)++List.replicate (a.Nodes.length-i) 0)=So h a b n (List.replicate a.Nodes.length (-1))
 |0,i,hm,_=>by omega
 |mm+1,i,hm,hi=>by
  unfold Iv;rw[zZ];by_cases aE:i<a.Nodes.length;have e0:a.Nodes.length-i=(a.Nodes.length-(i+1))+1:=by omega
  have e1:iU (List.replicate i (-1:Int)++List.replicate (a.Nodes.length-i) 0) 0 a.Nodes.length (i:Int)=some 0:=by rw[iU,if_pos (by omega),Nat.zero_add,zZ,List.getElem?_append_right (by simp),e0];simp
  have e2:(List.replicate i (-1:Int)++List.replicate (a.Nodes.length-i) 0).set (i:Int).toNat (-1)=List.replicate (i+1) (-1)++List.replicate (a.Nodes.length-(i+1)) 0:=by rw[e0,List.replicate_succ,zZ];have:=zas (List.replicate i (-1:Int)) (List.replicate (a.Nodes.length-(i+1)) 0) 0 (-1);rw[List.length_replicate]at this;rw[this,List.replicate_succ',zT];rfl
  simp only[gS aE,zC,e1,aP,e2,iG aE (show a.Nodes.length<=9223372036854775807 by omega)];exact zaa hl mm (i+1) (by omega) (by omega);have:i=a.Nodes.length:=by omega
  subst this;simp only[hZ aE,zD,Nat.sub_self,List.replicate_zero,List.append_nil]
theorem XR(H:Hc le f g r Z o o'){n:Nat}(hn:3000000<=n)(HC:c8 (fX g (Z r)) 1000000)(nA:c8 (fX f r) 1000000)(oN:∀s t,le s t->PE n h s t=some true):MY n h (fX f r) (fX g (Z r))=some true:=by
 obtain⟨ok,_⟩:=H3 H.hf H.hr;obtain⟨ok',_⟩:=H3 H.hg H.hr';rw[<-H.ho]at ok;rw[<-H.ho']at ok';have eN:(fX f r).Nodes=o.map (j9 f o):=by rw[H.ho];rfl
 have el:(fX f r).Nodes.length=o.length:=by rw[eN,yA]
 have vV:=nA.nodes;obtain⟨t,ht⟩:=ok.head;obtain⟨t',tH⟩:=ok'.head;have f0:0<o.length:=by rw[ht];simp
 have h1:=zaa (h:=h) (a:=fX f r) (b:=fX g (Z r)) (n:=n) vV n 0 (by omega) (by omega);rw[zV,Nat.sub_zero,List.replicate_zero,List.nil_append]at h1;have hM:MI Z o o' ((List.replicate o.length (-1)).set 0 0):=⟨by simp,fun j x hx=>by rcases MB hx with⟨e,rfl⟩|⟨_,hx⟩;subst e;exact .inr ⟨r,by rw[ht];rfl,by rw[tH,List.idxOf_cons_self];rfl⟩;rw[List.getElem?_replicate]at hx;split at hx;exact .inl (Option.some.inj hx).symm;cases hx⟩;obtain⟨m',h2⟩:=zab (h:=h) H (n:=n) (by omega) HC nA oN n 0 _ (by omega) (by omega) hM ⟨0,by rw[List.getElem?_set_self (by simpa using f0)],by omega⟩ (fun j u hj=>by omega);rw[zV]at h2;have i0:iU (List.replicate o.length (-1:Int)) 0 o.length 0=some (-1):=by rw[iU,if_pos (by omega),Nat.zero_add,show(0:Int).toNat=0 from rfl,List.getElem?_replicate,if_pos f0]
 have hmap:Ra n h (fX f r) (fX g (Z r))=some (m',true):=by unfold Ra;rw[aF,if_pos (by rw[zZ];omega),zZ,h1,So,zZ,el,i0,aP];exact h2
 simp only[MY,hmap,aP]
end
variable{n:Nat}
theorem zcn{h:cB}{ws:I Nat}(hh:pD h ws){s t:Int}(hs:0<=s/\s<(ws.length:Int))(ht:0<=t/\t<(ws.length:Int))(hn:2000<=n)(e:eX ws t&&&eX ws s=eX ws t):PE n h s t=some true:=by
 have h1:=GZ hs;have h2:=GZ ht;obtain⟨x,x1,x2⟩:=hh.at h1;obtain⟨y,y1,y2⟩:=hh.at h2;have b:=im (hh.ok _ (zX h2)) (hh.ok _ (zX h1)) (n:=n) (by omega);have i1:aB h.Types s=some x:=by rw[show s=((s.toNat:Nat):Int) by omega,cH];exact x1
 have i2:aB h.Types t=some y:=by rw[show t=((t.toNat:Nat):Int) by omega,cH];exact y1
 simp only[PE,i1,i2,aP,x2,y2,b,e,yC]
variable{c:I aT}
variable{aA:Nat->Nat}
theorem zbm{h:cB}{ws:I Nat}(hh:pD h ws){N D D':Nat}{FB FB':Int}{L:I aM}(hL:AA N [] L){c':I aT}{d j8 d':Nat->Nat}(hp:lO N D FB ws.length c aA d)(FO:lO N D' FB' ws.length c' j8 d')(t:TC ws N L [] c aA)(t':TC ws N L [] c' j8)(hm:∀i j,aA i=aA j->j8 i=j8 j)(hn:2000<=n):
  Hm (fun s u=>PE n h s u=some true) (cG c aA) (cG c' j8) (fun v=>rI j8 v) (InR N aA):=by
 refine⟨?_,?_,?_⟩;rintro v ⟨i,rfl,hi,hr⟩ a ha;rw[(hp.nd (v:=(i:Int)) (by omega)).1]at ha;obtain⟨b,hb,rfl⟩:=List.mem_map.1 ha;have:=(hp.ar _ _ (hp.cel (v:=(i:Int)) (by omega))).ok b hb;exact⟨aA b.To.toNat,rfl,hp.rok.lt _ (by omega),hp.rok.idem _ (by omega)⟩;rintro v ⟨i,rfl,hi,hr⟩ a ha;have l1:=FO.rok.lt i hi;rw[(hp.nd (v:=(i:Int)) (by omega)).1]at ha;obtain⟨b,hb,rfl⟩:=List.mem_map.1 ha;have La:=(hp.ar _ _ (hp.cel (v:=(i:Int)) (by omega))).ok b hb;obtain⟨j,x,q1,q2,q3⟩:=t.snd i b hi hr hb;obtain⟨b',p1,p2,p3⟩:=t'.cov j x b q1 q3;have e1:j8 j=j8 i:=hm _ _ (by rw[q2,hr]);have e2:j8 b'.To.toNat=j8 b.To.toNat:=p3 j8 (fun i j _ _ e=>e) (fun p hp=>by cases hp);refine⟨B9 j8 b',?_,p2,?_⟩;rw[(FO.nd (v:=rI j8 (i:Int)) (FO.rI (by omega))).1];refine List.mem_map_of_mem ?_;rw[e1]at p1;exact p1;show((j8 b'.To.toNat:Nat):Int)=((j8 (aA b.To.toNat):Nat):Int);rw[e2,hm (aA b.To.toNat) b.To.toNat (hp.rok.idem _ (by omega))];rintro v ⟨i,rfl,hi,hr⟩;have l1:=FO.rok.lt i hi;have hr':=FO.rok.idem i hi;rw[(hp.nd (v:=(i:Int)) (by omega)).1,(FO.nd (v:=rI j8 (i:Int)) (FO.rI (by omega))).1];have k1:=hp.kd _ _ (hp.celN hi);have k2:=FO.kd _ _ (FO.celN l1);refine zcn hh (s:=(celN c i).kind) (t:=(celN c' (j8 i)).kind) k1 k2 hn (Nat.eq_of_testBit_eq fun k=>?_);rw[Nat.testBit_and];rcases hb:(eX ws (celN c' (j8 i)).kind).testBit k with _|_;rfl;have h1:=(t'.kd _ l1 hr' k).1 hb;have h2:=(t.kd i hi hr k).2 fun j x hj yR=>h1 j x hj (hm _ _ (by rw[yR,hr]))
 rw[h2];rfl
theorem iu{N:Nat}{v:Int}(hv:0<=v/\v<(N:Int)):aB (sY n c aA N) v=some (sU n c aA v):=by
 have e:v=((v.toNat:Nat):Int):=by omega
 rw[e,cH,sY,List.getElem?_map,List.getElem?_range (by omega)];rfl
theorem z9z{h:cB}{N n:Nat}{p3:JB}{r11:(I dI)×(I eB)×(I aT)×Nat×(I bH)×Nat×(I d6)×Nat}{r20 r24:Int}{c c':I aT}{aA j8:Nat->Nat}{r31:Bool×(I aT)×(I bH)×Nat}(hN:N<=1000)(hs:∀v:Int,0<=v/\v<(N:Int)->MY n h (sU n c aA v) (sU n c' j8 v)=some true):∀(m i:Nat),N-i<m->i<=N->
  Ab p3 n h r11 r20 r24 (sY n c aA N) r31 (sY n c' j8 N) m (i:Int)=Jv p3 n h r11 r20 r24 (sY n c aA N) r31 (sY n c' j8 N)
 |0,i,hm,_=>by omega
 |m+1,i,hm,hi=>by
  unfold Ab;have hl:(sY n c aA N).length=N:=by simp[sY]
  rw[hl];by_cases aE:i<N;have hv:0<=(i:Int)/\(i:Int)<(N:Int):=by omega
  simp only[gS aE,zC,iu hv,aP,hs _ hv,Bool.not_true,zD,iG aE (show N<=9223372036854775807 by omega)];exact z9z hN hs m (i+1) (by omega) (by omega);simp only[hZ aE,zD]
theorem z99{mt:Int->Int->V Int}{a b:Int}{d:Nat->Nat}(e:aA a.toNat=aA b.toNat):jX mt (n+2) [(a,b)] c aA d=(true,c,aA,d):=by rw[jX,if_pos e,jX]
theorem z3u(d:I bL)(l:I qT)(p3:JB)(hl:l.length<=9223372036854775807)(hn:3000000+l.length<=n):pf n d l p3=some true:=by
 have xT:=ex12 (show 200<=n by omega);obtain⟨h,ws,e1,hh⟩:=zbn d (n:=n) (by omega);obtain⟨x,e2,e3⟩:=FD h hl (n:=n) (by omega);simp only[pf,e1,aP,e2];rcases x with _|_;simp only[Bool.not_false,zC,aP,xT];obtain⟨a16,aop⟩:=e3 rfl;obtain⟨c0,EC,N7,L0,A6,rm0,t1,t2,t3,g1,S,p⟩:=qzo hh a16 aop (n:=n) (by omega) n 0 [] [] [] [] [] [] 0 0 0 (by omega) (by omega) zbo;rw[zV]at g1;have g2:Tr n h l=some (h.Types,h.Feats,c0,t3,EC,t2,N7,t1):=by simp only[Tr,Rs,kh,aP];exact g1
 have l1:=p.ls;have l2:=p.lr;have l3:=p.lm;have l4:=p.ln;obtain⟨aA,d',r,D,pp⟩:=p.pt;have gX:=pp.bd;have ef:=pp.bt;have eS:=pp.hp.len;have xS:=hh.fl;have hv:=z6l pp.hp (n:=n) (by omega) (by omega) (by omega) (by omega) h.Types h.Feats;have small:∀{c:I aT}{aA d:Nat->Nat}{D:Nat},lO L0.length D (h.Feats.length:Int) (ws.length:Int) c aA d->∀v:Int,0<=v/\v<(L0.length:Int)->c8 (sU n c aA v) 1000:=fun{c aA d D} hp v hv=>by
  have HK:(cG c aA).Nodes.length=L0.length:=by simp[cG,hp.len]
  have Q1:=hp.rI hv;rw[jq hp (n:=n) (by omega) hv];refine c8.canon ?_ hp.gok ⟨Q1.1,by rw[HK];exact Q1.2⟩;refine⟨by rw[HK];omega,fun x hx=>?_⟩;obtain⟨y,hy,rfl⟩:=List.mem_map.1 hx;obtain⟨i,hi⟩:=List.getElem?_of_mem hy;have ha:=hp.ar i y hi;show(y.arcs.map (B9 aA)).length<=1000;rw[yA];have:=Rp h.Feats.length (o:=y.arcs.map aK.Feat) (by have:=ha.up;unfold kY at this;rw[List.nodup_iff_pairwise_ne,List.pairwise_map];exact this.imp fun{a b} q=>by omega) fun v hv=>by obtain⟨a,hm,rfl⟩:=List.mem_map.1 hv;have:=ha.ok a hm;omega
  rw[yA]at this;omega
 have same:∀{c:I aT}{aA d:Nat->Nat}{D:Nat},lO L0.length D (h.Feats.length:Int) (ws.length:Int) c aA d->T9 n (sY n c aA L0.length) (sY n c aA L0.length)=some true:=fun hp=>zci (fun f hf=>by obtain⟨i,hi,rfl⟩:=List.mem_map.1 hf;rw[List.mem_range]at hi;exact small hp _ ⟨by omega,by omega⟩) (by simp[sY];omega) (by omega);simp only[Bool.not_true,zD,g2,aP,MZ,eS];by_cases z:L0.length=0;simp only[z,Int.natCast_zero,beq_self_eq_true,zC,xT,aP]
 ·have z1:((L0.length:Int)==0)=false:=by rw[beq_eq_false_iff_ne];omega
  have z2:¬ (L0.length:Int)=0:=by omega
  simp only[z1,zD,aF,z2,not_false_eq_true,if_true,hv,aP];generalize hA:(IntKind.i64.wrap p3.E0).tmod (L0.length:Int)=A;generalize hB:(IntKind.i64.wrap p3.E1).tmod (L0.length:Int)=B;have fail:∀t,AT n A B h.Types h.Feats c0 EC t2 N7=some (false,c0,EC,t)->(a8 (AT n A B h.Types h.Feats c0 EC t2 N7) fun r31=>a8 (ZW n h.Types h.Feats r31.2.1 r31.2.2.1 N7) fun lX=>cond (!r31.1) (a8 (a8 (T9 n (sY n c0 aA L0.length) lX) fun oE=>cond oE (a8 (N3 n) fun oX=>some oX) (some false)) fun w5=>some w5) (Ab p3 n h (h.Types,h.Feats,c0,t3,EC,t2,N7,t1) (L0.length:Int) (L0.length:Int) (sY n c0 aA L0.length) r31 lX n 0))=some true:=fun t e=>by simp only[e,aP,hv,Bool.not_false,zC,same pp.hp,xT]
  by_cases uQ:(0<=A/\A<(L0.length:Int))/\0<=B/\B<(L0.length:Int)
  ·obtain⟨ha,hb⟩:=uQ;have B3:=TX hh (n:=n) (by omega);have KE:=z4s hh (n:=n) (by omega);have nN:Rnd L0.length D (h.Feats.length:Int) (ws.length:Int) [(A,B)] c0 aA d':=⟨pp.hp,fun q hq=>by simp at hq;subst hq;exact⟨ha,hb⟩⟩;have Wb:TC ws L0.length L0 [(A,B)] c0 aA:=⟨fun j x z hj hz=>by obtain⟨w,q1,q2,q3⟩:=pp.tc.cov j x z hj hz;exact⟨w,q1,q2,q3.wide⟩,pp.tc.snd,pp.tc.kd⟩;have hk:[(A,B)].length+tot c0<n:=by simp only[zO,zS];omega
   obtain⟨D',u1,u2⟩:=xp KE n _ _ _ _ D nN hk;obtain⟨s1,_⟩:=jg B3 pp.lk.to n _ _ _ d' D nN Wb hk;have tK:=kr KE n _ _ _ _ D nN hk;obtain⟨k1,k2⟩:=Ol hh (by omega) (n:=n) (by omega) (p7:=EC) (by omega) N7 c0 n _ _ _ _ D [] t2 nN hk (by simp only[zO,zS];omega) (fun x hx=>by cases hx) rfl (by simp only[zO,zS];omega);rw[List.append_nil]at k1 k2;rw[<-iw (by omega) (by omega)]at k1 k2;cases lI:(jX (uM n h) n [(A,B)] c0 aA d').1 with
   |false=>obtain⟨t',q1⟩:=k2 lI;exact fail t' q1
   |true=>
    obtain⟨kF,t',q1,_,q3,q4⟩:=k1 lI;simp only[zO,zS]at q4 u1;have T?:=s1 lI;have DK:=fun i j=>Hj (mt:=uM n h) (i:=i) (j:=j) n [(A,B)] c0 aA d';have QF:=tK lI _ (List.mem_cons_self);have hv':=z6l u2 (n:=n) (by omega) (by omega) (by omega) (by omega) h.Types h.Feats;have wV:=u2.len;have hm:=zbm hh pp.lk pp.hp u2 pp.tc T? DK (n:=n) (by omega);generalize hce:(jX (uM n h) n [(A,B)] c0 aA d').2.1=c1 at*;generalize hre:(jX (uM n h) n [(A,B)] c0 aA d').2.2.1=pO at*;generalize hde:(jX (uM n h) n [(A,B)] c0 aA d').2.2.2=d1 at*;have HK:(cG c0 aA).Nodes.length=L0.length:=by simp[cG,eS]
    have hGl':(cG c1 pO).Nodes.length=L0.length:=by simp[cG,wV]
    have jC:∀v:Int,0<=v/\v<(L0.length:Int)->MY n h (sU n c0 aA v) (sU n c1 pO v)=some true:=fun v hv=>by
     have Q1:=pp.hp.rI hv;have Wh:=u2.rI hv;have er:rI pO (rI aA v)=rI pO v:=by show((pO (aA v.toNat):Nat):Int)=((pO v.toNat:Nat):Int);rw[DK _ _ (pp.hp.rok.idem v.toNat (by omega))]
     have s1:=(small pp.hp v hv).up (show 1000<=1000000 by omega);have s2:=(small u2 v hv).up (show 1000<=1000000 by omega);rw[jq pp.hp (n:=n) (by omega) hv]at s1 ⊢;rw[jq u2 (n:=n) (by omega) hv,<-er]at s2 ⊢;exact XR (hm.hc (r:=rI aA v) ⟨aA v.toNat,rfl,by simp only[rI]at Q1;omega,pp.hp.rok.idem _ (by omega)⟩ pp.hp.gok u2.gok ⟨Q1.1,by rw[HK];exact Q1.2⟩ ⟨by simp only[er];exact Wh.1,by simp only[er];rw[hGl'];exact Wh.2⟩) (by omega) s2 s1 fun s t e=>e
    have cz:sU n c1 pO A=sU n c1 pO B:=z8q (n:=n) (by omega) QF;have cr:=jo (small u2 A ha) (small u2 A ha) (n:=n) (by omega);rw[jw.2 rfl]at cr;have e0:((0:Int)==0)=true:=rfl;have hrd2:Rnd L0.length D' (h.Feats.length:Int) (ws.length:Int) [(B,A)] c1 pO d1:=⟨u2,fun q hq=>by simp at hq;subst hq;exact⟨hb,ha⟩⟩;obtain⟨k3,_⟩:=Ol hh (by omega) (n:=n) (by omega) (p7:=EC++kF) (by rw[zU];omega) N7 c1 n _ _ _ _ D' [] t' hrd2 (by simp only[zO,zS];omega) (by simp only[zO,zS];omega) (fun x hx=>by cases hx) rfl (by simp only[zO,zS];omega);rw[List.append_nil,<-iw (by omega) (by omega)]at k3;obtain⟨n2,Q3⟩:∃n2,n=n2+2:=⟨n-2,by omega⟩;have R?:jX (uM n h) n [(B,A)] c1 pO d1=(true,c1,pO,d1):=by
     conv=>lhs;arg 2;rw[Q3]
     exact z99 QF.symm
    rw[R?]at k3;obtain⟨tl2,t4,w1,_,_,_⟩:=k3 rfl;have Cf:Jv p3 n h (h.Types,h.Feats,c0,t3,EC,t2,N7,t1) (L0.length:Int) (L0.length:Int) (sY n c0 aA L0.length) (true,c1,EC++kF,t') (sY n c1 pO L0.length)=some true:=by simp only[Jv,hA,hB,iu ha,iu hb,aP,<-cz,cr,e0,Bool.not_true,zD,jC A ha];rw[show MY n h (sU n c0 aA B) (sU n c1 pO A)=some true by rw[cz];exact jC B hb];simp only[aP,Bool.not_true,zD,w1,zC,hv',same u2,xT]
    have hg:=z9z (h:=h) (p3:=p3) (r11:=(h.Types,h.Feats,c0,t3,EC,t2,N7,t1)) (r20:=(L0.length:Int)) (r24:=(L0.length:Int)) (r31:=(true,c1,EC++kF,t')) (show L0.length<=1000 by omega) jC n 0 (by omega) (by omega);rw[zV]at hg;simp only[q1,aP,hv',Bool.not_true,zD,hg,Cf]
  have:=qwv (h:=h) (c:=c0) (tl:=EC) (m:=N7) (a:=A) (b:=B) (n:=n) (t:=t2) (by rw[eS];exact uQ);exact fail t2 this
end Go.Proofs
