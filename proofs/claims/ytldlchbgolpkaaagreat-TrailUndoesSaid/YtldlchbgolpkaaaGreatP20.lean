import Derived.Test.YtldlchbgolpkaaaGreatP19
set_option linter.all false
namespace Go.Proofs
open Go Go.Rx Go.Vx
set_option maxRecDepth 10000
variable{N:Nat}
variable{L:List aN}
variable{r:Nat->Nat}
theorem CD.clo{W:List (Int×Int)}{r':Nat->Nat}{out:List Int}{C:List aS}(hL:B8 N [] L)(h:CD N L W r out C r'):I5 L r':=fun i j x y a b hi hj e ha hb hf=>by
 obtain⟨a',p1,p2,p3⟩:=h.tc.cov i x a hi ha;obtain⟨b',q1,q2,q3⟩:=h.tc.cov j y b hj hb;have il:=(zG.1 hi).1;rw[hL.len]at il;rw[<-e]at q1;have:a'=b':=(h.ds _ (h.ck.lt il)).eq a' p1 b' q1 (by omega);subst this;have e1:=p3 r' (fun _ _ _ _ e=>e) (fun _ hz=>by cases hz);have e2:=q3 r' (fun _ _ _ _ e=>e) (fun _ hz=>by cases hz);omega
variable{i:Nat}
theorem zbp(h:i<N):(uR 0 N)[i]? = some (i:Int):=by simp[uR,h]
def tdo(r:Nat->Nat)(i:Nat):List gY:=((List.range i).filter fun(j:Nat)=>r j != j).map fun(j:Nat)=>⟨(j:Int),(r j:Int)⟩
theorem xe{O:Type}{l:List O}(hi:i<N){x:O}(hx:l[i]? = some x):mK l 0 N (i:Int)=some x:=by have:=xd hi hx;rwa [zZ]at this
theorem z8p(r:Nat->Nat)(i:Nat):tdo r (i+1)=tdo r i++(if r i=i then[]else[⟨(i:Int),(r i:Int)⟩]):=by
 simp only[tdo,List.range_succ,List.filter_append,List.map_append];by_cases e:r i=i;rw[if_pos e];simp[e];rw[if_neg e];simp[e]
theorem z5z(r:Nat->Nat)(i:Nat):(tdo r i).length<=i:=by
 have:=List.length_filter_le (fun(j:Nat)=>r j != j) (List.range i);simpa[tdo]using this
theorem z93{N:Nat}{L:List aN}{cl r3:List Int}{r:Nat->Nat}(qY:L.length=N)(hN:N<=1000)(h:CK N cl r){n:Nat}:∀(m i:Nat),N-i<m->i<=N->
  T1 L cl n r3 m (i:Int) (tdo r i) ((L.take i).map aN.Arcs++List.replicate (N-i) [])=Rw L n r3 (tdo r N) (L.map aN.Arcs)
 |0,i,hm,_=>by omega
 |m+1,i,hm,hi=>by
  unfold T1;have DF:=z5z r i;by_cases aE:i<N;have gE:i<L.length:=by omega
  obtain⟨x,hx,_⟩:=eM gE;have hw:IntKind.i64.wrap ((i:Int)+1)=((i+1:Nat):Int):=iU aE (by omega);have hv:mK ((L.take i).map aN.Arcs++List.replicate (N-i) ([]:List aK)) 0 L.length (i:Int)=some []:=by refine xe gE ?_;rw[List.getElem?_append_right (by simp only[yA,List.length_take];omega)];simp only[yA,List.length_take,List.getElem?_replicate];rw[if_pos (by omega)]
  have K0:((L.take i).map aN.Arcs++List.replicate (N-i) ([]:List aK)).set i x.Arcs=(L.take (i+1)).map aN.Arcs++List.replicate (N-(i+1)) []:=by
   obtain⟨k,hk⟩:∃k,N-i=k+1:=⟨N-i-1,by omega⟩;rw[hk,show N-(i+1)=k by omega,j9 hx,List.map_append,List.replicate_succ,List.set_append_right _ _ (by simp only[yA,List.length_take];omega)];have:i-((L.take i).map aN.Arcs).length=0:=by simp only[yA,List.length_take];omega
   rw[this];simp
  have ih:=z93 (r3:=r3) qY hN h (n:=n) m (i+1) (by omega) (by omega);simp only[hH gE,zC,cK,hx,aO,hv,h.get i aE,Ry,hw,zZ,K0];rw[z8p]at ih;by_cases e:r i=i;have eb:((r i:Int) != (i:Int))=false:=by rw[e];simp
  rw[if_pos e,List.append_nil]at ih;rw[eb,zD,ih];have eb:((r i:Int) != (i:Int))=true:=by simp only[bne_iff_ne,ne_eq];omega
  rw[if_neg e]at ih;rw[eb,zC,fG (by omega),ih];have:i=N:=by omega
  subst this;have gE:¬ i<L.length:=by omega
  simp only[iF gE,zD];rw[zW (by omega),Nat.sub_self,List.replicate_zero,List.append_nil]
def Eb(x:aN):aS:=⟨-1,0,x.Arcs⟩
theorem xf{x:aN}(h:L[i]? = some x):celN (L.map Eb) i=Eb x:=by simp[celN,h]
structure CR(N:Nat)(L:List aN)(r r':Nat->Nat)(out:List Int):Prop where
 ck:CK N out r'
 clo:I5 L r'
 up:∀i j,i<N->j<N->r i=r j->r' i=r' j
 low:∀q,I5 L q->(∀i j,i<N->j<N->r i=r j->q i=q j)->∀i j,i<N->j<N->r' i=r' j->q i=q j
variable{n:Nat}
theorem z6z(hL:B8 N [] L)(hN:N<=1000)(hD:∀x∈L,mI x.Arcs/\x.Arcs.length<=12){cl:List Int}(h:CK N cl r)(hn:200000<=n):∃out r',Qi n L cl=some out/\CR N L r r' out:=by
 have qY:=hL.len;have DF:=z5z r N;have hap:=z6n (N:=N) (by omega) (n:=n) (by omega);have l1:=z93 (r3:=uR 0 N) qY hN h (n:=n) n 0 (by omega) (by omega);rw[show tdo r 0=[]from rfl,List.take_zero,List.map_nil,List.nil_append,Nat.sub_zero,zV]at l1;have Ve:tot (L.map Eb)<=12*N:=by
  have:=cr (cells:=L.map Eb) fun c hc=>by obtain⟨x,hx,rfl⟩:=List.mem_map.1 hc;exact(hD x hx).2
  rwa [yA,qY]at this
 have mem:∀{i:Nat},i<N->∃x,L[i]? = some x:=fun{i} hi=>⟨_,List.getElem?_eq_getElem (by omega)⟩;have uI:CS N L ((tdo r N).map ua) (L.map aN.Arcs) (uR 0 N) (L.map Eb) id:=⟨⟨ab 0 N,fun i hi=>zbp hi,fun _ _=>zF _,fun _ _=>rfl⟩,by simp[qY],by simp[qY],fun i hi _=>by
   obtain⟨x,hx⟩:=mem hi;rw[List.getElem?_map,hx,xf hx];rfl,fun i hi=>by
   obtain⟨x,hx⟩:=mem hi;rw[xf hx];exact(hD x (zX hx)).1,fun p hp=>by
   obtain⟨q,hq,rfl⟩:=List.mem_map.1 hp;obtain⟨j,hj,rfl⟩:=List.mem_map.1 hq;have:=List.mem_range.1 (List.mem_filter.1 hj).1;have:=h.lt this;simp only[ua];exact⟨by omega,by omega⟩,⟨fun j x a hj ha=>⟨a,by show a∈(celN _ j).arcs;rw[xf hj];exact ha,rfl,fun q _ _=>rfl⟩,fun i b hi _ hb=>by
   obtain⟨x,hx⟩:=mem hi;rw[xf hx]at hb;exact⟨i,x,hx,rfl,hb⟩,fun i hi _ k=>by
   obtain⟨x,hx⟩:=mem hi;have:eW [] (celN (L.map Eb) i).kind=0:=by simp[eW]
   rw[this,Nat.zero_testBit];exact⟨fun e=>(by cases e),fun g=>(by have:=g i x hx rfl;simp[eW]at this)⟩⟩⟩
 obtain⟨out,C',r',g1,g2⟩:=tf hL hN hn n 0 (tdo r N) (L.map aN.Arcs) (uR 0 N) (L.map Eb) id (by rw[List.drop_zero];exact uI) (by omega) (by omega) (by omega);rw[List.drop_zero]at g2;rw[zV]at g1;refine⟨out,r',?_,g2.ck,g2.clo hL,fun i j hi hj e=>?_,fun q hq hu i j hi hj e=>?_⟩;rw[Qi,qY,hap,aO,fG (by omega),zZ,l1,Rw,g1];have key:∀i,i<N->r' i=r' (r i):=fun i hi=>by by_cases e:r i=i;rw[e];have:=g2.prs ((i:Int),(r i:Int)) (List.mem_map.2 ⟨⟨(i:Int),(r i:Int)⟩,List.mem_map.2 ⟨i,List.mem_filter.2 ⟨List.mem_range.2 hi,by simpa using e⟩,rfl⟩,rfl⟩);simpa using this
 rw[key i hi,key j hj,e];refine(g2.und q hq ⟨fun i j _ _ e=>by rw[show i=j from e],fun p hp=>?_⟩).r i j hi hj e;obtain⟨z,hz,rfl⟩:=List.mem_map.1 hp;obtain⟨k,hk,rfl⟩:=List.mem_map.1 hz;have z?:=List.mem_range.1 (List.mem_filter.1 hk).1;simp only[ua,zZ];exact hu k (r k) z? (h.lt z?) (h.idem k z?).symm
theorem z54{a b:Nat}(ha:a<4611686018427387904)(hb:b<4611686018427387904)(hn:5<=n):J9 n (bt a) (bt b)=some (bt (a&&&b)):=by
 obtain⟨k,rfl⟩:=Nat.exists_eq_add_of_le' hn;by_cases h:a=0;subst h;rw[Nat.zero_and];have:=zy (n:=k+5) hn;simp only[J9,R3,Hw,zS,P2,this,aO];rfl;have h1:=QV (a:=a) (b:=b) (by omega) (by omega);have h2:=zx (w:=a&&&b) (n:=k+5) hn;have e:J9 (k+5) [(a:Int)] (bt b)=a8 (SS (k+5) (bt b) 0) fun fE=>aF ((0+1)*8<=140737488355328/\0+1<=140737488355328) (P2 (k+5) [GP .u64 (a:Int) fE]):=rfl;rw[sR h,e,V',aO,fG (by omega),P2,h1,h2];rfl
theorem z5f{h:cY}{ws:List Nat}(hh:pD h ws){c:Nat}{n:Nat}(hn:5<=n):∀(m i:Nat),ws.length-i<m->i<=ws.length->(∀(k:Nat),k<i->ws[k]? ≠some c)->
  (c∈ws->∃k:Nat,YW h (bt c) n m (i:Int)=some ((k:Int),true)/\ws[k]? = some c)/\(c ∉ ws->YW h (bt c) n m (i:Int)=some (0,false))
 |0,i,hm,_,_=>by omega
 |m+1,i,hm,hi,eE=>by have hl:=hh.tl;have Kj:=hh.len;unfold YW;by_cases aE:i<ws.length;obtain⟨w,hw,FV⟩:=eM aE;obtain⟨t,ht,he⟩:=hh.at hw;simp only[hl,hH aE,zC,cK,ht,aO,he,dr hn,iU aE (show ws.length<=9223372036854775807 by omega)];by_cases e:w=c;simp only[e,yC,zC];exact⟨fun _=>⟨i,rfl,by rw[hw,e]⟩,fun q=>absurd (e ▸ FV) q⟩;simp only[e,yB,zD];exact z5f hh hn m (i+1) (by omega) (by omega) (fun k hk=>by by_cases e2:k=i;subst e2;rw[hw];intro q;exact e (Option.some.inj q);exact eE k (by omega));simp only[hl,iF aE,zD,vz];refine⟨fun hc=>?_,fun _=>trivial⟩;obtain⟨q,hq⟩:=List.mem_iff_getElem?.1 hc;have:=(zG.1 hq).1;exact absurd hq (eE q (by omega))
theorem XI{h:cY}{ws:List Nat}(hh:pD h ws){s t:Int}(hs:0<=s/\s<(ws.length:Int))(ht:0<=t/\t<(ws.length:Int))(hn:2000<=n):
  ∃r,Py n h s t=some r/\(r.2=false->eW ws s&&&eW ws t=0)/\(r.2=true->(0<=r.1/\r.1<(ws.length:Int))/\eW ws r.1=eW ws s&&&eW ws t):=by
 have c1:=M8 hs;have c2:=M8 ht;obtain⟨x,hx,ex⟩:=hh.at c1;obtain⟨y,hy,ey⟩:=hh.at c2;have m1:=zX c1;have m2:=zX c2;have Kj:=hh.len;have i1:aB h.Types s=some x:=by rw[show s=((s.toNat:Nat):Int) by omega,cK];exact hx
 have i2:aB h.Types t=some y:=by rw[show t=((t.toNat:Nat):Int) by omega,cK];exact hy
 obtain⟨f1,f2⟩:=z5f hh (c:=eW ws s&&&eW ws t) (n:=n) (by omega) n 0 (by omega) (by omega) (fun k hk=>by omega);rw[zV]at f1 f2;simp only[Py,i1,i2,aO,ex,ey,z54 (hh.ok _ m1).2 (hh.ok _ m2).2 (show 5<=n by omega),jo];by_cases e:eW ws s&&&eW ws t=0;rw[f2 (fun q=>(hh.ok _ q).1 e)];exact⟨_,rfl,fun _=>e,fun q=>by cases q⟩;obtain⟨k,g1,g2⟩:=f1 (hh.cls _ m1 _ m2 e);rw[g1];refine⟨_,rfl,(fun q=>by cases q),fun _=>⟨?_,?_⟩⟩;have:=(zG.1 g2).1;simp only;omega;simp only[eW,zZ,g2,Option.getD_some]
structure TI(ws:List Nat)(N:Nat)(L:List aN)(r:Nat->Nat)(i:Nat)(o:List Int):Prop where
 len:o.length=N
 at_:∀c,c<N->∃t,o[c]? = some t/\(0<=t/\t<(ws.length:Int))/\∀k,(eW ws t).testBit k=true↔(eW ws 0).testBit k=true/\∀(j:Nat)(x:aN),j<i->L[j]? = some x->r j=c->(eW ws x.Typex).testBit k=true
def KOk(ws:List Nat)(L:List aN):Prop:=∀x∈L,0<=x.Typex/\x.Typex<(ws.length:Int)
theorem qzk{h:cY}{ws:List Nat}(hh:pD h ws){N:Nat}{L:List aN}(qY:L.length=N)(hN:N<=1000)(hk:KOk ws L){cl:List Int}{r:Nat->Nat}(hc:CK N cl r){n:Nat}(hn:2000<=n):∀(m i:Nat)(o:List Int),N-i<m->i<=N->TI ws N L r i o->
  (∃o',TI ws N L r N o'/\Z3 h L cl n m (i:Int) o=Rr L cl n o')\/(Z3 h L cl n m (i:Int) o=some ([],false)/\∃c,c<N/\∀k,¬ ((eW ws 0).testBit k=true/\∀(j:Nat)(x:aN),L[j]? = some x->r j=c->(eW ws x.Typex).testBit k=true))
 |0,i,o,hm,_,_=>by omega
 |m+1,i,o,hm,hi,hI=>by
  unfold Z3;by_cases aE:i<N;have gE:i<L.length:=by omega
  obtain⟨x,hx,gM⟩:=eM gE;have B5:=hc.lt aE;obtain⟨t,t1,t2,t3⟩:=hI.at_ (r i) B5;have hv:mK o 0 L.length (r i:Int)=some t:=xe (by omega) t1;obtain⟨q,q1,q2,q3⟩:=XI hh t2 (hk x gM) hn;simp only[hH gE,zC,cK,hc.get i aE,aO,hv,hx,q1,zZ,iU gE (show L.length<=9223372036854775807 by omega)];cases hb:q.2 with
  |false=>refine .inr ⟨by simp only[Bool.not_false,zC],r i,B5,fun k DM=>?_⟩;have h0:=q2 hb;have:=congrArg (fun z=>z.testBit k) h0;simp only[Nat.testBit_and,Nat.zero_testBit,Bool.and_eq_false_iff]at this;rcases this with g |g;have:=(t3 k).2 ⟨DM.1,fun j y hj hy hr=>DM.2 j y hy hr⟩;rw[g]at this;cases this;have:=DM.2 i x hx rfl;rw[g]at this;cases this
  |true=>obtain⟨q4,q5⟩:=q3 hb;simp only[Bool.not_true,zD];refine qzk hh qY hN hk hc hn m (i+1) (o.set (r i) q.1) (by omega) (by omega) ⟨by simp[hI.len],fun c DT=>?_⟩;by_cases e:r i=c;subst e;refine⟨q.1,by rw[List.getElem?_set_self (by rw[hI.len];exact B5)],q4,fun k=>?_⟩;rw[q5,Nat.testBit_and,Bool.and_eq_true,t3];constructor;rintro⟨⟨g1,g2⟩,g3⟩;refine⟨g1,fun j y hj hy hr=>?_⟩;by_cases ej:j=i;subst ej;rw[hx]at hy;cases hy;exact g3;exact g2 j y (by omega) hy hr;rintro⟨g1,g2⟩;exact⟨⟨g1,fun j y hj hy hr=>g2 j y (by omega) hy hr⟩,g2 i x (by omega) hx rfl⟩;obtain⟨t',u1,u2,u3⟩:=hI.at_ c DT;refine⟨t',by rw[List.getElem?_set_ne e];exact u1,u2,fun k=>?_⟩;rw[u3];constructor;rintro⟨g1,g2⟩;refine⟨g1,fun j y hj hy hr=>?_⟩;by_cases ej:j=i;subst ej;exact absurd hr e;exact g2 j y (by omega) hy hr;rintro⟨g1,g2⟩;exact⟨g1,fun j y hj hy hr=>g2 j y (by omega) hy hr⟩
  have:i=N:=by omega
  subst this;have gE:¬ i<L.length:=by omega
  simp only[iF gE,zD];exact .inl ⟨o,hI,rfl⟩
theorem qzl{N:Nat}{L:List aN}(qY:L.length=N)(hN:N<=1000){cl:List Int}{r:Nat->Nat}(hc:CK N cl r){o0:List Int}(ho:o0.length=N):∀(m i:Nat)(o:List Int),N-i<m->i<=N->o.length=N->(∀c,c<N->o[c]? = if c<i then o0[r c]? else o0[c]?)->
  ∃o',Ii L cl m (i:Int) o=some (o',true)/\o'.length=N/\∀c,c<N->o'[c]? = o0[r c]?
 |0,i,o,hm,_,_,_=>by omega
 |m+1,i,o,hm,hi,y3,hI=>by
  unfold Ii;by_cases aE:i<N;have gE:i<L.length:=by omega
  have B5:=hc.lt aE;have rY:=hc.le i aE;have KC:=hc.idem i aE;have Xr:∀c,c<N->∃v,o0[c]? = some v:=fun c DT=>⟨_,List.getElem?_eq_getElem (by omega)⟩;obtain⟨v,hv⟩:=Xr (r i) B5;have h1:o[r i]? = some v:=by rw[hI _ B5];split;rw[KC];exact hv;exact hv
  obtain⟨w,hw⟩:=Xr i aE;have h2:o[i]? = some w:=by rw[hI i aE,if_neg (by omega)];exact hw
  simp only[hH gE,zC,cK,hc.get i aE,aO,xe (show r i<L.length by omega) h1,xe gE h2,zZ,iU gE (show L.length<=9223372036854775807 by omega)];refine qzl qY hN hc ho m (i+1) (o.set i v) (by omega) (by omega) (by simp[y3]) fun c DT=>?_;by_cases e:i=c;subst e;rw[List.getElem?_set_self (by omega),if_pos (by omega),hv];rw[List.getElem?_set_ne e,hI c DT];by_cases e2:c<i;rw[if_pos e2,if_pos (by omega)];rw[if_neg e2,if_neg (by omega)];have:i=N:=by omega
  subst this;have gE:¬ i<L.length:=by omega
  rw[iF gE];simp only[zD,yn,qY,zZ];rw[fG y3.symm];exact⟨o,rfl,y3,fun c DT=>by rw[hI c DT,if_pos DT]⟩
structure qc(ws:List Nat)(N:Nat)(L:List aN)(r:Nat->Nat)(o:List Int):Prop where
 len:o.length=N
 at_:∀i,i<N->∃t,o[i]? = some t/\(0<=t/\t<(ws.length:Int))/\∀k,(eW ws t).testBit k=true↔∀(j:Nat)(x:aN),L[j]? = some x->r j=r i->(eW ws x.Typex).testBit k=true
theorem qzm{h:cY}{ws:List Nat}(hh:pD h ws)(qY:L.length=N)(hN:N<=1000)(hk:KOk ws L){cl:List Int}(hc:CK N cl r)(hn:2000<=n):
  (∃o,SX n h L cl=some (o,true)/\qc ws N L r o/\¬ W3 ws L r)\/(SX n h L cl=some ([],false)/\W3 ws L r):=by
 have fC:=hh.pos;have C4:∀(j:Nat)(x:aN)(k:Nat),L[j]? = some x->(eW ws x.Typex).testBit k=true->(eW ws 0).testBit k=true:=fun j x k hj hb=>by have hm:=zX (M8 (hk x (zX hj)));have:=congrArg (fun z=>z.testBit k) (hh.top _ hm);simp only[Nat.testBit_and,hb,Bool.and_true]at this;exact this
 have h0:TI ws N L r 0 (List.replicate N 0):=⟨by simp,fun c DT=>⟨0,by rw[List.getElem?_replicate,if_pos DT],⟨by omega,by omega⟩,fun k=>⟨fun g=>⟨g,fun j x hj=>by omega⟩,fun g=>g.1⟩⟩⟩;have:=qzk hh qY hN hk hc hn n 0 (List.replicate N 0) (by omega) (by omega) h0;rw[zV]at this;simp only[SX,qY,zZ];rw[fG (by omega)];rcases this with⟨o',g1,g2⟩|⟨g1,c,DT,g2⟩;refine .inl ?_;obtain⟨o,p1,p2,p3⟩:=qzl qY hN hc g1.len n 0 o' (by omega) (by omega) g1.len (fun c DT=>by rw[if_neg (by omega)]);rw[zV]at p1;have oU:∀i,i<N->∃t,o[i]? = some t/\(0<=t/\t<(ws.length:Int))/\∀k,(eW ws t).testBit k=true↔∀(j:Nat)(x:aN),L[j]? = some x->r j=r i->(eW ws x.Typex).testBit k=true:=fun i hi=>by obtain⟨t,t1,t2,t3⟩:=g1.at_ (r i) (hc.lt hi);refine⟨t,by rw[p3 i hi];exact t1,t2,fun k=>?_⟩;rw[t3];constructor;rintro⟨_,q2⟩ j x hj hr;exact q2 j x (by have:=(zG.1 hj).1;omega) hj hr;intro q;refine⟨?_,fun j x _ hj hr=>q j x hj hr⟩;have hx:L[i]? = some L[i]:=List.getElem?_eq_getElem (by omega);exact C4 i _ k hx (q i _ hx rfl)
 refine⟨o,by rw[g2,Rr,p1],⟨p2,oU⟩,fun⟨i,hi,hb⟩=>?_⟩;rw[qY]at hi;obtain⟨t,t1,t2,t3⟩:=oU i hi;obtain⟨k,DM⟩:=Nat.exists_testBit_of_ne_zero (hh.ok _ (zX (M8 t2))).1;obtain⟨j,x,q1,q2,q3⟩:=hb k;have:=(t3 k).1 DM j x q1 q2;rw[q3]at this;cases this;refine .inr ⟨g1,?_⟩;have hz:∃i,i<N/\r i=c:=by refine Classical.byContradiction fun eE=>?_;have cZ:=(hh.ok _ (zX (M8 (ws:=ws) (t:=0) ⟨by omega,by omega⟩))).1;obtain⟨k,DM⟩:=Nat.exists_testBit_of_ne_zero cZ;exact g2 k ⟨DM,fun j x hj hr=>absurd ⟨j,by have:=(zG.1 hj).1;omega,hr⟩ eE⟩
 obtain⟨i,hi,rfl⟩:=hz;refine⟨i,by omega,fun k=>Classical.byContradiction fun eE=>?_⟩;have cP:∀(j:Nat)(x:aN),L[j]? = some x->r j=r i->(eW ws x.Typex).testBit k=true:=fun j x hj hr=>by rcases hb:(eW ws x.Typex).testBit k with _|_;exact absurd ⟨j,x,hj,hr,hb⟩ eE;rfl
 have hx:L[i]? = some L[i]:=List.getElem?_eq_getElem (by omega);exact g2 k ⟨C4 i _ k hx (cP i _ hx rfl),cP⟩
theorem za5{x4:aN}{f:Int}(hl:x4.Arcs.length<=100000):∀(m i:Nat),x4.Arcs.length-i<m->i<=x4.Arcs.length->Hz f x4 m (i:Int)=some (match (x4.Arcs.drop i).find? fun x=>x.Feat==f with |some x=>(x.To,true)|none=>(0,false))
 |0,i,hm,_=>by omega
 |m+1,i,hm,hi=>by unfold Hz;by_cases aE:i<x4.Arcs.length;obtain⟨x,hx,_⟩:=eM aE;simp only[hH aE,zC,cK,hx,aO,iU aE (show x4.Arcs.length<=9223372036854775807 by omega),aW hx,List.find?_cons];rcases e:x.Feat==f with _|_;simp only[zD];exact za5 hl m (i+1) (by omega) (by omega);simp only[zC];simp only[iF aE,zD,bT aE,vn,List.find?_nil]
theorem zbt{g:List aN}{c:Nat}{x:aN}{f:Int}(hx:g[c]? = some x)(hl:x.Arcs.length<=100000){n:Nat}(hn:x.Arcs.length<n):Pv n ⟨g⟩ (c:Int) f=some (match x.Arcs.find? fun x=>x.Feat==f with |some x=>(x.To,true)|none=>(0,false)):=by
 have:=za5 (f:=f) hl n 0 (by omega) (by omega);rw[zV,List.drop_zero]at this;simp only[Pv,cK,hx,aO,this]
structure QP(N:Nat)(L:List aN)(r:Nat->Nat)(ty:List Int)(P:Nat->aK->Prop)(K:Nat)(g:List aN):Prop where
 len:g.length=N
 ty:∀(c:Nat)(x:aN),g[c]? = some x->ty[c]? = some x.Typex
 ds:∀(c:Nat)(x:aN),g[c]? = some x->mI x.Arcs/\x.Arcs.length<=K
 cov:∀(j:Nat)(c:aN)(a:aK),L[j]? = some c->a∈c.Arcs->P j a->∃x b,g[r j]? = some x/\b∈x.Arcs/\b.Feat=a.Feat/\b.To=(r a.To.toNat:Int)
 snd:∀(i:Nat)(x:aN)(b:aK),g[i]? = some x->b∈x.Arcs->∃(j:Nat)(c:aN)(a:aK),L[j]? = some c/\r j=i/\a∈c.Arcs/\b.Feat=a.Feat/\b.To=(r a.To.toNat:Int)
theorem cy{N:Nat}{L:List aN}{cl ty:List Int}{r:Nat->Nat}(hL:B8 N [] L)(hN:N<=1000)(hc:CK N cl r)(hq:I5 L r){n:Nat}(hn:100000<=n){i:Nat}(G?:i<N){y:aN}(hy:L[i]? = some y)(hyl:y.Arcs.length<=12){rc:Int->List aN->Option GFS}{Q:Option GFS->Prop}
  (K5:∀g,QP N L r ty (fun j _=>j<i+1) (12*(i+1)) g->Q (rc (IntKind.i64.wrap ((i:Int)+1)) g)):∀(m k:Nat)(g:List aN),y.Arcs.length-k<m->k<=y.Arcs.length->QP N L r ty (fun j a=>j<i\/(j=i/\a∈y.Arcs.take k)) (12*i+k) g->
  Q (T9 L cl n (i:Int) rc (r i:Int) m (k:Int) g)
 |0,k,g,hm,_,_=>by omega
 |m+1,k,g,hm,hk,hI=>by
  unfold T9;have hgl:=hI.len;have B5:=hc.lt G?;by_cases aE:k<y.Arcs.length;obtain⟨a,ha,xD⟩:=eM aE;obtain⟨x,hx⟩:∃x,g[r i]? = some x:=⟨_,List.getElem?_eq_getElem (by omega)⟩;obtain⟨hxd,Ay⟩:=hI.ds _ x hx;have hw:IntKind.i64.wrap ((k:Int)+1)=((k+1:Nat):Int):=iU aE (by omega);have tC:=hL.ar i y a hy xD;have hct:=hc.at tC;simp only[cK,hy,aO,hH aE,zC,ha,zbt (f:=a.Feat) hx (show x.Arcs.length<=100000 by omega) (show x.Arcs.length<n by omega),Ta,hw];have Kc:∀b,b∈y.Arcs.take (k+1)↔b∈y.Arcs.take k\/b=a:=fun b=>by rw[j9 ha,yD,List.mem_singleton]
  cases hf:x.Arcs.find? (fun w=>w.Feat==a.Feat)with
  |some w=>
   have FV:=List.mem_of_find?_eq_some hf;have Jz:w.Feat=a.Feat:=by have:=List.find?_some hf;simpa using this
   simp only[Bool.not_true,zD];refine cy hL hN hc hq hn G? hy hyl K5 m (k+1) g (by omega) (by omega) ⟨hI.len,hI.ty,fun c z hz=>⟨(hI.ds c z hz).1,by have:=(hI.ds c z hz).2;omega⟩,fun j c b hj hb hP=>?_,hI.snd⟩;rcases hP with hP |⟨rfl,hP⟩;exact hI.cov j c b hj hb (.inl hP);rcases(Kc b).1 hP with hP |rfl;exact hI.cov _ c b hj hb (.inr ⟨rfl,hP⟩);obtain⟨j',c',a',p1,p2,p3,p4,p5⟩:=hI.snd _ x w hx FV;refine⟨x,w,hx,FV,Jz,?_⟩;rw[p5,hq j' _ c' c a' b p1 hj p2 p3 hb (by omega)]
  |none=>
   have eE:∀w∈x.Arcs,w.Feat≠a.Feat:=fun w hw e=>by have:=List.find?_eq_none.1 hf w hw;simp[e]at this
   simp only[Bool.not_false,zC,hx,aO,hct,zZ,Nat.zero_add];rw[fG (by omega)];have K0:∀c z,(g.set (r i) ⟨x.Typex,x.Arcs++[⟨a.Feat,(r a.To.toNat:Int)⟩]⟩)[c]? = some z->(c=r i/\z=⟨x.Typex,x.Arcs++[⟨a.Feat,(r a.To.toNat:Int)⟩]⟩)\/(c≠r i/\g[c]? = some z):=fun c z hz=>by by_cases e:r i=c;subst e;rw[List.getElem?_set_self (by omega)]at hz;exact .inl ⟨rfl,(Option.some.inj hz).symm⟩;rw[List.getElem?_set_ne e]at hz;exact .inr ⟨fun q=>e q.symm,hz⟩
   refine cy hL hN hc hq hn G? hy hyl K5 m (k+1) _ (by omega) (by omega) ⟨by rw[List.length_set];exact hI.len,fun c z hz=>?_,fun c z hz=>?_,fun j c b hj hb hP=>?_,fun j z b hz hb=>?_⟩;rcases K0 c z hz with⟨rfl,rfl⟩|⟨_,hz⟩;exact hI.ty _ x hx;exact hI.ty c z hz;rcases K0 c z hz with⟨rfl,rfl⟩|⟨_,hz⟩;refine⟨?_,by simp only[zU,zO,zS];omega⟩;unfold mI at*;rw[List.pairwise_append];exact⟨hxd,List.pairwise_singleton _ _,fun w hw v hv=>by simp at hv;subst hv;exact eE w hw⟩;exact⟨(hI.ds c z hz).1,by have:=(hI.ds c z hz).2;omega⟩;have old:(j<i\/(j=i/\b∈y.Arcs.take k))->∃x' b',(g.set (r i) ⟨x.Typex,x.Arcs++[⟨a.Feat,(r a.To.toNat:Int)⟩]⟩)[r j]? = some x'/\b'∈x'.Arcs/\b'.Feat=b.Feat/\b'.To=(r b.To.toNat:Int):=fun hp=>by obtain⟨x',b',q1,q2,q3,q4⟩:=hI.cov j c b hj hb hp;by_cases e:r i=r j;rw[<-e,hx]at q1;cases q1;exact⟨_,b',by rw[<-e,List.getElem?_set_self (by omega)],List.mem_append_left _ q2,q3,q4⟩;exact⟨x',b',by rw[List.getElem?_set_ne e];exact q1,q2,q3,q4⟩
   rcases hP with hP |⟨rfl,hP⟩;exact old (.inl hP);rcases(Kc b).1 hP with hP |rfl;exact old (.inr ⟨rfl,hP⟩);exact⟨_,⟨b.Feat,(r b.To.toNat:Int)⟩,List.getElem?_set_self (by omega),List.mem_append_right _ (List.mem_singleton.2 rfl),rfl,rfl⟩;rcases K0 j z hz with⟨rfl,rfl⟩|⟨_,hz⟩;rcases yD.1 hb with hb |hb;exact hI.snd _ x b hx hb;simp at hb;subst hb;exact⟨i,y,a,hy,rfl,xD,rfl,rfl⟩;exact hI.snd j z b hz hb
  have:k=y.Arcs.length:=by omega
  subst this;simp only[cK,hy,aO,iF aE,zD,ux];rw[List.take_length]at hI;refine K5 g ⟨hI.len,hI.ty,fun c z hz=>⟨(hI.ds c z hz).1,by have:=(hI.ds c z hz).2;omega⟩,fun j c b hj hb hP=>?_,hI.snd⟩;by_cases e:j=i;subst e;rw[hy]at hj;cases hj;exact hI.cov _ _ b hy hb (.inr ⟨rfl,hb⟩);exact hI.cov j c b hj hb (.inl (by omega))
theorem z9z{N:Nat}{L:List aN}{cl ty:List Int}{r:Nat->Nat}(hL:B8 N [] L)(hN:N<=1000)(hc:CK N cl r)(hq:I5 L r)(eS:∀x∈L,x.Arcs.length<=12){v:Int}{n:Nat}(hn:100000<=n):∀(m i:Nat)(g:List aN),N-i<m->i<=N->QP N L r ty (fun j _=>j<i) (12*i) g->
  ∃g',QP N L r ty (fun j _=>j<N) (12*N) g'/\MV L cl v n m (i:Int) g=Jb cl v n g'
 |0,i,g,hm,_,_=>by omega
 |m+1,i,g,hm,hi,hI=>by
  unfold MV;have qY:=hL.len;by_cases aE:i<N;have gE:i<L.length:=by omega
  obtain⟨y,hy,C1⟩:=eM gE;simp only[hH gE,zC,cK,hc.get i aE,aO];have:=cy (ty:=ty) hL hN hc hq hn aE hy (eS y C1) (rc:=MV L cl v n m) (Q:=fun o=>∃g',QP N L r ty (fun j _=>j<N) (12*N) g'/\o=Jb cl v n g') (fun g hg=>by rw[iU gE (by omega)];exact z9z hL hN hc hq eS hn m (i+1) g (by omega) (by omega) hg) n 0 g (by have:=eS y C1;omega) (by omega) ⟨hI.len,hI.ty,fun c x hx=>by have:=hI.ds c x hx;exact⟨this.1,by omega⟩,fun j c a hj ha hP=>by rcases hP with hP |⟨_,hP⟩;exact hI.cov j c a hj ha hP;simp at hP,hI.snd⟩;rw[zV]at this;exact this;have:i=N:=by omega
  subst this;have gE:¬ i<L.length:=by omega
  rw[iF gE];exact⟨g,hI,rfl⟩
theorem z9y{N:Nat}{L:List aN}{cl ty:List Int}(qY:L.length=N)(hN:N<=1000)(ht:ty.length=N){v:Int}{n:Nat}:∀(m i:Nat),N-i<m->i<=N->
  Ja L cl ty v n m (i:Int) ((ty.take i).map fun t=>aN.mk t [])=Sz L cl v n (ty.map fun t=>aN.mk t [])
 |0,i,hm,_=>by omega
 |m+1,i,hm,hi=>by
  unfold Ja;by_cases aE:i<N;have gE:i<L.length:=by omega
  obtain⟨t,hx,_⟩:=eM (l:=ty) (show i<ty.length by omega);have ih:=z9y (cl:=cl) (v:=v) (n:=n) qY hN ht m (i+1) (by omega) (by omega);rw[j9 hx,List.map_append]at ih;simp only[hH gE,zC,cK,hx,aO,iU gE (show L.length<=9223372036854775807 by omega)];rw[fG (by simp only[yA,List.length_take];omega)];exact ih;have:i=N:=by omega
  subst this;have gE:¬ i<L.length:=by omega
  rw[iF gE,zW (by omega)];rfl
theorem zbl{ws:List Nat}{N:Nat}{L:List aN}{cl ty:List Int}{r:Nat->Nat}(hL:B8 N [] L)(hN:N<=1000)(hc:CK N cl r)(hq:I5 L r)(eS:∀x∈L,x.Arcs.length<=12/\∀a∈x.Arcs,0<=a.Feat)(oT:qc ws N L r ty){n:Nat}(hn:100000<=n){v:Int}(hv:0<=v/\v<(N:Int)):
  ∃g,QG ws L r ⟨g⟩/\AE ⟨g⟩/\Rs n L cl ty v=some (pG ⟨g⟩ (r v.toNat:Int)):=by
 have qY:=hL.len;have h1:=z9y (cl:=cl) (v:=v) (n:=n) qY hN oT.len n 0 (by omega) (by omega);rw[zV,List.take_zero,List.map_nil]at h1;have h0:QP N L r ty (fun j _=>j<0) (12*0) (ty.map fun t=>aN.mk t []):=⟨by simp[oT.len],fun c x hx=>by
   rw[List.getElem?_map]at hx;rcases e:ty[c]? with _|t;rw[e]at hx;cases hx;rw[e]at hx;cases hx;rfl,fun c x hx=>by
   rw[List.getElem?_map]at hx;rcases e:ty[c]? with _|t;rw[e]at hx;cases hx;rw[e]at hx;cases hx;exact⟨List.Pairwise.nil,zF _⟩,fun j c a _ _ h=>absurd h (by omega),fun i x b hx hb=>by
   rw[List.getElem?_map]at hx;rcases e:ty[i]? with _|t;rw[e]at hx;cases hx;rw[e]at hx;cases hx;cases hb⟩
 obtain⟨g,g1,g2⟩:=z9z hL hN hc hq (fun x hx=>(eS x hx).1) (v:=v) hn n 0 _ (by omega) (by omega) h0;rw[zV]at g2;have mem:∀{i:Nat},i<N->∃x,L[i]? = some x:=fun{i} hi=>⟨_,List.getElem?_eq_getElem (by omega)⟩;have tyat:∀c x,g[c]? = some x->c<N/\(0<=x.Typex/\x.Typex<(ws.length:Int))/\∀k,(eW ws x.Typex).testBit k=true↔∀(j:Nat)(y:aN),L[j]? = some y->r j=r c->(eW ws y.Typex).testBit k=true:=fun c x hx=>by
  have DT:c<N:=by have:=(zG.1 hx).1;have:=g1.len;omega
  obtain⟨t,t1,t2,t3⟩:=oT.at_ c DT;have:=g1.ty c x hx;rw[t1]at this;cases this;exact⟨DT,t2,t3⟩
 have hQ:QG ws L r ⟨g⟩:=⟨by show g.length=_;rw[g1.len,qY],fun i hi=>by rw[qY]at hi ⊢;exact⟨hc.lt hi,hc.idem i hi⟩,fun i x hx hr=>by obtain⟨_,t2,t3⟩:=tyat i x hx;rw[hr]at t3;exact⟨t2,t3⟩,fun i x hx _=>(g1.ds i x hx).1,fun j c a hj ha=>g1.cov j c a hj ha (by have:=(zG.1 hj).1;omega),fun i x b hx _ hb=>g1.snd i x b hx hb⟩;have hG:AE ⟨g⟩:=fun x hx=>by obtain⟨i,hi⟩:=List.getElem?_of_mem hx;refine⟨(tyat i x hi).2.1.1,(g1.ds i x hi).1,fun b hb=>?_⟩;obtain⟨j,c,a,q1,q2,q3,q4,q5⟩:=g1.snd i x b hi hb;have tC:=hL.ar j c a q1 q3;have:=hc.lt (i:=a.To.toNat) (by omega);have hf:=(eS c (zX q1)).2 a q3;have hgl:(GFS.mk g).Nodes.length=N:=g1.len;rw[hgl];exact⟨by omega,by omega,by omega⟩
 refine⟨g,hQ,hG,?_⟩;have hrv:=hc.lt (i:=v.toNat) (by omega);have hS:d6 ⟨g⟩ 12000:=⟨by show g.length<=12000;rw[g1.len];omega,fun x hx=>by obtain⟨i,hi⟩:=List.getElem?_of_mem hx;have:=(g1.ds i x hi).2;omega⟩;have m7:=z3a hG hS (by omega) (r:=(r v.toNat:Int)) ⟨by omega,by show _<((g.length:Nat):Int);rw[g1.len];omega⟩ (n:=n) (by omega);rw[Rs,h1,Sz,g2];simp only[Jb,hc.at hv,aO,m7]
structure Pt(h:cY)(ws:List Nat)(U:Nat)(L:List aN)(c:List aS)(tl:List bD)(cl:List Int)(aA d r:Nat->Nat)(D:Nat):Prop where
 lk:B8 L.length [] L
 la:∀x∈L,x.Arcs.length<=12/\(∀a∈x.Arcs,0<=a.Feat/\a.Feat<(h.Feats.length:Int))/\lU x.Arcs
 lt:KOk ws L
 hp:mO L.length D (h.Feats.length:Int) (ws.length:Int) c aA d
 tc:TC ws L.length L [] c aA
 ck:CK L.length cl r
 ke:∀i j,i<L.length->j<L.length->(aA i=aA j↔r i=r j)
 bd:D+tot c<=12*L.length+U
 bt:tl.length+2*tot c<=24*L.length+2*U
def GG(h:cY)(ws:List Nat)(U:Nat)(L:List aN)(c:List aS)(tl:List bD)(cl:List Int):Prop:=∃aA d r D,Pt h ws U L c tl cl aA d r D
variable{ws:List Nat}
variable{L:List aN}
theorem B8.to{N:Nat}{ws':List Nat}(h:B8 N ws L):B8 N ws' L:=⟨h.len,h.ar⟩
theorem GG.up{h:cY}{U U':Nat}{c:List aS}{tl:List bD}{cl:List Int}(hU:U<=U')(p:GG h ws U L c tl cl):GG h ws U' L c tl cl:=by
 obtain⟨aA,d,r,D,q⟩:=p;exact⟨aA,d,r,D,q.lk,q.la,q.lt,q.hp,q.tc,q.ck,q.ke,by have:=q.bd;omega,by have:=q.bt;omega⟩
structure y7(c0:List aS)(t0:List bD)(c:List aS)(t:List bD):Prop where
 ex:∃tl,t=t0++tl/\(∀x∈tl,0<=x.atx/\x.atx<(c.length:Int))/\(qI tl c).take c0.length=c0
 le:c0.length<=c.length
theorem y7.refl(c:List aS)(t:List bD):y7 c t c t:=⟨⟨[],by simp,(fun x hx=>by cases hx),by simp[qI]⟩,zF _⟩
theorem zah(a b:List bD)(c:List aS):qI (a++b) c=qI a (qI b c):=by simp[qI]
theorem qxq:∀(tl:List bD)(c:List aS)(k:Nat),(qI tl c).take k=qI tl (c.take k)
 |[],c,k=>rfl|x::tl,c,k=>by have e:∀c,qI (x::tl) c=(qI tl c).set x.atx.toNat x.old:=fun c=>rfl;rw[e,e,List.take_set,qxq tl c k]
theorem y7.trans{c0 c1 c2:List aS}{t0 t1 t2:List bD}(h:y7 c0 t0 c1 t1)(h':y7 c1 t1 c2 t2):y7 c0 t0 c2 t2:=by
 obtain⟨tl,e1,r1,b1⟩:=h.ex;obtain⟨kR,e2,r2,b2⟩:=h'.ex;have l1:=h.le;have l2:=h'.le;refine⟨⟨tl++kR,by rw[e2,e1,zT],fun x hx=>?_,?_⟩,by omega⟩;rcases yD.1 hx with hx |hx;have:=r1 x hx;omega;exact r2 x hx;have:(qI tl (qI kR c2)).take c0.length=((qI tl (qI kR c2)).take c1.length).take c0.length:=by rw[List.take_take,Nat.min_eq_left l1]
 rw[zah,this,qxq,b2,b1]
theorem J4{O:Type}{a b:List O}{i:Nat}{x:O}(h:(a++b)[i]? = some x):(i<a.length/\a[i]? = some x)\/(a.length<=i/\b[i-a.length]? = some x):=by
 by_cases e:i<a.length;rw[List.getElem?_append_left e]at h;exact .inl ⟨e,h⟩;rw[List.getElem?_append_right (by omega)]at h;exact .inr ⟨by omega,h⟩
def ext(N:Nat)(f:Nat->Nat)(i:Nat):Nat:=if i<N then f i else i
theorem wN.up'{N N':Nat}{FB:Int}{l:List aK}(h:wN N FB l)(hN:N<=N'):wN N' FB l:=⟨h.up,fun a ha=>by have:=h.ok a ha;omega⟩
theorem z4u{h:cY}(hh:pD h ws){U:Nat}{c:List aS}{tl:List bD}{cl:List Int}(p:GG h ws U L c tl cl){f:GFS}(hf:GQ h f):
  GG h ws U (L++f.Nodes.map (D1 L.length)) (c++f.Nodes.map (B0 L.length)) tl (cl++uR L.length f.Nodes.length):=by
 obtain⟨aA,d,r,D,p⟩:=p;have eR:=p.hp.len;have Kq:(L++f.Nodes.map (D1 L.length)).length=L.length+f.Nodes.length:=by simp
 have DP:∀x∈f.Nodes.map (B0 L.length),Flat (L.length+f.Nodes.length) (h.Feats.length:Int) (ws.length:Int) x:=fun x hx=>by rw[<-hh.tl];exact hf.flat (zF _) hx
 have cOld:∀{i:Nat},i<L.length->celN (c++f.Nodes.map (B0 L.length)) i=celN c i:=fun{i} hi=>by simp only[celN,List.getElem?_append_left (show i<c.length by omega)]
 have cNew:∀{i:Nat}{x:aN},f.Nodes[i]? = some x->celN (c++f.Nodes.map (B0 L.length)) (L.length+i)=B0 L.length x:=fun{i x} hx=>by simp only[celN,List.getElem?_append_right (show c.length<=L.length+i by omega),eR,Nat.add_sub_cancel_left,List.getElem?_map,hx,zM,Option.getD_some]
 have LOld:∀{j:Nat}{x:aN},(L++f.Nodes.map (D1 L.length))[j]? = some x->(j<L.length/\L[j]? = some x)\/∃(i:Nat)(y:aN),j=L.length+i/\f.Nodes[i]? = some y/\x=D1 L.length y:=fun{j x} hj=>by rcases J4 hj with⟨h1,h2⟩|⟨h1,h2⟩;exact .inl ⟨h1,h2⟩;rw[List.getElem?_map]at h2;rcases e:f.Nodes[j-L.length]? with _|y;rw[e]at h2;cases h2;rw[e]at h2;exact .inr ⟨j-L.length,y,by omega,e,(Option.some.inj h2).symm⟩
 have fX:∀{g:Nat->Nat}{i:Nat},i<L.length->ext L.length g i=g i:=fun hi=>if_pos hi;have eNew:∀{g:Nat->Nat}{i:Nat},L.length<=i->ext L.length g i=i:=fun{g i} hi=>if_neg (by omega);have tC:∀(i:Nat)(y:aN),f.Nodes[i]? = some y->∀a∈y.Arcs,0<=a.To/\a.To<(f.Nodes.length:Int):=fun i y hy a ha=>by have:=(hf.nok y (zX hy)).2.ok a ha;exact⟨this.2.2.1,this.2.2.2⟩
 have k?:mO (L.length+f.Nodes.length) D (h.Feats.length:Int) (ws.length:Int) (c++f.Nodes.map (B0 L.length)) (ext L.length aA) (fun i=>if i<L.length then d i else 0):=by
  refine⟨⟨fun i hi=>?_,fun i hi=>?_,fun i hi=>?_,fun i hi=>?_⟩,⟨fun i x hx hr=>?_,fun i x hx hr=>?_⟩,by simp[eR],fun i x hx=>?_,fun i x hx=>?_⟩;by_cases e:i<L.length;rw[fX e];have:=p.hp.rok.lt i e;omega;rw[eNew (by omega)];exact hi;by_cases e:i<L.length;rw[fX e,fX (p.hp.rok.lt i e)];exact p.hp.rok.idem i e;have e1:ext L.length aA i=i:=eNew (by omega);rw[e1,e1];by_cases e:i<L.length;rw[fX e,if_pos (p.hp.rok.lt i e)];exact p.hp.rok.zero i e;rw[eNew (by omega),if_neg e];show(if i<L.length then d i else 0)<=D;by_cases e:i<L.length;rw[if_pos e];exact p.hp.rok.bd i e;rw[if_neg e];omega;rcases J4 hx with⟨h1,h2⟩|⟨h1,h2⟩;rw[fX (by omega)]at hr;exact p.hp.cok.root i x h2 hr;exact(DP x (zX h2)).fw;rcases J4 hx with⟨h1,h2⟩|⟨h1,h2⟩;have e:i<L.length:=by omega
  rw[fX e]at hr;obtain⟨j,q1,q2,q3,q4⟩:=p.hp.cok.fwd i x h2 hr;exact⟨j,q1,by omega,by rw[fX q2,fX e];exact q3,by simp only[q2,e,if_true];exact q4⟩;exact absurd (eNew (by omega)) hr;rcases J4 hx with⟨h1,h2⟩|⟨h1,h2⟩;exact(p.hp.ar i x h2).up' (by omega);exact(DP x (zX h2)).ar;rcases J4 hx with⟨h1,h2⟩|⟨h1,h2⟩;exact p.hp.kd i x h2;exact(DP x (zX h2)).kd
 refine⟨ext L.length aA,(fun i=>if i<L.length then d i else 0),ext L.length r,D,?_⟩;have Ve:tot (c++f.Nodes.map (B0 L.length))<=tot c+12*f.Nodes.length:=by have:=cr (cells:=f.Nodes.map (B0 L.length)) fun x hx=>(DP x hx).sm;rw[yA]at this;simp only[tot,List.map_append,List.sum_append]at this ⊢;omega
 have gO:=p.bd;have hbt:=p.bt;refine⟨⟨rfl,fun j x a hj ha=>?_⟩,fun x hx=>?_,fun x hx=>?_,by rw[Kq];exact k?,⟨fun j x a hj ha=>?_,fun i b hi hr hb=>?_,fun i hi hr k=>?_⟩,⟨?_,fun i hi=>?_,fun i hi=>?_,fun i hi=>?_⟩,fun i j hi hj=>?_,by rw[Kq];omega,by rw[Kq];omega⟩;rw[Kq];rcases LOld hj with⟨h1,h2⟩|⟨i,y,rfl,h2,rfl⟩;have:=p.lk.ar j x a h2 ha;omega;obtain⟨a0,ha0,rfl⟩:=List.mem_map.1 ha;have:=tC i y h2 a0 ha0;simp only[IM];omega;rcases yD.1 hx with hx |hx;exact p.la x hx;obtain⟨y,hy,rfl⟩:=List.mem_map.1 hx;have hk:=(hf.nok y hy).2;refine⟨by simp only[D1,yA];exact hf.sm.arcs y hy,fun a ha=>?_,RG hk.up⟩;obtain⟨a0,ha0,rfl⟩:=List.mem_map.1 ha;have:=hk.ok a0 ha0;exact⟨this.1,this.2.1⟩;rcases yD.1 hx with hx |hx;exact p.lt x hx;obtain⟨y,hy,rfl⟩:=List.mem_map.1 hx;have:=(hf.nok y hy).1;rw[hh.tl]at this;exact this;rcases LOld hj with⟨h1,h2⟩|⟨i,y,rfl,h2,rfl⟩;obtain⟨b,q1,q2,q3⟩:=p.tc.cov j x a h2 ha;have B5:=p.hp.rok.lt j h1;refine⟨b,by rw[fX h1,cOld B5];exact q1,q2,fun q w1 w2=>q3 q (fun i j hi hj e=>w1 i j (by omega) (by omega) (by rw[fX hi,fX hj];exact e)) (fun _ hz=>by cases hz)⟩;refine⟨a,by rw[eNew (by omega),cNew h2];exact ha,rfl,fun q _ _=>rfl⟩;by_cases e:i<L.length;rw[fX e]at hr;rw[cOld e]at hb;obtain⟨j,x,q1,q2,q3⟩:=p.tc.snd i b e hr hb;have jl:=(zG.1 q1).1;exact⟨j,x,by rw[List.getElem?_append_left jl];exact q1,by rw[fX jl];exact q2,q3⟩;obtain⟨k,rfl⟩:∃k,i=L.length+k:=⟨i-L.length,by omega⟩;obtain⟨y,hy,_⟩:=eM (l:=f.Nodes) (show k<f.Nodes.length by omega);rw[cNew hy]at hb;exact⟨L.length+k,D1 L.length y,by rw[List.getElem?_append_right (by omega),Nat.add_sub_cancel_left,List.getElem?_map,hy];rfl,eNew (by omega),hb⟩;by_cases e:i<L.length;rw[fX e]at hr;rw[cOld e,p.tc.kd i e hr];constructor;intro g j x hj C6;rcases LOld hj with⟨h1,h2⟩|⟨m,y,rfl,h2,rfl⟩;rw[fX h1]at C6;exact g j x h2 C6;rw[eNew (by omega)]at C6;omega;intro g j x hj C6;have jl:=(zG.1 hj).1;exact g j x (by rw[List.getElem?_append_left jl];exact hj) (by rw[fX jl];exact C6);obtain⟨m,rfl⟩:∃m,i=L.length+m:=⟨i-L.length,by omega⟩;obtain⟨y,hy,_⟩:=eM (l:=f.Nodes) (show m<f.Nodes.length by omega);rw[cNew hy];have tE:(L++f.Nodes.map (D1 L.length))[L.length+m]? = some (D1 L.length y):=by rw[List.getElem?_append_right (by omega),Nat.add_sub_cancel_left,List.getElem?_map,hy];rfl
 constructor;intro g j x hj C6;have:j=L.length+m:=by by_cases e2:j<L.length;rw[fX e2]at C6;have:=p.hp.rok.lt j e2;omega;rw[eNew (by omega)]at C6;exact C6
 subst this;rw[tE]at hj;cases hj;exact g;intro g;exact g (L.length+m) (D1 L.length y) tE (eNew (by omega));rw[zU,ab,p.ck.len,Kq];rw[Kq]at hi;by_cases e:i<L.length;rw[List.getElem?_append_left (by rw[p.ck.len];exact e),fX e];exact p.ck.get i e;rw[List.getElem?_append_right (by rw[p.ck.len];omega),p.ck.len,eNew (by omega)];simp only[uR,List.getElem?_map,List.getElem?_range (show i-L.length<f.Nodes.length by omega),zM];congr 1;omega;by_cases e:i<L.length;rw[fX e];exact p.ck.le i e;rw[eNew (by omega)];exact zF _;by_cases e:i<L.length;rw[fX e,fX (p.ck.lt e)];exact p.ck.idem i e;have e1:ext L.length r i=i:=eNew (by omega);rw[e1,e1];by_cases e:i<L.length;by_cases e2:j<L.length;rw[fX e,fX e2,fX e,fX e2];exact p.ke i j e e2;have:=p.hp.rok.lt i e;have:=p.ck.lt e;rw[fX e,eNew (by omega),fX e,eNew (by omega)];constructor<;>intro q<;>omega;by_cases e2:j<L.length;have:=p.hp.rok.lt j e2;have:=p.ck.lt e2;rw[eNew (by omega),fX e2,eNew (by omega),fX e2];constructor<;>intro q<;>omega;rw[eNew (by omega),eNew (by omega),eNew (by omega),eNew (by omega)]
variable{r:Nat->Nat}
theorem Ky.wide{N:Nat}{W:List (Int×Int)}{x y:Nat}(h:Ky N r [] x y):Ky N r W x y:=fun q q1 _=>h q q1 (fun _ hz=>by cases hz)
variable{ws:List Nat}
variable{L:List aN}
theorem qu0{q q':Nat->Nat}(h:W3 ws L q)(he:∀i j,i<L.length->j<L.length->q i=q j->q' i=q' j):W3 ws L q':=by
 obtain⟨i,hi,hb⟩:=h;refine⟨i,hi,fun k=>?_⟩;obtain⟨j,x,q1,q2,q3⟩:=hb k;exact⟨j,x,q1,he j i (zG.1 q1).1 hi q2,q3⟩
variable{h:cY}
variable{n:Nat}
theorem Ua(hh:pD h ws)(hn:2000<=n):qf ws (AZ n h):=⟨fun s t hs ht e=>by
  rcases zz hh hs ht hn with⟨_,_,h3⟩|⟨r,h1,_⟩;exact h3;rw[h1]at e;exact(Option.some_ne_none _ e).elim,fun s t r hs ht e=>by
  rcases zz hh hs ht hn with⟨h1,_⟩|⟨r',h1,_,h3,h4⟩;rw[h1]at e;cases e;rw[h1]at e;cases e;exact⟨h3,h4⟩⟩
theorem Pt.dis{h:cY}{ws:List Nat}{U:Nat}{L:List aN}{c:List aS}{tl:List bD}{cl:List Int}{aA d r:Nat->Nat}{D:Nat}(p:Pt h ws U L c tl cl aA d r D):∀x∈L,mI x.Arcs/\x.Arcs.length<=12:=fun x hx=>⟨(p.la x hx).2.2.dis,(p.la x hx).1⟩
theorem Pt.clo{h:cY}{ws:List Nat}{U:Nat}{L:List aN}{c:List aS}{tl:List bD}{cl:List Int}{aA d r:Nat->Nat}{D:Nat}(p:Pt h ws U L c tl cl aA d r D):I5 L r:=fun i j x y a b hi hj e ha hb hf=>by
 have il:=(zG.1 hi).1;have jl:=(zG.1 hj).1;have h1:=p.lk.ar i x a hi ha;have h2:=p.lk.ar j y b hj hb;exact(p.ke _ _ (by omega) (by omega)).1 (p.tc.clo p.lk.to p.hp i j x y a b hi hj ((p.ke i j il jl).2 e) ha hb hf)
theorem Pt.good{h:cY}{ws:List Nat}(hh:pD h ws){U:Nat}{L:List aN}{c:List aS}{tl:List bD}{cl:List Int}{aA d r:Nat->Nat}{D:Nat}(p:Pt h ws U L c tl cl aA d r D):¬ W3 ws L r:=fun hb=>
 p.tc.good p.lk.to (fun w hw=>(hh.ok w hw).1) p.hp (qu0 hb fun i j hi hj e=>(p.ke i j hi hj).2 e)
variable{c:List aS}
variable{tl:List bD}
variable{cl:List Int}
theorem z8j(hh:pD h ws){U:Nat}{aA d:Nat->Nat}{D:Nat}(p:Pt h ws U L c tl cl aA d r D)(hL:L.length<=1000):d6 (cG c aA) 1000:=by
 have eR:=p.hp.len;refine⟨by simp only[cG,yA];omega,fun x hx=>?_⟩;obtain⟨y,hy,rfl⟩:=List.mem_map.1 hx;obtain⟨i,hi⟩:=List.getElem?_of_mem hy;have ha:=p.hp.ar i y hi;have A3:=hh.fl;have:(y.arcs.map aK.Feat).length<=h.Feats.length:=kr h.Feats.length (by rw[List.Nodup,List.pairwise_map];exact ha.up.imp fun{a b} q=>by omega) fun v hv=>by obtain⟨a,hm,rfl⟩:=List.mem_map.1 hv;have:=ha.ok a hm;exact⟨this.1,this.2.1⟩
 rw[yA]at this;simp only[Jw,yA];omega
theorem z4v(hh:pD h ws){U:Nat}{aA d:Nat->Nat}{D:Nat}(p:Pt h ws U L c tl cl aA d r D)(hL:L.length<=300)(hU:U<=1000)(hn:200000<=n){v:Int}(hv:0<=v/\v<(L.length:Int))(p9:List bD)(iC:List c9)(rm:List pE):
  d6 (NY n c aA v) 1000/\BW n v h.Types h.Feats c p9 iC=some (NY n c aA v,true)/\SR n ⟨h,L,cl,rm⟩ v=some (NY n c aA v,true):=by
 have gO:=p.bd;have Wt:=z88 p.hp (n:=n) (by omega) hv;have hrI:=p.hp.rI hv;have Ci:(cG c aA).Nodes.length=L.length:=by simp[cG,p.hp.len]
 refine⟨?_,ww p.hp (by omega) (by omega) (by omega) (by omega) hv h.Types h.Feats p9 iC,?_⟩;rw[Wt];exact(z8j hh p (by omega)).canon p.hp.gok ⟨hrI.1,by rw[Ci];exact hrI.2⟩;have e1:MJ n ⟨h,L,cl,rm⟩ v=some true:=by
  have a1:decide (v>=0)=true:=by simp;omega
  have a2:decide (v<(L.length:Int))=true:=by simp;omega
  simp only[MJ,a1,a2,zC,aO]
 rcases qzm hh rfl (by omega) p.lt p.ck (n:=n) (by omega)with⟨o,t1,t2,t3⟩|⟨_,t2⟩;obtain⟨g,g1,g2,g3⟩:=zbl p.lk (by omega) p.ck p.clo (fun x hx=>⟨(p.la x hx).1,fun a ha=>((p.la x hx).2.1 a ha).1⟩) t2 (n:=n) (by omega) hv;have hq:=p.tc.qg p.lk.to p.hp;have qC:=QG.read hh.nod (fun j x a hj ha=>by have:=p.lk.ar j x a hj ha;omega) hq g1 p.hp.gok g2 p.ke (i:=v.toNat) (by omega);simp only[SR,e1,aO,Bool.not_true,zD,t1,g3];rw[qC,Wt];rfl;exact absurd t2 (p.good hh)
variable{a:Int}
variable{b:Int}
theorem z64{m:List c9}{t:Nat}(xE:¬ ((0<=a/\a<(c.length:Int))/\0<=b/\b<(c.length:Int))):FD n a b h.Types h.Feats c tl t m=some (false,c,tl,t):=by
 have:(cond (decide (a<0)) (some true) (cond (decide (a>=(c.length:Int))) (some true) (cond (decide (b<0)) (some true) (some (decide (b>=(c.length:Int)))))))=some true:=by by_cases h1:a<0;rw[decide_eq_true h1];rfl;rw[decide_eq_false h1,zD];by_cases h2:a>=(c.length:Int);rw[decide_eq_true h2];rfl;rw[decide_eq_false h2,zD];by_cases h3:b<0;rw[decide_eq_true h3];rfl;rw[decide_eq_false h3,zD,decide_eq_true (by omega)]
 simp only[FD,this,aO,zC]
theorem z8q{m:List c9}{t:Nat}(ha:0<=a/\a<(c.length:Int))(hb:0<=b/\b<(c.length:Int)):FD n a b h.Types h.Feats c tl t m=MY h.Types h.Feats tl m n n (stk [(a,b)]) c tl t:=by
 have q1:decide (a<0)=false:=by simp;omega
 have q2:decide (a>=(c.length:Int))=false:=by simp only[decide_eq_false_iff_not];omega
 have q3:decide (b<0)=false:=by simp;omega
 have q4:decide (b>=(c.length:Int))=false:=by simp only[decide_eq_false_iff_not];omega
 simp only[FD,q1,q2,q3,q4,zD,aO];rfl
theorem dw{rm:List pE}(v:Int):MJ n ⟨h,L,cl,rm⟩ v=some (decide (0<=v/\v<(L.length:Int))):=by
 by_cases h1:v>=0;simp only[MJ,decide_eq_true h1,zC,aO];by_cases h2:v<(L.length:Int);rw[decide_eq_true h2,decide_eq_true (⟨h1,h2⟩:0<=v/\v<(L.length:Int))];rw[decide_eq_false h2,decide_eq_false (fun q=>h2 q.2)];simp only[MJ,decide_eq_false h1,zD,aO];rw[decide_eq_false (fun q=>h1 q.1)]
theorem z0r{rm:List pE}(xE:¬ ((0<=a/\a<(L.length:Int))/\0<=b/\b<(L.length:Int))):SV n ⟨h,L,cl,rm⟩ a b=some (⟨h,L,cl,rm⟩,false):=by
 simp only[SV,dw,aO];by_cases h1:0<=a/\a<(L.length:Int);rw[decide_eq_true h1];have h2:¬ (0<=b/\b<(L.length:Int)):=fun q=>xE ⟨h1,q⟩;rw[decide_eq_false h2];rfl;rw[decide_eq_false h1];rfl
theorem qz2(hh:pD h ws){U:Nat}(p:GG h ws U L c tl cl)(hL:L.length<=300)(hU:U<=1000)(hn:3000000<=n)(a b:Int)(m:List c9)(rm:List pE)(t:Nat):
  ∃ok c' kR cl' t',FD n a b h.Types h.Feats c tl t m=some (ok,c',kR,t')/\SV n ⟨h,L,cl,rm⟩ a b=some (⟨h,L,cl',rm⟩,ok)/\GG h ws (U+1) L c' kR cl'/\y7 c tl c' kR/\c'.length=c.length:=by
 have p0:=p;obtain⟨aA,d,r,D,p⟩:=p;have eR:=p.hp.len;by_cases xE:(0<=a/\a<(L.length:Int))/\0<=b/\b<(L.length:Int)
 ·obtain⟨ha,hb⟩:=xE;have gO:=p.bd;have hbt:=p.bt;have DK:=Ua hh (n:=n) (by omega);have Vr:=zbb hh (n:=n) (by omega);have hr:Rnd L.length D (h.Feats.length:Int) (ws.length:Int) [(a,b)] c aA d:=⟨p.hp,fun q hq=>by simp at hq;subst hq;exact⟨ha,hb⟩⟩;have W_:TC ws L.length L [(a,b)] c aA:=⟨fun j x z hj hz=>by obtain⟨w,q1,q2,q3⟩:=p.tc.cov j x z hj hz;exact⟨w,q1,q2,q3.wide⟩,p.tc.snd,p.tc.kd⟩;have hk:[(a,b)].length+tot c<n:=by simp only[zO,zS];omega
  have A3:=hh.fl;obtain⟨s1,s2⟩:=dj DK p.lk.to n [(a,b)] c aA d D hr W_ hk;obtain⟨D',u1,u2⟩:=v01 Vr n [(a,b)] c aA d D hr hk;obtain⟨k1,k2⟩:=ep hh (by omega) (n:=n) (by omega) (p7:=tl) (by omega) m c n [(a,b)] c aA d D [] t hr hk (by simp only[zO,zS];omega) (fun x hx=>by cases hx) rfl (by simp only[zO,zS];omega);rw[List.append_nil]at k1 k2;have hui:=z8q (h:=h) (tl:=tl) (m:=m) (n:=n) (t:=t) (show 0<=a/\a<(c.length:Int) by omega) (show 0<=b/\b<(c.length:Int) by omega);have Vs:∀i j,aA i=aA j->(lY (AZ n h) n [(a,b)] c aA d).2.2.1 i=(lY (AZ n h) n [(a,b)] c aA d).2.2.1 j:=fun i j e=>Ph n _ c aA d e;have v6:=nk Vr n [(a,b)] c aA d D hr hk;have wZ:=p.ck.mrg (a:=a.toNat) (b:=b.toNat) (by omega) (by omega);have hmg:=z7t p.ck (by omega) ha hb (n:=n) (by omega);obtain⟨out,r2,c1,c2⟩:=z6z p.lk (by omega) p.dis wZ (n:=n) (by omega);generalize Kf:gS r (min (r a.toNat) (r b.toNat)) (max (r a.toNat) (r b.toNat))=r1 at wZ c2;have h1ab:r1 a.toNat=r1 b.toNat:=by rw[<-Kf];unfold gS;split;split;rfl;omega;split;omega;omega
  have h1up:∀i j,r i=r j->r1 i=r1 j:=fun i j e=>by rw[<-Kf];exact ja e
  have Xk:∀(q:Nat->Nat),(∀i j,i<L.length->j<L.length->r i=r j->q i=q j)->q a.toNat=q b.toNat->∀i j,i<L.length->j<L.length->r1 i=r1 j->q i=q j:=fun q q1 q2 i j hi hj e=>by
   have ra:q (r a.toNat)=q a.toNat:=q1 _ _ (p.ck.lt (by omega)) (by omega) (p.ck.idem _ (by omega));have rb:q (r b.toNat)=q b.toNat:=q1 _ _ (p.ck.lt (by omega)) (by omega) (p.ck.idem _ (by omega));have ri:q (r i)=q i:=q1 _ _ (p.ck.lt hi) hi (p.ck.idem _ hi);have rj:q (r j)=q j:=q1 _ _ (p.ck.lt hj) hj (p.ck.idem _ hj);have Kh:q (min (r a.toNat) (r b.toNat))=q a.toNat/\q (max (r a.toNat) (r b.toNat))=q a.toNat:=by rcases Nat.le_total (r a.toNat) (r b.toNat)with g |g;rw[Nat.min_eq_left g,Nat.max_eq_right g,ra,rb,q2];exact⟨rfl,rfl⟩;rw[Nat.min_eq_right g,Nat.max_eq_left g,ra,rb,q2];exact⟨rfl,rfl⟩
   rw[<-Kf]at e;unfold gS at e;rw[<-ri,<-rj];split at e
   ·next e1=>
    split at e
    ·next e2=>rw[e1,e2]
    ·next e2=>rw[e1,<-e,Kh.1,Kh.2]
   ·next e1=>
    split at e
    ·next e2=>rw[e2,e,Kh.1,Kh.2]
    ·next e2=>rw[e]
  have yW:VW L.length [(a,b)] aA r2:=⟨fun i j hi hj e=>c2.up i j hi hj (h1up i j ((p.ke i j hi hj).1 e)),fun q hq=>by simp at hq;subst hq;exact c2.up _ _ (by omega) (by omega) h1ab⟩;obtain⟨s3,s4⟩:=s2 r2 c2.clo yW;have oT:=qzm hh rfl (by omega) p.lt c2.ck (n:=n) (by omega);have DS:SV n ⟨h,L,cl,rm⟩ a b=a8 (SX n h L out) fun r16=>cond (!r16.2) (some (⟨h,L,cl,rm⟩,false)) (some (⟨h,L,out,rm⟩,true)):=by simp only[SV,dw,aO];rw[decide_eq_true ha,decide_eq_true hb];simp only[Bool.not_true,zD,aO,hmg,c1]
  cases pJ:(lY (AZ n h) n [(a,b)] c aA d).1 with
  |true=>
   obtain⟨kR,t',g1,g2,g3,g4⟩:=k1 pJ;have X_:=s1 pJ;have hclo:=X_.clo p.lk.to u2;have eI:∀i j,i<L.length->j<L.length->((lY (AZ n h) n [(a,b)] c aA d).2.2.1 i=(lY (AZ n h) n [(a,b)] c aA d).2.2.1 j↔r2 i=r2 j):=fun i j hi hj=>by refine⟨fun e=>(s3 pJ).r i j hi hj e,fun e=>?_⟩;refine c2.low _ hclo (Xk _ (fun i j hi hj e=>Vs i j ((p.ke i j hi hj).2 e)) ?_) i j hi hj e;exact v6 pJ (a,b) (by simp)
   have zP:¬ W3 ws L r2:=fun hb=>X_.good p.lk.to (fun w hw=>(hh.ok w hw).1) u2 (qu0 hb fun i j hi hj e=>(eI i j hi hj).2 e);rcases oT with⟨o,t1,t2,t3⟩|⟨_,t2⟩
   have b7:=u2.len;refine⟨true,_,tl++kR,out,t',by rw[hui,g1],by rw[DS,t1];rfl,⟨_,_,r2,D',p.lk,p.la,p.lt,u2,X_,c2.ck,eI,by simp only[zO,zS]at u1;omega,by simp only[zO,zS,zU]at g4 ⊢;omega⟩,⟨⟨kR,rfl,fun x hx=>by rw[b7];exact g3 x hx,by rw[g2,List.take_length]⟩,by rw[b7,eR];exact zF _⟩,by rw[b7,eR]⟩;exact absurd t2 zP
  |false=>obtain⟨t',g1⟩:=k2 pJ;have Ww:=s4 pJ;rcases oT with⟨o,t1,t2,t3⟩|⟨t1,t2⟩;exact absurd Ww t3;exact⟨false,c,tl,cl,t',by rw[hui,g1],by rw[DS,t1];rfl,p0.up (by omega),y7.refl c tl,rfl⟩
 have hab':¬ ((0<=a/\a<(c.length:Int))/\0<=b/\b<(c.length:Int)):=by rw[eR];exact xE
 exact⟨false,c,tl,cl,t,z64 hab',z0r xE,p0.up (by omega),y7.refl c tl,rfl⟩
structure HS(h:cY)(ws:List Nat)(U:Nat)(c:List aS)(tl:List bD)(mk:List c9)(L:List aN)(cl:List Int)(rm:List pE)(S:List (List aS×List bD)):Prop where
 pt:GG h ws U L c tl cl
 ls:S.length=mk.length
 lr:rm.length=mk.length
 lm:mk.length<=U
 ln:L.length<=6*U
 at_:∀(k:Nat)(s:List aS×List bD),S[k]? = some s->y7 s.1 s.2 c tl/\mk[k]? = some ⟨(s.1.length:Int),(s.2.length:Int)⟩/\∃xH,rm[k]? = some ⟨(s.1.length:Int),xH⟩/\GG h ws U (L.take s.1.length) s.1 s.2 xH
 nest:∀(j k:Nat)(s s':List aS×List bD),j<=k->S[j]? = some s->S[k]? = some s'->y7 s.1 s.2 s'.1 s'.2
def qh(h:cY)(ws:List Nat)(U:Nat)(c:List aS)(tl:List bD)(mk:List c9)(L:List aN)(cl:List Int)(rm:List pE):Prop:=∃S,HS h ws U c tl mk L cl rm S
theorem GG.len{h:cY}{ws:List Nat}{U:Nat}{L:List aN}{c:List aS}{tl:List bD}{cl:List Int}(p:GG h ws U L c tl cl):c.length=L.length/\cl.length=L.length/\tl.length<=24*L.length+2*U:=by
 obtain⟨aA,d,r,D,p⟩:=p;have:=p.bt;exact⟨p.hp.len,p.ck.len,by omega⟩
variable{h:cY}
variable{ws:List Nat}
variable{c:List aS}
variable{tl:List bD}
variable{mk:List c9}
variable{L:List aN}
variable{cl:List Int}
variable{rm:List pE}
theorem YA{U:Nat}{c':List aS}{kR:List bD}{L':List aN}{cl':List Int}{S:List (List aS×List bD)}(p:HS h ws U c tl mk L cl rm S)(pt:GG h ws (U+1) L' c' kR cl')(ha:y7 c tl c' kR)(hL:∃t,L'=L++t)(Kj:L'.length<=L.length+6):HS h ws (U+1) c' kR mk L' cl' rm S where
 pt:=pt
 ls:=p.ls
 lr:=p.lr
 lm:=by have:=p.lm;omega
 ln:=by have:=p.ln;omega
 at_ k s hs:=by obtain⟨h1,h2,xH,h3,h4⟩:=p.at_ k s hs;obtain⟨t,rfl⟩:=hL;have l1:=p.pt.len.1;have l2:=h1.le;refine⟨h1.trans ha,h2,xH,h3,?_⟩;rw[List.take_append_of_le_length (by omega)];exact h4.up (by omega)
 nest:=p.nest
theorem qxk(c:List aS)(tl:List bD)(t:List aS):y7 c tl (c++t) tl:=⟨⟨[],by simp,(fun x hx=>by cases hx),by simp[qI]⟩,by simp⟩
theorem GQ.two{f:GFS}(hf:GQ h f):∀x∈f.Nodes,x.Arcs.length<=12/\∀a∈x.Arcs,0<=a.To/\a.To<1000:=fun x hx=>⟨hf.sm.arcs x hx,hf.to x hx⟩
theorem aq{U:Nat}{S:List (List aS×List bD)}(p:HS h ws U c tl mk L cl rm S):
  HS h ws (U+1) c tl (mk++[⟨(c.length:Int),(tl.length:Int)⟩]) L cl (rm++[⟨(L.length:Int),cl⟩]) (S++[(c,tl)]) where
 pt:=p.pt.up (by omega)
 ls:=by simp[p.ls]
 lr:=by simp[p.lr]
 lm:=by have:=p.lm;simp;omega
 ln:=by have:=p.ln;omega
 at_ k s hs:=by
  have l1:=p.pt.len.1;rcases J4 hs with⟨h1,h2⟩|⟨h1,h2⟩;obtain⟨g1,g2,xH,g3,g4⟩:=p.at_ k s h2;have:=p.ls;have:=p.lr;exact⟨g1,by rw[List.getElem?_append_left (by omega)];exact g2,xH,by rw[List.getElem?_append_left (by omega)];exact g3,g4.up (by omega)⟩;have hk:k=S.length:=by have:=(zG.1 h2).1;simp at this;omega
  subst hk;rw[Nat.sub_self]at h2;simp at h2;subst h2;refine⟨y7.refl c tl,by rw[p.ls,List.getElem?_append_right (zF _),Nat.sub_self];rfl,cl,by rw[p.ls,<-p.lr,List.getElem?_append_right (zF _),Nat.sub_self,<-l1];rfl,?_⟩;show GG h ws (U+1) (L.take c.length) c tl cl;rw[l1,List.take_length];exact p.pt.up (by omega)
 nest j k s s' nK hj hk:=by
  rcases J4 hk with⟨h1,h2⟩|⟨h1,h2⟩;rw[List.getElem?_append_left (by omega)]at hj;exact p.nest j k s s' nK hj h2;have rZ:k=S.length:=by have:=(zG.1 h2).1;simp at this;omega
  subst rZ;rw[Nat.sub_self]at h2;simp at h2;subst h2;rcases J4 hj with⟨h3,h4⟩|⟨h3,h4⟩;exact(p.at_ j s h4).1;have:j=S.length:=by omega
  subst this;rw[Nat.sub_self]at h4;simp at h4;subst h4;exact y7.refl c tl
theorem zb0{U:Nat}{S:List (List aS×List bD)}(p:HS h ws U c tl mk L cl rm S){k:Nat}{s:List aS×List bD}(hs:S[k]? = some s){xH:List Int}(hrm:rm[k]? = some ⟨(s.1.length:Int),xH⟩):
  HS h ws U s.1 s.2 (mk.take (k+1)) (L.take s.1.length) xH (rm.take (k+1)) (S.take (k+1)):=by
 obtain⟨g1,g2,cl1,g3,g4⟩:=p.at_ k s hs;rw[hrm]at g3;cases g3;have hk:=(zG.1 hs).1;have l1:=p.ls;have l2:=p.lr;have l3:=p.lm;have l4:=p.ln;have tk:∀{O:Type}{l:List O}{j:Nat}{x:O},(l.take (k+1))[j]? = some x->j<=k/\l[j]? = some x:=fun{O l j x} hj=>by have aE:=(zG.1 hj).1;rw[List.length_take]at aE;exact⟨by omega,by rw[List.getElem?_take_of_lt (by omega)]at hj;exact hj⟩
 refine⟨g4,by simp only[List.length_take];omega,by simp only[List.length_take];omega,by simp only[List.length_take];omega,by simp only[List.length_take];omega,fun j s' hj=>?_,fun i j s' s'' lS hi hj=>p.nest i j s' s'' lS (tk hi).2 (tk hj).2⟩;obtain⟨nK,DN⟩:=tk hj;obtain⟨q1,q2,cl2,q3,q4⟩:=p.at_ j s' DN;have hn:=p.nest j k s' s nK DN hs;refine⟨hn,by rw[List.getElem?_take_of_lt (by omega)];exact q2,cl2,by rw[List.getElem?_take_of_lt (by omega)];exact q3,?_⟩;rw[List.take_take,Nat.min_eq_left hn.le];exact q4
theorem ay:∀(tl:List bD)(c:List aS),(qI tl c).length=c.length
 |[],c=>rfl|x::tl,c=>by have e:qI (x::tl) c=(qI tl c).set x.atx.toNat x.old:=rfl;rw[e,List.length_set,ay tl c]
theorem ak{p1:List dH}{p2:List dZ}{c:List aS}{tl:List bD}{mk:List c9}(hm:mk.length<=1000)(n t:Nat):MW n p1 p2 c tl mk t=some ((mk.length:Int),mk++[⟨(c.length:Int),(tl.length:Int)⟩],t+1):=by
 have hw:IntKind.i64.wrap (((mk++[(c9.mk (c.length:Int) (tl.length:Int))]).length:Int)-1)=(mk.length:Int):=by rw[zU];simp only[zO,zS];exact EA (by omega) (by omega)
 rw[MW,fG (by omega),hw]
theorem z8f{h:cY}{L:List aN}{cl:List Int}{rm:List pE}(hm:rm.length<=1000)(n:Nat):Pr n ⟨h,L,cl,rm⟩=some (⟨h,L,cl,rm++[⟨(L.length:Int),cl⟩]⟩,(rm.length:Int)):=by
 rw[Pr,fG (by show rm.length*32<=_/\rm.length<=_;omega),fG (by show(rm.length+1)*32<=_/\rm.length+1<=_;omega)]
section
variable{h:cY}{ws:List Nat}{U:Nat}{c:List aS}{tl:List bD}{mk:List c9}{L:List aN}{cl:List Int}{rm:List pE}{S:List (List aS×List bD)}
variable{a:Int}
variable{n:Nat}
theorem z62(p:HS h ws U c tl mk L cl rm S)(hU:U<=60)(ha:0<=a/\a<(mk.length:Int))(hn:3000000<=n):∃s xH,S[a.toNat]? = some s/\rm[a.toNat]? = some ⟨(s.1.length:Int),xH⟩/\
  HF n a h.Types h.Feats c tl mk=some (true,s.1,s.2,mk.take (a.toNat+1))/\SQ n ⟨h,L,cl,rm⟩ a=some (⟨h,L.take s.1.length,xH,rm.take (a.toNat+1)⟩,true):=by
 have l1:=p.ls;have l2:=p.lr;have l3:=p.lm;have l4:=p.ln;obtain⟨q1,q2,q3⟩:=p.pt.len;obtain⟨s,hs,_⟩:=eM (l:=S) (show a.toNat<S.length by omega);obtain⟨g1,g2,xH,g3,g4⟩:=p.at_ _ s hs;obtain⟨kR,e1,e2,e3⟩:=g1.ex;have rY:=g1.le;have ea:a=((a.toNat:Nat):Int):=by omega
 have hw:IntKind.i64.wrap (a+1)=((a.toNat+1:Nat):Int):=EA (by omega) (by omega);have b1:decide (a<0)=false:=by simp;omega
 have b2:decide (a>=(mk.length:Int))=false:=by simp only[decide_eq_false_iff_not];omega
 have b3:decide (a>=(rm.length:Int))=false:=by simp only[decide_eq_false_iff_not];omega
 have i1:aB mk a=some ⟨(s.1.length:Int),(s.2.length:Int)⟩:=by rw[ea,cK];exact g2
 have i2:aB rm a=some ⟨(s.1.length:Int),xH⟩:=by rw[ea,cK];exact g3
 have DF:tl.length=s.2.length+kR.length:=by rw[e1,zU]
 have hb:=th (p7:=s.2) (by omega) n kR c (by omega) (by omega) rfl e2;rw[<-e1]at hb;refine⟨s,xH,hs,g3,?_,?_⟩;simp only[HF,b1,b2,zD,aO,i1,Je,hb,hw,zZ,e3];rw[fG (by rw[ay];omega),fG (by rw[ay];omega),fG (by omega),fG (by omega)];have c1:sQ L 0 (s.1.length:Int)=some (L.take s.1.length):=by rw[sQ,if_pos (by omega)];simp
 have c2:sQ rm 0 ((a.toNat+1:Nat):Int)=some (rm.take (a.toNat+1)):=by rw[sQ,if_pos (by omega)];simp only[zZ,Int.toNat_zero,List.drop_zero]
 simp only[SQ,b1,b3,zD,aO,i2,c1,hw,c2];rw[fG (by simp only[List.length_take];omega),fG (by simp only[List.length_take];omega)]
theorem qzn(hl:rm.length=mk.length)(ha:¬ (0<=a/\a<(mk.length:Int))):HF n a h.Types h.Feats c tl mk=some (false,c,tl,mk)/\SQ n ⟨h,L,cl,rm⟩ a=some (⟨h,L,cl,rm⟩,false):=by
 by_cases h1:a<0;have b1:decide (a<0)=true:=decide_eq_true h1;exact⟨by simp only[HF,b1,zC,aO],by simp only[SQ,b1,zC,aO]⟩;have b1:decide (a<0)=false:=decide_eq_false h1;have b2:decide (a>=(mk.length:Int))=true:=decide_eq_true (by omega);have b3:decide (a>=(rm.length:Int))=true:=decide_eq_true (by omega);exact⟨by simp only[HF,b1,b2,zC,zD,aO],by simp only[SQ,b1,b3,zC,zD,aO]⟩
theorem z2o{f:GFS}(hf:d6 f 1000)(hn:3000000<=n):HD n f f=some true:=by
 rw[du hf hf hn,fq.2 rfl];rfl
theorem z89(ha:¬ (0<=a/\a<(c.length:Int))):BW n a h.Types h.Feats c tl mk=some (⟨[]⟩,false):=by
 by_cases h1:a<0;have b1:decide (a<0)=true:=decide_eq_true h1;simp only[BW,b1,zC,aO];have b1:decide (a<0)=false:=decide_eq_false h1;have b2:decide (a>=(c.length:Int))=true:=decide_eq_true (by omega);simp only[BW,b1,b2,zC,zD,aO]
theorem z5h(ha:¬ (0<=a/\a<(L.length:Int))):SR n ⟨h,L,cl,rm⟩ a=some (⟨[]⟩,false):=by
 simp only[SR,dw,aO,decide_eq_false ha,Bool.not_false,zC]
theorem Zk(hh:pD h ws)(p:HS h ws U c tl mk L cl rm S)(hU:U<=47){o:nM}(ho:o.Kind=0->GQ h o.F/\o.F.Nodes.length<=6)(hn:3000000<=n)(t5 t7 t9:Nat):
  ∃c' kR mk' L' cl' rm' zi zg ze,YT n ⟨h,L,cl,rm⟩ o h.Types h.Feats c t5 tl t7 mk t9=some (⟨h,L',cl',rm'⟩,true,c',zi,kR,zg,mk',ze)/\qh h ws (U+1) c' kR mk' L' cl' rm':=by
 have l3:=p.lm;have l4:=p.ln;have l2:=p.lr;obtain⟨q1,q2,q3⟩:=p.pt.len;unfold YT;by_cases k0:o.Kind=0;obtain⟨hf,hf6⟩:=ho k0;have e0:(o.Kind==0)=true:=by simp[k0]
 have r1:=z8e (p1:=⟨h,L,cl,rm⟩) (f:=o.F) q2 (by show L.length<=900;omega) (by omega) hf.two (n:=n) (by omega);have r2:=Oh hf.sm hf.to (p4:=c) (by omega) (n:=n) (by omega) t5 h.Types h.Feats tl mk;simp only[e0,zC,r1,aO,r2];have Bg:=z4u hh p.pt hf;rw[<-q1]at Bg;have e1:((c.length:Int)==(L.length:Int))=true:=by rw[q1];simp
 rw[e1];refine⟨_,_,_,_,_,_,_,_,_,rfl,S,?_⟩;rw[<-q1];exact YA p (Bg.up (by omega)) (qxk c tl _) ⟨_,rfl⟩ (by simp only[zU,yA];omega);have e0:(o.Kind==0)=false:=by simp[k0]
 rw[e0,zD];by_cases k1:o.Kind=1;have e1:(o.Kind==1)=true:=by simp[k1]
 obtain⟨ok,c',kR,cl',t',u1,u2,u3,u4,u5⟩:=qz2 hh p.pt (by omega) (by omega) hn o.A o.B mk rm t7;simp only[e1,zC,u2,aO,u1];have e2:(ok==ok)=true:=by simp
 rw[e2];exact⟨_,_,_,_,_,_,_,_,_,rfl,S,YA p u3 u4 ⟨[],by simp⟩ (by omega)⟩;have e1:(o.Kind==1)=false:=by simp[k1]
 rw[e1,zD];by_cases k2:o.Kind=2;have e2:(o.Kind==2)=true:=by simp[k2]
 have m1:=ak (p1:=h.Types) (p2:=h.Feats) (c:=c) (tl:=tl) (mk:=mk) (by omega) n t9;have m2:=z8f (h:=h) (L:=L) (cl:=cl) (rm:=rm) (by omega) n;simp only[e2,zC,m2,aO,m1];have e3:((mk.length:Int)==(rm.length:Int))=true:=by rw[l2];simp
 rw[e3];exact⟨_,_,_,_,_,_,_,_,_,rfl,_,aq p⟩;have e2:(o.Kind==2)=false:=by simp[k2]
 rw[e2,zD];have same:qh h ws (U+1) c tl mk L cl rm:=⟨S,YA p (p.pt.up (by omega)) (y7.refl c tl) ⟨[],by simp⟩ (by omega)⟩;by_cases k3:o.Kind=3;have e3:(o.Kind==3)=true:=by simp[k3]
 by_cases ha:0<=o.A/\o.A<(mk.length:Int);obtain⟨s,xH,s1,s2,u1,u2⟩:=z62 p (by omega) ha hn;simp only[e3,zC,u2,aO,u1];have e4:(true==true)=true:=rfl;rw[e4];refine⟨_,_,_,_,_,_,_,_,_,rfl,S.take (o.A.toNat+1),?_⟩;have hu:=zb0 p s1 s2;exact YA hu (hu.pt.up (by omega)) (y7.refl _ _) ⟨[],by simp⟩ (by omega);obtain⟨u1,u2⟩:=qzn (h:=h) (c:=c) (tl:=tl) (L:=L) (cl:=cl) l2 ha (n:=n);simp only[e3,zC,u2,aO,u1];have e4:(false==false)=true:=rfl;rw[e4];exact⟨_,_,_,_,_,_,_,_,_,rfl,same⟩;have e3:(o.Kind==3)=false:=by simp[k3]
 rw[e3,zD];by_cases ha:0<=o.A/\o.A<(L.length:Int);obtain⟨aA,d,r,D,pp⟩:=p.pt;obtain⟨s1,s2,s3⟩:=z4v hh pp (by omega) (by omega) (n:=n) (by omega) ha tl mk rm;simp only[s2,s3,aO,z2o s1 hn];have e4:(true==true)=true:=rfl;rw[e4];exact⟨_,_,_,_,_,_,_,_,_,rfl,same⟩;have s2:=z89 (h:=h) (tl:=tl) (mk:=mk) (c:=c) (by rw[q1];exact ha) (n:=n);have s3:=z5h (h:=h) (cl:=cl) (rm:=rm) ha (n:=n);have s1:d6 ⟨[]⟩ 1000:=⟨by simp,fun x hx=>by cases hx⟩;simp only[s2,s3,aO,z2o s1 hn];have e4:(false==false)=true:=rfl;rw[e4];exact⟨_,_,_,_,_,_,_,_,_,rfl,same⟩
end
def QX(h:cY)(o:nM):Prop:=o.Kind=0->GQ h o.F/\o.F.Nodes.length<=6
theorem z3u{h:cY}{l:List nM}(hl:l.length<=9223372036854775807){n:Nat}(hn:3000000<=n):∀(m i:Nat),l.length-i<m->i<=l.length->∃b,Iq h l n m (i:Int)=some b/\(b=true->l.length<=16/\∀o∈l.drop i,QX h o)
 |0,i,hm,_=>by omega
 |m+1,i,hm,hi=>by
  unfold Iq;by_cases aE:i<l.length;obtain⟨o,ho,_⟩:=eM aE;simp only[hH aE,zC,cK,ho,aO,iU aE hl];obtain⟨b,g1,g2⟩:=z3u (h:=h) hl hn m (i+1) (by omega) (by omega);by_cases k0:o.Kind=0;have e0:(o.Kind==0)=true:=by simp[k0]
  by_cases h6:(o.F.Nodes.length:Int)>6;simp only[e0,zC,decide_eq_true h6,aO];exact⟨false,rfl,fun q=>by cases q⟩;obtain⟨b2,f1,f2⟩:=zaw h (l:=[o.F]) (by simp) hn;simp only[e0,zC,decide_eq_false h6,zD,f1,aO];rcases b2 with _|_;exact⟨false,rfl,fun q=>by cases q⟩;simp only[Bool.not_true,zD,g1];refine⟨b,rfl,fun q=>⟨(g2 q).1,fun x hx=>?_⟩⟩;rw[aW ho]at hx;rcases zI.1 hx with rfl |hx;exact fun _=>⟨f2 rfl _ (by simp),by omega⟩
  exact(g2 q).2 x hx;have e0:(o.Kind==0)=false:=by simp[k0]
  simp only[e0,zD,aO,g1];refine⟨b,rfl,fun q=>⟨(g2 q).1,fun x hx=>?_⟩⟩;rw[aW ho]at hx;rcases zI.1 hx with rfl |hx;exact fun q=>absurd q k0
  exact(g2 q).2 x hx;simp only[iF aE,zD,mp];exact⟨_,rfl,fun q=>⟨by have:=of_decide_eq_true q;omega,fun x hx=>by rw[bT aE]at hx;cases hx⟩⟩
theorem vV(h:cY){l:List nM}(hl:l.length<=9223372036854775807){n:Nat}(hn:3000000+l.length<=n):∃b,Qv n h l=some b/\(b=true->l.length<=16/\∀o∈l,QX h o):=by
 have:=z3u (h:=h) hl (n:=n) (by omega) n 0 (by omega) (by omega);rw[zV,List.drop_zero]at this;exact this
theorem zaz{h:cY}{ws:List Nat}:qh h ws 0 [] [] [] [] [] []:=⟨[],⟨⟨id,(fun _=>0),id,0,⟨rfl,fun j x a hj=>by simp at hj⟩,(fun x hx=>by cases hx),(fun x hx=>by cases hx),mO.init rfl (fun c hc=>by cases hc),⟨fun j x a hj=>by simp at hj,fun i b hi=>by simp at hi,fun i hi=>by simp at hi⟩,⟨rfl,fun i hi=>by simp at hi,fun i hi=>zF _,fun i hi=>rfl⟩,fun i j hi=>by simp at hi,by simp[tot],by simp[tot]⟩,rfl,rfl,by simp,by simp,fun k s hs=>by simp at hs,fun j k s s' _ hj=>by simp at hj⟩⟩
section
variable{h:cY}{ws:List Nat}{U:Nat}{c:List aS}{tl:List bD}{mk:List c9}{L:List aN}{cl:List Int}{rm:List pE}
end
theorem qz1{h:cY}{ws:List Nat}(hh:pD h ws){l:List nM}(hl:l.length<=16)(nV:∀o∈l,QX h o){n:Nat}(hn:3000000<=n):∀(m i:Nat)(c:List aS)(tl:List bD)(mk:List c9)(L:List aN)(cl:List Int)(rm:List pE)(t1 t2 t3:Nat),l.length-i<m->i<=l.length->qh h ws i c tl mk L cl rm->
  ∃c' kR mk' L' cl' rm' E' B' A',Jg l n (h.Types,h.Feats) m (i:Int) mk t1 tl t2 c t3 h.Types h.Feats L cl rm=some (h.Types,h.Feats,c',A',kR,B',mk',E')/\qh h ws l.length c' kR mk' L' cl' rm'
 |0,i,c,tl,mk,L,cl,rm,t1,t2,t3,hm,_,_=>by omega
 |m+1,i,c,tl,mk,L,cl,rm,t1,t2,t3,hm,hi,p=>by
  unfold Jg;by_cases aE:i<l.length;obtain⟨o,ho,l?⟩:=eM aE;obtain⟨S,p⟩:=p;obtain⟨c',kR,mk',L',cl',rm',zi,zg,ze,d1,d2⟩:=Zk hh p (by omega) (nV o l?) hn t3 t2 t1;have e1:YT n (gK.mk (cY.mk h.Types h.Feats) L cl rm) o h.Types h.Feats c t3 tl t2 mk t1=some (⟨h,L',cl',rm'⟩,true,c',zi,kR,zg,mk',ze):=d1;simp only[hH aE,zC,cK,ho,aO,e1,iU aE (show l.length<=9223372036854775807 by omega)];exact qz1 hh hl nV hn m (i+1) c' kR mk' L' cl' rm' ze zg zi (by omega) (by omega) d2;have:i=l.length:=by omega
  subst this;simp only[iF aE,zD,sg];exact⟨_,_,_,_,_,_,_,_,_,rfl,p⟩
section
variable{h:cY}{ws:List Nat}{c0:List aS}{tV:List bD}{mk1:List c9}
theorem za9(hh:pD h ws){l:List nM}(hl:l.length<=16)(nV:∀o∈l,QX h o){n:Nat}(hn:3000000<=n){r16:(List dH)×(List dZ)×(List aS)×Nat×(List bD)×Nat×(List c9)×Nat}(h1:r16.1=h.Types)(h2:r16.2.1=h.Feats){hX:List GFS}{r22:Int×(List c9)×Nat}{k:Nat}(h3:r22.1=(k:Int))(hk:k<=1000)
  (Bt:mk1.length=k+1) (hv:Iw n h.Types h.Feats c0 tV mk1=some hX) (hs:Z4 n hX hX=some true) (mZ:Int) (bV:Int->(List c9)->Nat->(List bD)->Nat->(List aS)->Nat->Option Bool):
  ∀(m i:Nat)(c:List aS)(tl:List bD)(mk:List c9)(L:List aN)(cl:List Int)(rm:List pE)(S:List (List aS×List bD))(t1 t2 t3:Nat),l.length-i<m->i<=l.length->HS h ws (17+i) c tl mk L cl rm S->S[k]? = some (c0,tV)->mk.take (k+1)=mk1->
  ∃E' B' A',HG l n r16 hX r22 mZ bV m (i:Int) mk t1 tl t2 c t3=bV (IntKind.i64.wrap (mZ+1)) mk1 E' tV B' c0 A'
 |0,i,c,tl,mk,L,cl,rm,S,t1,t2,t3,hm,_,_,_,_=>by omega
 |m+1,i,c,tl,mk,L,cl,rm,S,t1,t2,t3,hm,hi,p,pS,pm=>by
  have l1:=p.ls;have l2:=p.lr;have l3:=p.lm;have l4:=p.ln;obtain⟨q1,q2,q3⟩:=p.pt.len;have hSk:=(zG.1 pS).1;unfold HG;by_cases aE:i<l.length;obtain⟨o,ho,l?⟩:=eM aE;have ih:=fun c tl mk L cl rm S t1 t2 t3=>za9 hh hl nV hn h1 h2 h3 hk Bt hv hs mZ bV m (i+1) c tl mk L cl rm S t1 t2 t3 (by omega) (by omega);have hw:=iU aE (show l.length<=9223372036854775807 by omega);simp only[hH aE,zC,cK,ho,aO,h1,h2];by_cases k0:o.Kind=0;obtain⟨hf,hf6⟩:=nV o l? k0;have e0:(o.Kind==0)=true:=by simp[k0]
  have r2:=Oh hf.sm hf.to (p4:=c) (by omega) (n:=n) (by omega) t3 h.Types h.Feats tl mk;have Bg:=z4u hh p.pt hf;rw[<-q1]at Bg;simp only[e0,zC,r2,aO,TF,hw];exact ih _ _ _ _ _ _ _ _ _ _ (YA (U:=17+i) p (Bg.up (U':=17+i+1) (by omega)) (qxk c tl _) ⟨_,rfl⟩ (by simp only[zU,yA];omega)) pS pm;have e0:(o.Kind==0)=false:=by simp[k0]
  rw[e0,zD];by_cases k1:o.Kind=1;have e1:(o.Kind==1)=true:=by simp[k1]
  obtain⟨ok,c',kR,cl',t',u1,u2,u3,u4,u5⟩:=qz2 hh p.pt (by omega) (by omega) hn o.A o.B mk rm t2;simp only[e1,zC,aO,u1,ZN,TF,hw];exact ih _ _ _ _ _ _ _ _ _ _ (YA p u3 u4 ⟨[],by simp⟩ (by omega)) pS pm;have e1:(o.Kind==1)=false:=by simp[k1]
  rw[e1,zD];by_cases k2:o.Kind=2;have e2:(o.Kind==2)=true:=by simp[k2]
  have m1:=ak (p1:=h.Types) (p2:=h.Feats) (c:=c) (tl:=tl) (mk:=mk) (by omega) n t1;simp only[e2,zC,aO,m1,Jk,ZN,TF,hw];exact ih _ _ _ _ _ _ _ _ _ _ (aq p) (by rw[List.getElem?_append_left hSk];exact pS) (by rw[List.take_append_of_le_length (by omega)];exact pm);have e2:(o.Kind==2)=false:=by simp[k2]
  simp only[e2,zD,Jk,ZN,TF,hw];exact ih _ _ _ _ _ _ _ _ _ _ (YA (U:=17+i) p (p.pt.up (U':=17+i+1) (by omega)) (y7.refl c tl) ⟨[],by simp⟩ (by omega)) pS pm;have ha:0<=(k:Int)/\(k:Int)<(mk.length:Int):=by omega
  obtain⟨s,xH,s1,s2,u1,u2⟩:=z62 p (by omega) ha hn;rw[zZ]at s1 u1;rw[pS]at s1;cases s1;rw[pm]at u1;have hw:IntKind.i64.wrap ((k:Int)+1)=((k+1:Nat):Int):=EA (by omega) (by omega);obtain⟨u3,_⟩:=qzn (h:=h) (c:=c0) (tl:=tV) (mk:=mk1) (L:=L) (cl:=cl) (rm:=rm.take (k+1)) (a:=((k+1:Nat):Int)) (by rw[List.length_take];omega) (by omega) (n:=n);simp only[iF aE,zD,sj,h1,h2,h3,u1,aO,Bool.not_true,hv,hs,hw,u3];exact⟨_,_,_,rfl⟩
theorem z1a(d:List bL)(a b:List nM)(ha:a.length<=9223372036854775807)(hb:b.length<=9223372036854775807){n:Nat}(hn:3000000+a.length+b.length<=n):sb n d a b=some true:=by
 have A5:=ex12 (show 200<=n by omega);obtain⟨h,ws,e1,hh⟩:=zay d (n:=n) (by omega);obtain⟨x,e2,e3⟩:=vV h ha (n:=n) (by omega);obtain⟨y,e4,e5⟩:=vV h hb (n:=n) (by omega);simp only[sb,e1,aO,e2];rcases x with _|_;simp only[Bool.not_false,zC,aO,A5];simp only[Bool.not_true,zD,e4,aO];rcases y with _|_;simp only[Bool.not_false,zC,aO,A5];obtain⟨a16,aop⟩:=e3 rfl;obtain⟨QU,bop⟩:=e5 rfl;obtain⟨c0,tV,uF,L0,xH,rm0,t1,t2,t3,g1,S,p⟩:=qz1 hh a16 aop (n:=n) (by omega) n 0 [] [] [] [] [] [] 0 0 0 (by omega) (by omega) zaz;rw[zV]at g1;have g2:Su n h a=some (h.Types,h.Feats,c0,t3,tV,t2,uF,t1):=by simp only[Su,Qy,jb,aO];exact g1
 have l1:=p.ls;have l2:=p.lr;have l3:=p.lm;have l4:=p.ln;have p17:HS h ws 16 c0 tV uF L0 xH rm0 S:=by have:=p.pt.up (U':=16) (by omega);exact⟨this,p.ls,p.lr,by omega,by omega,fun k s hs=>by obtain⟨q1,q2,cl1,q3,q4⟩:=p.at_ k s hs;exact⟨q1,q2,cl1,q3,q4.up (by omega)⟩,p.nest⟩
 have hm:=aq p17;obtain⟨aA,d',r,D,pp⟩:=hm.pt;have gO:=pp.bd;have Kj:=hm.ln;have hv:=zbz pp.hp (n:=n) (by omega) (by omega) (by omega) (by omega) h.Types h.Feats;have hs:Z4 n (ES n c0 aA L0.length) (ES n c0 aA L0.length)=some true:=zbq (fun f hf=>by obtain⟨i,hi,rfl⟩:=List.mem_map.1 hf;rw[List.mem_range]at hi;exact(z4v hh pp (by omega) (by omega) (n:=n) (by omega) (v:=(i:Int)) ⟨by omega,by omega⟩ tV uF rm0).1) (by simp[ES];omega) (by omega);have m1:=ak (p1:=h.Types) (p2:=h.Feats) (c:=c0) (tl:=tV) (mk:=uF) (by omega) n t1;simp only[zD,g2,aO,hv,m1];have hSk:(S++[(c0,tV)])[uF.length]? = some (c0,tV):=by rw[List.getElem?_append_right (by omega),l1,Nat.sub_self];rfl
 have s?:(uF++[(c9.mk (c0.length:Int) (tV.length:Int))]).take (uF.length+1)=uF++[⟨(c0.length:Int),(tV.length:Int)⟩]:=zW (by simp);have key:=fun r16 h1 h2 r22 h3 mZ bV t1 t2 t3=>za9 (r16:=r16) (r22:=r22) hh QU bop (n:=n) (by omega) h1 h2 h3 (show uF.length<=1000 by omega) (mk1:=uF++[⟨(c0.length:Int),(tV.length:Int)⟩]) (by simp) (hv _ _) hs mZ bV n 0 _ _ _ _ _ _ _ t1 t2 t3 (by omega) (by omega) hm hSk s?;obtain⟨n',rfl⟩:∃n',n=n'+3:=⟨n-3,by omega⟩;have d0:decide ((0:Int)<2)=true:=by decide
 have d1:decide ((1:Int)<2)=true:=by decide
 have d2:decide ((2:Int)<2)=false:=by decide
 have w0:IntKind.i64.wrap ((0:Int)+1)=1:=by decide
 have w1:IntKind.i64.wrap ((1:Int)+1)=2:=by decide
 unfold DA;rw[d0,zC];obtain⟨a1,a2,a3,k1⟩:=key (h.Types,h.Feats,c0,t3,tV,t2,uF,t1) rfl rfl ((uF.length:Int),uF++[⟨(c0.length:Int),(tV.length:Int)⟩],t1+1) rfl 0 (DA b (n'+3) (h.Types,h.Feats,c0,t3,tV,t2,uF,t1) (ES (n'+3) c0 aA L0.length) ((uF.length:Int),uF++[⟨(c0.length:Int),(tV.length:Int)⟩],t1+1) (n'+2)) (t1+1) t2 t3;rw[zV,w0]at k1;rw[k1];unfold DA;rw[d1,zC];obtain⟨b1,b2,b3,k2⟩:=key (h.Types,h.Feats,c0,t3,tV,t2,uF,t1) rfl rfl ((uF.length:Int),uF++[⟨(c0.length:Int),(tV.length:Int)⟩],t1+1) rfl 1 (DA b (n'+3) (h.Types,h.Feats,c0,t3,tV,t2,uF,t1) (ES (n'+3) c0 aA L0.length) ((uF.length:Int),uF++[⟨(c0.length:Int),(tV.length:Int)⟩],t1+1) (n'+1)) a1 a2 a3;rw[zV,w1]at k2;rw[k2];unfold DA;rw[d2,zD];simp only[sk,A5,aO];rfl
end
end Go.Proofs
