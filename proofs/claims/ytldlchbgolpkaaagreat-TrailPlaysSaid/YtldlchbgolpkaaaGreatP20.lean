import Derived.Test.YtldlchbgolpkaaaGreatP19
set_option linter.all false
namespace Go.Proofs
open Go Go.Rx Go.Vx
set_option maxRecDepth 10000
variable{N:Nat}
variable{L:List aI}
variable{r:Nat->Nat}
theorem CD.clo{W:List (Int×Int)}{r':Nat->Nat}{out:List Int}{C:List aO}(hL:uH N [] L)(h:CD N L W r out C r'):AS L r':=fun i j x y a b hi hj e ha hb hf=>by
 obtain⟨a',p1,p2,p3⟩:=h.tc.cov i x a hi ha;obtain⟨b',q1,q2,q3⟩:=h.tc.cov j y b hj hb;have il:=(zG.1 hi).1;rw[hL.len]at il;rw[<-e]at q1;have:a'=b':=(h.ds _ (h.ck.lt il)).eq a' p1 b' q1 (by omega);subst this;have e1:=p3 r' (fun _ _ _ _ e=>e) (fun _ hz=>by cases hz);have e2:=q3 r' (fun _ _ _ _ e=>e) (fun _ hz=>by cases hz);omega
variable{i:Nat}
theorem zb4(h:i<N):(pT 0 N)[i]? = some (i:Int):=by simp[pT,h]
def tdo(r:Nat->Nat)(i:Nat):List fE:=((List.range i).filter fun(j:Nat)=>r j != j).map fun(j:Nat)=>⟨(j:Int),(r j:Int)⟩
theorem Mb{α:Type}{l:List α}(hi:i<N){x:α}(hx:l[i]? = some x):jR l 0 N (i:Int)=some x:=by have:=Ma hi hx;rwa [zZ]at this
theorem z83(r:Nat->Nat)(i:Nat):tdo r (i+1)=tdo r i++(if r i=i then[]else[⟨(i:Int),(r i:Int)⟩]):=by
 simp only[tdo,List.range_succ,List.filter_append,List.map_append];by_cases e:r i=i;rw[if_pos e];simp[e];rw[if_neg e];simp[e]
theorem ym(r:Nat->Nat)(i:Nat):(tdo r i).length<=i:=by
 have:=List.length_filter_le (fun(j:Nat)=>r j != j) (List.range i);simpa[tdo]using this
theorem vz{N:Nat}{L:List aI}{cl r3:List Int}{r:Nat->Nat}(hLl:L.length=N)(hN:N<=1000)(h:CK N cl r){n:Nat}:∀(m i:Nat),N-i<m->i<=N->
  KI L cl n r3 m (i:Int) (tdo r i) ((L.take i).map aI.Arcs++List.replicate (N-i) [])=Di L n r3 (tdo r N) (L.map aI.Arcs)
 |0,i,hm,_=>by omega
 |m+1,i,hm,hi=>by
  unfold KI;have htl:=ym r i;by_cases hlt:i<N;have hltL:i<L.length:=by omega
  obtain⟨x,hx,_⟩:=dM hltL;have hw:IntKind.i64.wrap ((i:Int)+1)=((i+1:Nat):Int):=gI hlt (by omega);have hv:jR ((L.take i).map aI.Arcs++List.replicate (N-i) ([]:List aF)) 0 L.length (i:Int)=some []:=by refine Mb hltL ?_;rw[List.getElem?_append_right (by simp only[yA,List.length_take];omega)];simp only[yA,List.length_take,List.getElem?_replicate];rw[if_pos (by omega)]
  have hset:((L.take i).map aI.Arcs++List.replicate (N-i) ([]:List aF)).set i x.Arcs=(L.take (i+1)).map aI.Arcs++List.replicate (N-(i+1)) []:=by
   obtain⟨k,hk⟩:∃k,N-i=k+1:=⟨N-i-1,by omega⟩;rw[hk,show N-(i+1)=k by omega,gM hx,List.map_append,List.replicate_succ,List.set_append_right _ _ (by simp only[yA,List.length_take];omega)];have:i-((L.take i).map aI.Arcs).length=0:=by simp only[yA,List.length_take];omega
   rw[this];simp
  have ih:=vz (r3:=r3) hLl hN h (n:=n) m (i+1) (by omega) (by omega);simp only[fO hltL,zC,c6,hx,aL,hv,h.get i hlt,Dj,hw,zZ,hset];rw[z83]at ih;by_cases e:r i=i;have eb:((r i:Int) != (i:Int))=false:=by rw[e];simp
  rw[if_pos e,List.append_nil]at ih;rw[eb,zD,ih];have eb:((r i:Int) != (i:Int))=true:=by simp only[bne_iff_ne,ne_eq];omega
  rw[if_neg e]at ih;rw[eb,zC,dZ (by omega),ih];have:i=N:=by omega
  subst this;have hltL:¬ i<L.length:=by omega
  simp only[fX hltL,zD];rw[zW (by omega),Nat.sub_self,List.replicate_zero,List.append_nil]
def T4(x:aI):aO:=⟨-1,0,x.Arcs⟩
theorem Md{x:aI}(h:L[i]? = some x):celN (L.map T4) i=T4 x:=by simp[celN,h]
structure CR(N:Nat)(L:List aI)(r r':Nat->Nat)(out:List Int):Prop where
 ck:CK N out r'
 clo:AS L r'
 up:∀i j,i<N->j<N->r i=r j->r' i=r' j
 low:∀q,AS L q->(∀i j,i<N->j<N->r i=r j->q i=q j)->∀i j,i<N->j<N->r' i=r' j->q i=q j
variable{n:Nat}
theorem z6d(hL:uH N [] L)(hN:N<=1000)(hD:∀x∈L,jQ x.Arcs/\x.Arcs.length<=12){cl:List Int}(h:CK N cl r)(hn:200000<=n):∃out r',Bt n L cl=some out/\CR N L r r' out:=by
 have hLl:=hL.len;have htl:=ym r N;have hap:=z5z (N:=N) (by omega) (n:=n) (by omega);have l1:=vz (r3:=pT 0 N) hLl hN h (n:=n) n 0 (by omega) (by omega);rw[show tdo r 0=[]from rfl,List.take_zero,List.map_nil,List.nil_append,Nat.sub_zero,zV]at l1;have htot:tot (L.map T4)<=12*N:=by
  have:=Ua (cells:=L.map T4) fun c hc=>by obtain⟨x,hx,rfl⟩:=List.mem_map.1 hc;exact(hD x hx).2
  rwa [yA,hLl]at this
 have mem:∀{i:Nat},i<N->∃x,L[i]? = some x:=fun{i} hi=>⟨_,List.getElem?_eq_getElem (by omega)⟩;have hcs:CS N L ((tdo r N).map ua) (L.map aI.Arcs) (pT 0 N) (L.map T4) id:=⟨⟨Vq 0 N,fun i hi=>zb4 hi,fun _ _=>zF _,fun _ _=>rfl⟩,by simp[hLl],by simp[hLl],fun i hi _=>by
   obtain⟨x,hx⟩:=mem hi;rw[List.getElem?_map,hx,Md hx];rfl,fun i hi=>by
   obtain⟨x,hx⟩:=mem hi;rw[Md hx];exact(hD x (zX hx)).1,fun p hp=>by
   obtain⟨q,hq,rfl⟩:=List.mem_map.1 hp;obtain⟨j,hj,rfl⟩:=List.mem_map.1 hq;have:=List.mem_range.1 (List.mem_filter.1 hj).1;have:=h.lt this;simp only[ua];exact⟨by omega,by omega⟩,⟨fun j x a hj ha=>⟨a,by show a∈(celN _ j).arcs;rw[Md hj];exact ha,rfl,fun q _ _=>rfl⟩,fun i b hi _ hb=>by
   obtain⟨x,hx⟩:=mem hi;rw[Md hx]at hb;exact⟨i,x,hx,rfl,hb⟩,fun i hi _ k=>by
   obtain⟨x,hx⟩:=mem hi;have:dS [] (celN (L.map T4) i).kind=0:=by simp[dS]
   rw[this,Nat.zero_testBit];exact⟨fun e=>(by cases e),fun g=>(by have:=g i x hx rfl;simp[dS]at this)⟩⟩⟩
 obtain⟨out,C',r',g1,g2⟩:=Up hL hN hn n 0 (tdo r N) (L.map aI.Arcs) (pT 0 N) (L.map T4) id (by rw[List.drop_zero];exact hcs) (by omega) (by omega) (by omega);rw[List.drop_zero]at g2;rw[zV]at g1;refine⟨out,r',?_,g2.ck,g2.clo hL,fun i j hi hj e=>?_,fun q hq hu i j hi hj e=>?_⟩;rw[Bt,hLl,hap,aL,dZ (by omega),zZ,l1,Di,g1];have key:∀i,i<N->r' i=r' (r i):=fun i hi=>by by_cases e:r i=i;rw[e];have:=g2.prs ((i:Int),(r i:Int)) (List.mem_map.2 ⟨⟨(i:Int),(r i:Int)⟩,List.mem_map.2 ⟨i,List.mem_filter.2 ⟨List.mem_range.2 hi,by simpa using e⟩,rfl⟩,rfl⟩);simpa using this
 rw[key i hi,key j hj,e];refine(g2.und q hq ⟨fun i j _ _ e=>by rw[show i=j from e],fun p hp=>?_⟩).r i j hi hj e;obtain⟨z,hz,rfl⟩:=List.mem_map.1 hp;obtain⟨k,hk,rfl⟩:=List.mem_map.1 hz;have hkN:=List.mem_range.1 (List.mem_filter.1 hk).1;simp only[ua,zZ];exact hu k (r k) hkN (h.lt hkN) (h.idem k hkN).symm
theorem z4a{a b:Nat}(ha:a<4611686018427387904)(hb:b<4611686018427387904)(hn:5<=n):BX n (bt a) (bt b)=some (bt (a&&&b)):=by
 obtain⟨k,rfl⟩:=Nat.exists_eq_add_of_le' hn;by_cases h:a=0;subst h;rw[Nat.zero_and];have:=Lg (n:=k+5) hn;simp only[BX,IT,VU,zS,HB,this,aL];rfl;have h1:=IL (a:=a) (b:=b) (by omega) (by omega);have h2:=Lf (w:=a&&&b) (n:=k+5) hn;have e:BX (k+5) [(a:Int)] (bt b)=a7 (KB (k+5) (bt b) 0) fun dX=>aB ((0+1)*8<=140737488355328/\0+1<=140737488355328) (HB (k+5) [yN .u64 (a:Int) dX]):=rfl;rw[oI h,e,Vl,aL,dZ (by omega),HB,h1,h2];rfl
theorem yz{h:cA}{ws:List Nat}(hh:lU h ws){c:Nat}{n:Nat}(hn:5<=n):∀(m i:Nat),ws.length-i<m->i<=ws.length->(∀(k:Nat),k<i->ws[k]? ≠some c)->
  (c∈ws->∃k:Nat,PT h (bt c) n m (i:Int)=some ((k:Int),true)/\ws[k]? = some c)/\(c ∉ ws->PT h (bt c) n m (i:Int)=some (0,false))
 |0,i,hm,_,_=>by omega
 |m+1,i,hm,hi,hno=>by have hl:=hh.tl;have hln:=hh.len;unfold PT;by_cases hlt:i<ws.length;obtain⟨w,hw,hwm⟩:=dM hlt;obtain⟨t,ht,he⟩:=hh.at hw;simp only[hl,fO hlt,zC,c6,ht,aL,he,Wp hn,gI hlt (show ws.length<=9223372036854775807 by omega)];by_cases e:w=c;simp only[e,yC,zC];exact⟨fun _=>⟨i,rfl,by rw[hw,e]⟩,fun q=>absurd (e ▸ hwm) q⟩;simp only[e,yB,zD];exact yz hh hn m (i+1) (by omega) (by omega) (fun k hk=>by by_cases e2:k=i;subst e2;rw[hw];intro q;exact e (Option.some.inj q);exact hno k (by omega));simp only[hl,fX hlt,zD,Oz];refine⟨fun hc=>?_,fun _=>trivial⟩;obtain⟨q,hq⟩:=List.mem_iff_getElem?.1 hc;have:=(zG.1 hq).1;exact absurd hq (hno q (by omega))
theorem OF{h:cA}{ws:List Nat}(hh:lU h ws){s t:Int}(hs:0<=s/\s<(ws.length:Int))(ht:0<=t/\t<(ws.length:Int))(hn:2000<=n):
  ∃r,Bj n h s t=some r/\(r.2=false->dS ws s&&&dS ws t=0)/\(r.2=true->(0<=r.1/\r.1<(ws.length:Int))/\dS ws r.1=dS ws s&&&dS ws t):=by
 have c1:=EJ hs;have c2:=EJ ht;obtain⟨x,hx,ex⟩:=hh.at c1;obtain⟨y,hy,ey⟩:=hh.at c2;have m1:=zX c1;have m2:=zX c2;have hln:=hh.len;have i1:a8 h.Types s=some x:=by rw[show s=((s.toNat:Nat):Int) by omega,c6];exact hx
 have i2:a8 h.Types t=some y:=by rw[show t=((t.toNat:Nat):Int) by omega,c6];exact hy
 obtain⟨f1,f2⟩:=yz hh (c:=dS ws s&&&dS ws t) (n:=n) (by omega) n 0 (by omega) (by omega) (fun k hk=>by omega);rw[zV]at f1 f2;simp only[Bj,i1,i2,aL,ex,ey,z4a (hh.ok _ m1).2 (hh.ok _ m2).2 (show 5<=n by omega),Nj];by_cases e:dS ws s&&&dS ws t=0;rw[f2 (fun q=>(hh.ok _ q).1 e)];exact⟨_,rfl,fun _=>e,fun q=>by cases q⟩;obtain⟨k,g1,g2⟩:=f1 (hh.cls _ m1 _ m2 e);rw[g1];refine⟨_,rfl,(fun q=>by cases q),fun _=>⟨?_,?_⟩⟩;have:=(zG.1 g2).1;simp only;omega;simp only[dS,zZ,g2,Option.getD_some]
structure TI(ws:List Nat)(N:Nat)(L:List aI)(r:Nat->Nat)(i:Nat)(o:List Int):Prop where
 len:o.length=N
 at_:∀c,c<N->∃t,o[c]? = some t/\(0<=t/\t<(ws.length:Int))/\∀k,(dS ws t).testBit k=true↔(dS ws 0).testBit k=true/\∀(j:Nat)(x:aI),j<i->L[j]? = some x->r j=c->(dS ws x.Typex).testBit k=true
def ji(ws:List Nat)(L:List aI):Prop:=∀x∈L,0<=x.Typex/\x.Typex<(ws.length:Int)
theorem sy{h:cA}{ws:List Nat}(hh:lU h ws){N:Nat}{L:List aI}(hLl:L.length=N)(hN:N<=1000)(hk:ji ws L){cl:List Int}{r:Nat->Nat}(hc:CK N cl r){n:Nat}(hn:2000<=n):∀(m i:Nat)(o:List Int),N-i<m->i<=N->TI ws N L r i o->
  (∃o',TI ws N L r N o'/\PY h L cl n m (i:Int) o=Dd L cl n o')\/(PY h L cl n m (i:Int) o=some ([],false)/\∃c,c<N/\∀k,¬ ((dS ws 0).testBit k=true/\∀(j:Nat)(x:aI),L[j]? = some x->r j=c->(dS ws x.Typex).testBit k=true))
 |0,i,o,hm,_,_=>by omega
 |m+1,i,o,hm,hi,hI=>by
  unfold PY;by_cases hlt:i<N;have hltL:i<L.length:=by omega
  obtain⟨x,hx,hxm⟩:=dM hltL;have hrl:=hc.lt hlt;obtain⟨t,t1,t2,t3⟩:=hI.at_ (r i) hrl;have hv:jR o 0 L.length (r i:Int)=some t:=Mb (by omega) t1;obtain⟨q,q1,q2,q3⟩:=OF hh t2 (hk x hxm) hn;simp only[fO hltL,zC,c6,hc.get i hlt,aL,hv,hx,q1,zZ,gI hltL (show L.length<=9223372036854775807 by omega)];cases hb:q.2 with
  |false=>refine .inr ⟨by simp only[Bool.not_false,zC],r i,hrl,fun k w6=>?_⟩;have h0:=q2 hb;have:=congrArg (fun z=>z.testBit k) h0;simp only[Nat.testBit_and,Nat.zero_testBit,Bool.and_eq_false_iff]at this;rcases this with g |g;have:=(t3 k).2 ⟨w6.1,fun j y hj hy hr=>w6.2 j y hy hr⟩;rw[g]at this;cases this;have:=w6.2 i x hx rfl;rw[g]at this;cases this
  |true=>obtain⟨q4,q5⟩:=q3 hb;simp only[Bool.not_true,zD];refine sy hh hLl hN hk hc hn m (i+1) (o.set (r i) q.1) (by omega) (by omega) ⟨by simp[hI.len],fun c hcN=>?_⟩;by_cases e:r i=c;subst e;refine⟨q.1,by rw[List.getElem?_set_self (by rw[hI.len];exact hrl)],q4,fun k=>?_⟩;rw[q5,Nat.testBit_and,Bool.and_eq_true,t3];constructor;rintro⟨⟨g1,g2⟩,g3⟩;refine⟨g1,fun j y hj hy hr=>?_⟩;by_cases ej:j=i;subst ej;rw[hx]at hy;cases hy;exact g3;exact g2 j y (by omega) hy hr;rintro⟨g1,g2⟩;exact⟨⟨g1,fun j y hj hy hr=>g2 j y (by omega) hy hr⟩,g2 i x (by omega) hx rfl⟩;obtain⟨t',u1,u2,u3⟩:=hI.at_ c hcN;refine⟨t',by rw[List.getElem?_set_ne e];exact u1,u2,fun k=>?_⟩;rw[u3];constructor;rintro⟨g1,g2⟩;refine⟨g1,fun j y hj hy hr=>?_⟩;by_cases ej:j=i;subst ej;exact absurd hr e;exact g2 j y (by omega) hy hr;rintro⟨g1,g2⟩;exact⟨g1,fun j y hj hy hr=>g2 j y (by omega) hy hr⟩
  have:i=N:=by omega
  subst this;have hltL:¬ i<L.length:=by omega
  simp only[fX hltL,zD];exact .inl ⟨o,hI,rfl⟩
theorem sx{N:Nat}{L:List aI}(hLl:L.length=N)(hN:N<=1000){cl:List Int}{r:Nat->Nat}(hc:CK N cl r){o0:List Int}(ho:o0.length=N):∀(m i:Nat)(o:List Int),N-i<m->i<=N->o.length=N->(∀c,c<N->o[c]? = if c<i then o0[r c]? else o0[c]?)->
  ∃o',W6 L cl m (i:Int) o=some (o',true)/\o'.length=N/\∀c,c<N->o'[c]? = o0[r c]?
 |0,i,o,hm,_,_,_=>by omega
 |m+1,i,o,hm,hi,hol,hI=>by
  unfold W6;by_cases hlt:i<N;have hltL:i<L.length:=by omega
  have hrl:=hc.lt hlt;have hle:=hc.le i hlt;have hid:=hc.idem i hlt;have Hg:∀c,c<N->∃v,o0[c]? = some v:=fun c hcN=>⟨_,List.getElem?_eq_getElem (by omega)⟩;obtain⟨v,hv⟩:=Hg (r i) hrl;have h1:o[r i]? = some v:=by rw[hI _ hrl];split;rw[hid];exact hv;exact hv
  obtain⟨w,hw⟩:=Hg i hlt;have h2:o[i]? = some w:=by rw[hI i hlt,if_neg (by omega)];exact hw
  simp only[fO hltL,zC,c6,hc.get i hlt,aL,Mb (show r i<L.length by omega) h1,Mb hltL h2,zZ,gI hltL (show L.length<=9223372036854775807 by omega)];refine sx hLl hN hc ho m (i+1) (o.set i v) (by omega) (by omega) (by simp[hol]) fun c hcN=>?_;by_cases e:i=c;subst e;rw[List.getElem?_set_self (by omega),if_pos (by omega),hv];rw[List.getElem?_set_ne e,hI c hcN];by_cases e2:c<i;rw[if_pos e2,if_pos (by omega)];rw[if_neg e2,if_neg (by omega)];have:i=N:=by omega
  subst this;have hltL:¬ i<L.length:=by omega
  rw[fX hltL];simp only[zD,Pm,hLl,zZ];rw[dZ hol.symm];exact⟨o,rfl,hol,fun c hcN=>by rw[hI c hcN,if_pos hcN]⟩
structure Jt(ws:List Nat)(N:Nat)(L:List aI)(r:Nat->Nat)(o:List Int):Prop where
 len:o.length=N
 at_:∀i,i<N->∃t,o[i]? = some t/\(0<=t/\t<(ws.length:Int))/\∀k,(dS ws t).testBit k=true↔∀(j:Nat)(x:aI),L[j]? = some x->r j=r i->(dS ws x.Typex).testBit k=true
theorem sw{h:cA}{ws:List Nat}(hh:lU h ws)(hLl:L.length=N)(hN:N<=1000)(hk:ji ws L){cl:List Int}(hc:CK N cl r)(hn:2000<=n):
  (∃o,KE n h L cl=some (o,true)/\Jt ws N L r o/\¬ N2 ws L r)\/(KE n h L cl=some ([],false)/\N2 ws L r):=by
 have hpos:=hh.pos;have htop:∀(j:Nat)(x:aI)(k:Nat),L[j]? = some x->(dS ws x.Typex).testBit k=true->(dS ws 0).testBit k=true:=fun j x k hj hb=>by have hm:=zX (EJ (hk x (zX hj)));have:=congrArg (fun z=>z.testBit k) (hh.top _ hm);simp only[Nat.testBit_and,hb,Bool.and_true]at this;exact this
 have h0:TI ws N L r 0 (List.replicate N 0):=⟨by simp,fun c hcN=>⟨0,by rw[List.getElem?_replicate,if_pos hcN],⟨by omega,by omega⟩,fun k=>⟨fun g=>⟨g,fun j x hj=>by omega⟩,fun g=>g.1⟩⟩⟩;have:=sy hh hLl hN hk hc hn n 0 (List.replicate N 0) (by omega) (by omega) h0;rw[zV]at this;simp only[KE,hLl,zZ];rw[dZ (by omega)];rcases this with⟨o',g1,g2⟩|⟨g1,c,hcN,g2⟩;refine .inl ?_;obtain⟨o,p1,p2,p3⟩:=sx hLl hN hc g1.len n 0 o' (by omega) (by omega) g1.len (fun c hcN=>by rw[if_neg (by omega)]);rw[zV]at p1;have hat:∀i,i<N->∃t,o[i]? = some t/\(0<=t/\t<(ws.length:Int))/\∀k,(dS ws t).testBit k=true↔∀(j:Nat)(x:aI),L[j]? = some x->r j=r i->(dS ws x.Typex).testBit k=true:=fun i hi=>by obtain⟨t,t1,t2,t3⟩:=g1.at_ (r i) (hc.lt hi);refine⟨t,by rw[p3 i hi];exact t1,t2,fun k=>?_⟩;rw[t3];constructor;rintro⟨_,q2⟩ j x hj hr;exact q2 j x (by have:=(zG.1 hj).1;omega) hj hr;intro q;refine⟨?_,fun j x _ hj hr=>q j x hj hr⟩;have hx:L[i]? = some L[i]:=List.getElem?_eq_getElem (by omega);exact htop i _ k hx (q i _ hx rfl)
 refine⟨o,by rw[g2,Dd,p1],⟨p2,hat⟩,fun⟨i,hi,hb⟩=>?_⟩;rw[hLl]at hi;obtain⟨t,t1,t2,t3⟩:=hat i hi;obtain⟨k,w6⟩:=Nat.exists_testBit_of_ne_zero (hh.ok _ (zX (EJ t2))).1;obtain⟨j,x,q1,q2,q3⟩:=hb k;have:=(t3 k).1 w6 j x q1 q2;rw[q3]at this;cases this;refine .inr ⟨g1,?_⟩;have hz:∃i,i<N/\r i=c:=by refine Classical.byContradiction fun hno=>?_;have hne:=(hh.ok _ (zX (EJ (ws:=ws) (t:=0) ⟨by omega,by omega⟩))).1;obtain⟨k,w6⟩:=Nat.exists_testBit_of_ne_zero hne;exact g2 k ⟨w6,fun j x hj hr=>absurd ⟨j,by have:=(zG.1 hj).1;omega,hr⟩ hno⟩
 obtain⟨i,hi,rfl⟩:=hz;refine⟨i,by omega,fun k=>Classical.byContradiction fun hno=>?_⟩;have hall:∀(j:Nat)(x:aI),L[j]? = some x->r j=r i->(dS ws x.Typex).testBit k=true:=fun j x hj hr=>by rcases hb:(dS ws x.Typex).testBit k with _|_;exact absurd ⟨j,x,hj,hr,hb⟩ hno;rfl
 have hx:L[i]? = some L[i]:=List.getElem?_eq_getElem (by omega);exact g2 k ⟨htop i _ k hx (hall i _ hx rfl),hall⟩
theorem jq{x4:aI}{f:Int}(hl:x4.Arcs.length<=100000):∀(m i:Nat),x4.Arcs.length-i<m->i<=x4.Arcs.length->VX f x4 m (i:Int)=some (match (x4.Arcs.drop i).find? fun x=>x.Feat==f with |some x=>(x.To,true)|none=>(0,false))
 |0,i,hm,_=>by omega
 |m+1,i,hm,hi=>by unfold VX;by_cases hlt:i<x4.Arcs.length;obtain⟨x,hx,_⟩:=dM hlt;simp only[fO hlt,zC,c6,hx,aL,gI hlt (show x4.Arcs.length<=9223372036854775807 by omega),aQ hx,List.find?_cons];rcases e:x.Feat==f with _|_;simp only[zD];exact jq hl m (i+1) (by omega) (by omega);simp only[zC];simp only[fX hlt,zD,bG hlt,Ou,List.find?_nil]
theorem zb7{g:List aI}{c:Nat}{x:aI}{f:Int}(hx:g[c]? = some x)(hl:x.Arcs.length<=100000){n:Nat}(hn:x.Arcs.length<n):Bg n ⟨g⟩ (c:Int) f=some (match x.Arcs.find? fun x=>x.Feat==f with |some x=>(x.To,true)|none=>(0,false)):=by
 have:=jq (f:=f) hl n 0 (by omega) (by omega);rw[zV,List.drop_zero]at this;simp only[Bg,c6,hx,aL,this]
structure QP(N:Nat)(L:List aI)(r:Nat->Nat)(ty:List Int)(P:Nat->aF->Prop)(K:Nat)(g:List aI):Prop where
 len:g.length=N
 ty:∀(c:Nat)(x:aI),g[c]? = some x->ty[c]? = some x.Typex
 ds:∀(c:Nat)(x:aI),g[c]? = some x->jQ x.Arcs/\x.Arcs.length<=K
 cov:∀(j:Nat)(c:aI)(a:aF),L[j]? = some c->a∈c.Arcs->P j a->∃x b,g[r j]? = some x/\b∈x.Arcs/\b.Feat=a.Feat/\b.To=(r a.To.toNat:Int)
 snd:∀(i:Nat)(x:aI)(b:aF),g[i]? = some x->b∈x.Arcs->∃(j:Nat)(c:aI)(a:aF),L[j]? = some c/\r j=i/\a∈c.Arcs/\b.Feat=a.Feat/\b.To=(r a.To.toNat:Int)
theorem Uc{N:Nat}{L:List aI}{cl ty:List Int}{r:Nat->Nat}(hL:uH N [] L)(hN:N<=1000)(hc:CK N cl r)(hq:AS L r){n:Nat}(hn:100000<=n){i:Nat}(hiN:i<N){y:aI}(hy:L[i]? = some y)(hyl:y.Arcs.length<=12){rc:Int->List aI->Option aW}{Q:Option aW->Prop}
  (hrc:∀g,QP N L r ty (fun j _=>j<i+1) (12*(i+1)) g->Q (rc (IntKind.i64.wrap ((i:Int)+1)) g)):∀(m k:Nat)(g:List aI),y.Arcs.length-k<m->k<=y.Arcs.length->QP N L r ty (fun j a=>j<i\/(j=i/\a∈y.Arcs.take k)) (12*i+k) g->
  Q (KR L cl n (i:Int) rc (r i:Int) m (k:Int) g)
 |0,k,g,hm,_,_=>by omega
 |m+1,k,g,hm,hk,hI=>by
  unfold KR;have hgl:=hI.len;have hrl:=hc.lt hiN;by_cases hlt:k<y.Arcs.length;obtain⟨a,ha,ham⟩:=dM hlt;obtain⟨x,hx⟩:∃x,g[r i]? = some x:=⟨_,List.getElem?_eq_getElem (by omega)⟩;obtain⟨hxd,hxl⟩:=hI.ds _ x hx;have hw:IntKind.i64.wrap ((k:Int)+1)=((k+1:Nat):Int):=gI hlt (by omega);have hto:=hL.ar i y a hy ham;have hct:=hc.at hto;simp only[c6,hy,aL,fO hlt,zC,ha,zb7 (f:=a.Feat) hx (show x.Arcs.length<=100000 by omega) (show x.Arcs.length<n by omega),Ei,hw];have htk:∀b,b∈y.Arcs.take (k+1)↔b∈y.Arcs.take k\/b=a:=fun b=>by rw[gM ha,yD,List.mem_singleton]
  cases hf:x.Arcs.find? (fun w=>w.Feat==a.Feat)with
  |some w=>
   have hwm:=List.mem_of_find?_eq_some hf;have hwf:w.Feat=a.Feat:=by have:=List.find?_some hf;simpa using this
   simp only[Bool.not_true,zD];refine Uc hL hN hc hq hn hiN hy hyl hrc m (k+1) g (by omega) (by omega) ⟨hI.len,hI.ty,fun c z hz=>⟨(hI.ds c z hz).1,by have:=(hI.ds c z hz).2;omega⟩,fun j c b hj hb hP=>?_,hI.snd⟩;rcases hP with hP |⟨rfl,hP⟩;exact hI.cov j c b hj hb (.inl hP);rcases(htk b).1 hP with hP |rfl;exact hI.cov _ c b hj hb (.inr ⟨rfl,hP⟩);obtain⟨j',c',a',p1,p2,p3,p4,p5⟩:=hI.snd _ x w hx hwm;refine⟨x,w,hx,hwm,hwf,?_⟩;rw[p5,hq j' _ c' c a' b p1 hj p2 p3 hb (by omega)]
  |none=>
   have hno:∀w∈x.Arcs,w.Feat≠a.Feat:=fun w hw e=>by have:=List.find?_eq_none.1 hf w hw;simp[e]at this
   simp only[Bool.not_false,zC,hx,aL,hct,zZ,Nat.zero_add];rw[dZ (by omega)];have hset:∀c z,(g.set (r i) ⟨x.Typex,x.Arcs++[⟨a.Feat,(r a.To.toNat:Int)⟩]⟩)[c]? = some z->(c=r i/\z=⟨x.Typex,x.Arcs++[⟨a.Feat,(r a.To.toNat:Int)⟩]⟩)\/(c≠r i/\g[c]? = some z):=fun c z hz=>by by_cases e:r i=c;subst e;rw[List.getElem?_set_self (by omega)]at hz;exact .inl ⟨rfl,(Option.some.inj hz).symm⟩;rw[List.getElem?_set_ne e]at hz;exact .inr ⟨fun q=>e q.symm,hz⟩
   refine Uc hL hN hc hq hn hiN hy hyl hrc m (k+1) _ (by omega) (by omega) ⟨by rw[List.length_set];exact hI.len,fun c z hz=>?_,fun c z hz=>?_,fun j c b hj hb hP=>?_,fun j z b hz hb=>?_⟩;rcases hset c z hz with⟨rfl,rfl⟩|⟨_,hz⟩;exact hI.ty _ x hx;exact hI.ty c z hz;rcases hset c z hz with⟨rfl,rfl⟩|⟨_,hz⟩;refine⟨?_,by simp only[zU,zO,zS];omega⟩;unfold jQ at*;rw[List.pairwise_append];exact⟨hxd,List.pairwise_singleton _ _,fun w hw v hv=>by simp at hv;subst hv;exact hno w hw⟩;exact⟨(hI.ds c z hz).1,by have:=(hI.ds c z hz).2;omega⟩;have old:(j<i\/(j=i/\b∈y.Arcs.take k))->∃x' b',(g.set (r i) ⟨x.Typex,x.Arcs++[⟨a.Feat,(r a.To.toNat:Int)⟩]⟩)[r j]? = some x'/\b'∈x'.Arcs/\b'.Feat=b.Feat/\b'.To=(r b.To.toNat:Int):=fun hp=>by obtain⟨x',b',q1,q2,q3,q4⟩:=hI.cov j c b hj hb hp;by_cases e:r i=r j;rw[<-e,hx]at q1;cases q1;exact⟨_,b',by rw[<-e,List.getElem?_set_self (by omega)],List.mem_append_left _ q2,q3,q4⟩;exact⟨x',b',by rw[List.getElem?_set_ne e];exact q1,q2,q3,q4⟩
   rcases hP with hP |⟨rfl,hP⟩;exact old (.inl hP);rcases(htk b).1 hP with hP |rfl;exact old (.inr ⟨rfl,hP⟩);exact⟨_,⟨b.Feat,(r b.To.toNat:Int)⟩,List.getElem?_set_self (by omega),List.mem_append_right _ (List.mem_singleton.2 rfl),rfl,rfl⟩;rcases hset j z hz with⟨rfl,rfl⟩|⟨_,hz⟩;rcases yD.1 hb with hb |hb;exact hI.snd _ x b hx hb;simp at hb;subst hb;exact⟨i,y,a,hy,rfl,ham,rfl,rfl⟩;exact hI.snd j z b hz hb
  have:k=y.Arcs.length:=by omega
  subst this;simp only[c6,hy,aL,fX hlt,zD,Ro];rw[List.take_length]at hI;refine hrc g ⟨hI.len,hI.ty,fun c z hz=>⟨(hI.ds c z hz).1,by have:=(hI.ds c z hz).2;omega⟩,fun j c b hj hb hP=>?_,hI.snd⟩;by_cases e:j=i;subst e;rw[hy]at hj;cases hj;exact hI.cov _ _ b hy hb (.inr ⟨rfl,hb⟩);exact hI.cov j c b hj hb (.inl (by omega))
theorem jv{N:Nat}{L:List aI}{cl ty:List Int}{r:Nat->Nat}(hL:uH N [] L)(hN:N<=1000)(hc:CK N cl r)(hq:AS L r)(hal:∀x∈L,x.Arcs.length<=12){v:Int}{n:Nat}(hn:100000<=n):∀(m i:Nat)(g:List aI),N-i<m->i<=N->QP N L r ty (fun j _=>j<i) (12*i) g->
  ∃g',QP N L r ty (fun j _=>j<N) (12*N) g'/\FA L cl v n m (i:Int) g=WO cl v n g'
 |0,i,g,hm,_,_=>by omega
 |m+1,i,g,hm,hi,hI=>by
  unfold FA;have hLl:=hL.len;by_cases hlt:i<N;have hltL:i<L.length:=by omega
  obtain⟨y,hy,hym⟩:=dM hltL;simp only[fO hltL,zC,c6,hc.get i hlt,aL];have:=Uc (ty:=ty) hL hN hc hq hn hlt hy (hal y hym) (rc:=FA L cl v n m) (Q:=fun o=>∃g',QP N L r ty (fun j _=>j<N) (12*N) g'/\o=WO cl v n g') (fun g hg=>by rw[gI hltL (by omega)];exact jv hL hN hc hq hal hn m (i+1) g (by omega) (by omega) hg) n 0 g (by have:=hal y hym;omega) (by omega) ⟨hI.len,hI.ty,fun c x hx=>by have:=hI.ds c x hx;exact⟨this.1,by omega⟩,fun j c a hj ha hP=>by rcases hP with hP |⟨_,hP⟩;exact hI.cov j c a hj ha hP;simp at hP,hI.snd⟩;rw[zV]at this;exact this;have:i=N:=by omega
  subst this;have hltL:¬ i<L.length:=by omega
  rw[fX hltL];exact⟨g,hI,rfl⟩
theorem jw{N:Nat}{L:List aI}{cl ty:List Int}(hLl:L.length=N)(hN:N<=1000)(ht:ty.length=N){v:Int}{n:Nat}:∀(m i:Nat),N-i<m->i<=N->
  WN L cl ty v n m (i:Int) ((ty.take i).map fun t=>aI.mk t [])=Eh L cl v n (ty.map fun t=>aI.mk t [])
 |0,i,hm,_=>by omega
 |m+1,i,hm,hi=>by
  unfold WN;by_cases hlt:i<N;have hltL:i<L.length:=by omega
  obtain⟨t,hx,_⟩:=dM (l:=ty) (show i<ty.length by omega);have ih:=jw (cl:=cl) (v:=v) (n:=n) hLl hN ht m (i+1) (by omega) (by omega);rw[gM hx,List.map_append]at ih;simp only[fO hltL,zC,c6,hx,aL,gI hltL (show L.length<=9223372036854775807 by omega)];rw[dZ (by simp only[yA,List.length_take];omega)];exact ih;have:i=N:=by omega
  subst this;have hltL:¬ i<L.length:=by omega
  rw[fX hltL,zW (by omega)];rfl
theorem zb0{ws:List Nat}{N:Nat}{L:List aI}{cl ty:List Int}{r:Nat->Nat}(hL:uH N [] L)(hN:N<=1000)(hc:CK N cl r)(hq:AS L r)(hal:∀x∈L,x.Arcs.length<=12/\∀a∈x.Arcs,0<=a.Feat)(hty:Jt ws N L r ty){n:Nat}(hn:100000<=n){v:Int}(hv:0<=v/\v<(N:Int)):
  ∃g,QG ws L r ⟨g⟩/\tK ⟨g⟩/\De n L cl ty v=some (mG ⟨g⟩ (r v.toNat:Int)):=by
 have hLl:=hL.len;have h1:=jw (cl:=cl) (v:=v) (n:=n) hLl hN hty.len n 0 (by omega) (by omega);rw[zV,List.take_zero,List.map_nil]at h1;have h0:QP N L r ty (fun j _=>j<0) (12*0) (ty.map fun t=>aI.mk t []):=⟨by simp[hty.len],fun c x hx=>by
   rw[List.getElem?_map]at hx;rcases e:ty[c]? with _|t;rw[e]at hx;cases hx;rw[e]at hx;cases hx;rfl,fun c x hx=>by
   rw[List.getElem?_map]at hx;rcases e:ty[c]? with _|t;rw[e]at hx;cases hx;rw[e]at hx;cases hx;exact⟨List.Pairwise.nil,zF _⟩,fun j c a _ _ h=>absurd h (by omega),fun i x b hx hb=>by
   rw[List.getElem?_map]at hx;rcases e:ty[i]? with _|t;rw[e]at hx;cases hx;rw[e]at hx;cases hx;cases hb⟩
 obtain⟨g,g1,g2⟩:=jv hL hN hc hq (fun x hx=>(hal x hx).1) (v:=v) hn n 0 _ (by omega) (by omega) h0;rw[zV]at g2;have mem:∀{i:Nat},i<N->∃x,L[i]? = some x:=fun{i} hi=>⟨_,List.getElem?_eq_getElem (by omega)⟩;have tyat:∀c x,g[c]? = some x->c<N/\(0<=x.Typex/\x.Typex<(ws.length:Int))/\∀k,(dS ws x.Typex).testBit k=true↔∀(j:Nat)(y:aI),L[j]? = some y->r j=r c->(dS ws y.Typex).testBit k=true:=fun c x hx=>by
  have hcN:c<N:=by have:=(zG.1 hx).1;have:=g1.len;omega
  obtain⟨t,t1,t2,t3⟩:=hty.at_ c hcN;have:=g1.ty c x hx;rw[t1]at this;cases this;exact⟨hcN,t2,t3⟩
 have hQ:QG ws L r ⟨g⟩:=⟨by show g.length=_;rw[g1.len,hLl],fun i hi=>by rw[hLl]at hi ⊢;exact⟨hc.lt hi,hc.idem i hi⟩,fun i x hx hr=>by obtain⟨_,t2,t3⟩:=tyat i x hx;rw[hr]at t3;exact⟨t2,t3⟩,fun i x hx _=>(g1.ds i x hx).1,fun j c a hj ha=>g1.cov j c a hj ha (by have:=(zG.1 hj).1;omega),fun i x b hx _ hb=>g1.snd i x b hx hb⟩;have hG:tK ⟨g⟩:=fun x hx=>by obtain⟨i,hi⟩:=List.getElem?_of_mem hx;refine⟨(tyat i x hi).2.1.1,(g1.ds i x hi).1,fun b hb=>?_⟩;obtain⟨j,c,a,q1,q2,q3,q4,q5⟩:=g1.snd i x b hi hb;have hto:=hL.ar j c a q1 q3;have:=hc.lt (i:=a.To.toNat) (by omega);have hf:=(hal c (zX q1)).2 a q3;have hgl:(aW.mk g).Nodes.length=N:=g1.len;rw[hgl];exact⟨by omega,by omega,by omega⟩
 refine⟨g,hQ,hG,?_⟩;have hrv:=hc.lt (i:=v.toNat) (by omega);have hS:cD ⟨g⟩ 12000:=⟨by show g.length<=12000;rw[g1.len];omega,fun x hx=>by obtain⟨i,hi⟩:=List.getElem?_of_mem hx;have:=(g1.ds i x hi).2;omega⟩;have hfr:=uh hG hS (by omega) (r:=(r v.toNat:Int)) ⟨by omega,by show _<((g.length:Nat):Int);rw[g1.len];omega⟩ (n:=n) (by omega);rw[De,h1,Eh,g2];simp only[WO,hc.at hv,aL,hfr]
structure Pt(h:cA)(ws:List Nat)(U:Nat)(L:List aI)(c:List aO)(tl:List bC)(cl:List Int)(rep d r:Nat->Nat)(D:Nat):Prop where
 lk:uH L.length [] L
 la:∀x∈L,x.Arcs.length<=12/\(∀a∈x.Arcs,0<=a.Feat/\a.Feat<(h.Feats.length:Int))/\j8 x.Arcs
 lt:ji ws L
 hp:kO L.length D (h.Feats.length:Int) (ws.length:Int) c rep d
 tc:TC ws L.length L [] c rep
 ck:CK L.length cl r
 ke:∀i j,i<L.length->j<L.length->(rep i=rep j↔r i=r j)
 bd:D+tot c<=12*L.length+U
 bt:tl.length+2*tot c<=24*L.length+2*U
def yE(h:cA)(ws:List Nat)(U:Nat)(L:List aI)(c:List aO)(tl:List bC)(cl:List Int):Prop:=∃rep d r D,Pt h ws U L c tl cl rep d r D
variable{ws:List Nat}
variable{L:List aI}
theorem uH.to{N:Nat}{ws':List Nat}(h:uH N ws L):uH N ws' L:=⟨h.len,h.ar⟩
theorem yE.up{h:cA}{U U':Nat}{c:List aO}{tl:List bC}{cl:List Int}(hU:U<=U')(p:yE h ws U L c tl cl):yE h ws U' L c tl cl:=by
 obtain⟨rep,d,r,D,q⟩:=p;exact⟨rep,d,r,D,q.lk,q.la,q.lt,q.hp,q.tc,q.ck,q.ke,by have:=q.bd;omega,by have:=q.bt;omega⟩
structure tM(c0:List aO)(t0:List bC)(c:List aO)(t:List bC):Prop where
 ex:∃tl,t=t0++tl/\(∀x∈tl,0<=x.atx/\x.atx<(c.length:Int))/\(n7 tl c).take c0.length=c0
 le:c0.length<=c.length
theorem tM.refl(c:List aO)(t:List bC):tM c t c t:=⟨⟨[],by simp,(fun x hx=>by cases hx),by simp[n7]⟩,zF _⟩
theorem z9t(a b:List bC)(c:List aO):n7 (a++b) c=n7 a (n7 b c):=by simp[n7]
theorem bx:∀(tl:List bC)(c:List aO)(k:Nat),(n7 tl c).take k=n7 tl (c.take k)
 |[],c,k=>rfl|x::tl,c,k=>by have e:∀c,n7 (x::tl) c=(n7 tl c).set x.atx.toNat x.old:=fun c=>rfl;rw[e,e,List.take_set,bx tl c k]
theorem tM.trans{c0 c1 c2:List aO}{t0 t1 t2:List bC}(h:tM c0 t0 c1 t1)(h':tM c1 t1 c2 t2):tM c0 t0 c2 t2:=by
 obtain⟨tl,e1,r1,b1⟩:=h.ex;obtain⟨tl',e2,r2,b2⟩:=h'.ex;have l1:=h.le;have l2:=h'.le;refine⟨⟨tl++tl',by rw[e2,e1,zT],fun x hx=>?_,?_⟩,by omega⟩;rcases yD.1 hx with hx |hx;have:=r1 x hx;omega;exact r2 x hx;have:(n7 tl (n7 tl' c2)).take c0.length=((n7 tl (n7 tl' c2)).take c1.length).take c0.length:=by rw[List.take_take,Nat.min_eq_left l1]
 rw[z9t,this,bx,b2,b1]
theorem BQ{α:Type}{a b:List α}{i:Nat}{x:α}(h:(a++b)[i]? = some x):(i<a.length/\a[i]? = some x)\/(a.length<=i/\b[i-a.length]? = some x):=by
 by_cases e:i<a.length;rw[List.getElem?_append_left e]at h;exact .inl ⟨e,h⟩;rw[List.getElem?_append_right (by omega)]at h;exact .inr ⟨by omega,h⟩
def ext(N:Nat)(f:Nat->Nat)(i:Nat):Nat:=if i<N then f i else i
theorem rG.up'{N N':Nat}{FB:Int}{l:List aF}(h:rG N FB l)(hN:N<=N'):rG N' FB l:=⟨h.up,fun a ha=>by have:=h.ok a ha;omega⟩
theorem zaw{h:cA}(hh:lU h ws){U:Nat}{c:List aO}{tl:List bC}{cl:List Int}(p:yE h ws U L c tl cl){f:aW}(hf:yO h f):
  yE h ws U (L++f.Nodes.map (vN L.length)) (c++f.Nodes.map (uD L.length)) tl (cl++pT L.length f.Nodes.length):=by
 obtain⟨rep,d,r,D,p⟩:=p;have hcl:=p.hp.len;have hN':(L++f.Nodes.map (vN L.length)).length=L.length+f.Nodes.length:=by simp
 have hflat:∀x∈f.Nodes.map (uD L.length),Flat (L.length+f.Nodes.length) (h.Feats.length:Int) (ws.length:Int) x:=fun x hx=>by rw[<-hh.tl];exact hf.flat (zF _) hx
 have cOld:∀{i:Nat},i<L.length->celN (c++f.Nodes.map (uD L.length)) i=celN c i:=fun{i} hi=>by simp only[celN,List.getElem?_append_left (show i<c.length by omega)]
 have cNew:∀{i:Nat}{x:aI},f.Nodes[i]? = some x->celN (c++f.Nodes.map (uD L.length)) (L.length+i)=uD L.length x:=fun{i x} hx=>by simp only[celN,List.getElem?_append_right (show c.length<=L.length+i by omega),hcl,Nat.add_sub_cancel_left,List.getElem?_map,hx,zM,Option.getD_some]
 have LOld:∀{j:Nat}{x:aI},(L++f.Nodes.map (vN L.length))[j]? = some x->(j<L.length/\L[j]? = some x)\/∃(i:Nat)(y:aI),j=L.length+i/\f.Nodes[i]? = some y/\x=vN L.length y:=fun{j x} hj=>by rcases BQ hj with⟨h1,h2⟩|⟨h1,h2⟩;exact .inl ⟨h1,h2⟩;rw[List.getElem?_map]at h2;rcases e:f.Nodes[j-L.length]? with _|y;rw[e]at h2;cases h2;rw[e]at h2;exact .inr ⟨j-L.length,y,by omega,e,(Option.some.inj h2).symm⟩
 have eOld:∀{g:Nat->Nat}{i:Nat},i<L.length->ext L.length g i=g i:=fun hi=>if_pos hi;have eNew:∀{g:Nat->Nat}{i:Nat},L.length<=i->ext L.length g i=i:=fun{g i} hi=>if_neg (by omega);have hto:∀(i:Nat)(y:aI),f.Nodes[i]? = some y->∀a∈y.Arcs,0<=a.To/\a.To<(f.Nodes.length:Int):=fun i y hy a ha=>by have:=(hf.nok y (zX hy)).2.ok a ha;exact⟨this.2.2.1,this.2.2.2⟩
 have hp':kO (L.length+f.Nodes.length) D (h.Feats.length:Int) (ws.length:Int) (c++f.Nodes.map (uD L.length)) (ext L.length rep) (fun i=>if i<L.length then d i else 0):=by
  refine⟨⟨fun i hi=>?_,fun i hi=>?_,fun i hi=>?_,fun i hi=>?_⟩,⟨fun i x hx hr=>?_,fun i x hx hr=>?_⟩,by simp[hcl],fun i x hx=>?_,fun i x hx=>?_⟩;by_cases e:i<L.length;rw[eOld e];have:=p.hp.rok.lt i e;omega;rw[eNew (by omega)];exact hi;by_cases e:i<L.length;rw[eOld e,eOld (p.hp.rok.lt i e)];exact p.hp.rok.idem i e;have e1:ext L.length rep i=i:=eNew (by omega);rw[e1,e1];by_cases e:i<L.length;rw[eOld e,if_pos (p.hp.rok.lt i e)];exact p.hp.rok.zero i e;rw[eNew (by omega),if_neg e];show(if i<L.length then d i else 0)<=D;by_cases e:i<L.length;rw[if_pos e];exact p.hp.rok.bd i e;rw[if_neg e];omega;rcases BQ hx with⟨h1,h2⟩|⟨h1,h2⟩;rw[eOld (by omega)]at hr;exact p.hp.cok.root i x h2 hr;exact(hflat x (zX h2)).fw;rcases BQ hx with⟨h1,h2⟩|⟨h1,h2⟩;have e:i<L.length:=by omega
  rw[eOld e]at hr;obtain⟨j,q1,q2,q3,q4⟩:=p.hp.cok.fwd i x h2 hr;exact⟨j,q1,by omega,by rw[eOld q2,eOld e];exact q3,by simp only[q2,e,if_true];exact q4⟩;exact absurd (eNew (by omega)) hr;rcases BQ hx with⟨h1,h2⟩|⟨h1,h2⟩;exact(p.hp.ar i x h2).up' (by omega);exact(hflat x (zX h2)).ar;rcases BQ hx with⟨h1,h2⟩|⟨h1,h2⟩;exact p.hp.kd i x h2;exact(hflat x (zX h2)).kd
 refine⟨ext L.length rep,(fun i=>if i<L.length then d i else 0),ext L.length r,D,?_⟩;have htot:tot (c++f.Nodes.map (uD L.length))<=tot c+12*f.Nodes.length:=by have:=Ua (cells:=f.Nodes.map (uD L.length)) fun x hx=>(hflat x hx).sm;rw[yA]at this;simp only[tot,List.map_append,List.sum_append]at this ⊢;omega
 have hbd:=p.bd;have hbt:=p.bt;refine⟨⟨rfl,fun j x a hj ha=>?_⟩,fun x hx=>?_,fun x hx=>?_,by rw[hN'];exact hp',⟨fun j x a hj ha=>?_,fun i b hi hr hb=>?_,fun i hi hr k=>?_⟩,⟨?_,fun i hi=>?_,fun i hi=>?_,fun i hi=>?_⟩,fun i j hi hj=>?_,by rw[hN'];omega,by rw[hN'];omega⟩;rw[hN'];rcases LOld hj with⟨h1,h2⟩|⟨i,y,rfl,h2,rfl⟩;have:=p.lk.ar j x a h2 ha;omega;obtain⟨a0,we,rfl⟩:=List.mem_map.1 ha;have:=hto i y h2 a0 we;simp only[B6];omega;rcases yD.1 hx with hx |hx;exact p.la x hx;obtain⟨y,hy,rfl⟩:=List.mem_map.1 hx;have hk:=(hf.nok y hy).2;refine⟨by simp only[vN,yA];exact hf.sm.arcs y hy,fun a ha=>?_,J3 hk.up⟩;obtain⟨a0,we,rfl⟩:=List.mem_map.1 ha;have:=hk.ok a0 we;exact⟨this.1,this.2.1⟩;rcases yD.1 hx with hx |hx;exact p.lt x hx;obtain⟨y,hy,rfl⟩:=List.mem_map.1 hx;have:=(hf.nok y hy).1;rw[hh.tl]at this;exact this;rcases LOld hj with⟨h1,h2⟩|⟨i,y,rfl,h2,rfl⟩;obtain⟨b,q1,q2,q3⟩:=p.tc.cov j x a h2 ha;have hrl:=p.hp.rok.lt j h1;refine⟨b,by rw[eOld h1,cOld hrl];exact q1,q2,fun q w1 w2=>q3 q (fun i j hi hj e=>w1 i j (by omega) (by omega) (by rw[eOld hi,eOld hj];exact e)) (fun _ hz=>by cases hz)⟩;refine⟨a,by rw[eNew (by omega),cNew h2];exact ha,rfl,fun q _ _=>rfl⟩;by_cases e:i<L.length;rw[eOld e]at hr;rw[cOld e]at hb;obtain⟨j,x,q1,q2,q3⟩:=p.tc.snd i b e hr hb;have jl:=(zG.1 q1).1;exact⟨j,x,by rw[List.getElem?_append_left jl];exact q1,by rw[eOld jl];exact q2,q3⟩;obtain⟨k,rfl⟩:∃k,i=L.length+k:=⟨i-L.length,by omega⟩;obtain⟨y,hy,_⟩:=dM (l:=f.Nodes) (show k<f.Nodes.length by omega);rw[cNew hy]at hb;exact⟨L.length+k,vN L.length y,by rw[List.getElem?_append_right (by omega),Nat.add_sub_cancel_left,List.getElem?_map,hy];rfl,eNew (by omega),hb⟩;by_cases e:i<L.length;rw[eOld e]at hr;rw[cOld e,p.tc.kd i e hr];constructor;intro g j x hj hrj;rcases LOld hj with⟨h1,h2⟩|⟨m,y,rfl,h2,rfl⟩;rw[eOld h1]at hrj;exact g j x h2 hrj;rw[eNew (by omega)]at hrj;omega;intro g j x hj hrj;have jl:=(zG.1 hj).1;exact g j x (by rw[List.getElem?_append_left jl];exact hj) (by rw[eOld jl];exact hrj);obtain⟨m,rfl⟩:∃m,i=L.length+m:=⟨i-L.length,by omega⟩;obtain⟨y,hy,_⟩:=dM (l:=f.Nodes) (show m<f.Nodes.length by omega);rw[cNew hy];have hself:(L++f.Nodes.map (vN L.length))[L.length+m]? = some (vN L.length y):=by rw[List.getElem?_append_right (by omega),Nat.add_sub_cancel_left,List.getElem?_map,hy];rfl
 constructor;intro g j x hj hrj;have:j=L.length+m:=by by_cases e2:j<L.length;rw[eOld e2]at hrj;have:=p.hp.rok.lt j e2;omega;rw[eNew (by omega)]at hrj;exact hrj
 subst this;rw[hself]at hj;cases hj;exact g;intro g;exact g (L.length+m) (vN L.length y) hself (eNew (by omega));rw[zU,Vq,p.ck.len,hN'];rw[hN']at hi;by_cases e:i<L.length;rw[List.getElem?_append_left (by rw[p.ck.len];exact e),eOld e];exact p.ck.get i e;rw[List.getElem?_append_right (by rw[p.ck.len];omega),p.ck.len,eNew (by omega)];simp only[pT,List.getElem?_map,List.getElem?_range (show i-L.length<f.Nodes.length by omega),zM];congr 1;omega;by_cases e:i<L.length;rw[eOld e];exact p.ck.le i e;rw[eNew (by omega)];exact zF _;by_cases e:i<L.length;rw[eOld e,eOld (p.ck.lt e)];exact p.ck.idem i e;have e1:ext L.length r i=i:=eNew (by omega);rw[e1,e1];by_cases e:i<L.length;by_cases e2:j<L.length;rw[eOld e,eOld e2,eOld e,eOld e2];exact p.ke i j e e2;have:=p.hp.rok.lt i e;have:=p.ck.lt e;rw[eOld e,eNew (by omega),eOld e,eNew (by omega)];constructor<;>intro q<;>omega;by_cases e2:j<L.length;have:=p.hp.rok.lt j e2;have:=p.ck.lt e2;rw[eNew (by omega),eOld e2,eNew (by omega),eOld e2];constructor<;>intro q<;>omega;rw[eNew (by omega),eNew (by omega),eNew (by omega),eNew (by omega)]
variable{r:Nat->Nat}
theorem XJ.wide{N:Nat}{W:List (Int×Int)}{x y:Nat}(h:XJ N r [] x y):XJ N r W x y:=fun q q1 _=>h q q1 (fun _ hz=>by cases hz)
variable{ws:List Nat}
variable{L:List aI}
theorem H'{q q':Nat->Nat}(h:N2 ws L q)(he:∀i j,i<L.length->j<L.length->q i=q j->q' i=q' j):N2 ws L q':=by
 obtain⟨i,hi,hb⟩:=h;refine⟨i,hi,fun k=>?_⟩;obtain⟨j,x,q1,q2,q3⟩:=hb k;exact⟨j,x,q1,he j i (zG.1 q1).1 hi q2,q3⟩
variable{h:cA}
variable{n:Nat}
theorem Ff(hh:lU h ws)(hn:2000<=n):Jw ws (uC n h):=⟨fun s t hs ht e=>by
  rcases Lh hh hs ht hn with⟨_,_,h3⟩|⟨r,h1,_⟩;exact h3;rw[h1]at e;exact(Option.some_ne_none _ e).elim,fun s t r hs ht e=>by
  rcases Lh hh hs ht hn with⟨h1,_⟩|⟨r',h1,_,h3,h4⟩;rw[h1]at e;cases e;rw[h1]at e;cases e;exact⟨h3,h4⟩⟩
theorem Pt.dis{h:cA}{ws:List Nat}{U:Nat}{L:List aI}{c:List aO}{tl:List bC}{cl:List Int}{rep d r:Nat->Nat}{D:Nat}(p:Pt h ws U L c tl cl rep d r D):∀x∈L,jQ x.Arcs/\x.Arcs.length<=12:=fun x hx=>⟨(p.la x hx).2.2.dis,(p.la x hx).1⟩
theorem Pt.clo{h:cA}{ws:List Nat}{U:Nat}{L:List aI}{c:List aO}{tl:List bC}{cl:List Int}{rep d r:Nat->Nat}{D:Nat}(p:Pt h ws U L c tl cl rep d r D):AS L r:=fun i j x y a b hi hj e ha hb hf=>by
 have il:=(zG.1 hi).1;have jl:=(zG.1 hj).1;have h1:=p.lk.ar i x a hi ha;have h2:=p.lk.ar j y b hj hb;exact(p.ke _ _ (by omega) (by omega)).1 (p.tc.clo p.lk.to p.hp i j x y a b hi hj ((p.ke i j il jl).2 e) ha hb hf)
theorem Pt.good{h:cA}{ws:List Nat}(hh:lU h ws){U:Nat}{L:List aI}{c:List aO}{tl:List bC}{cl:List Int}{rep d r:Nat->Nat}{D:Nat}(p:Pt h ws U L c tl cl rep d r D):¬ N2 ws L r:=fun hb=>
 p.tc.good p.lk.to (fun w hw=>(hh.ok w hw).1) p.hp (H' hb fun i j hi hj e=>(p.ke i j hi hj).2 e)
variable{c:List aO}
variable{tl:List bC}
variable{cl:List Int}
theorem z7w(hh:lU h ws){U:Nat}{rep d:Nat->Nat}{D:Nat}(p:Pt h ws U L c tl cl rep d r D)(hL:L.length<=1000):cD (cG c rep) 1000:=by
 have hcl:=p.hp.len;refine⟨by simp only[cG,yA];omega,fun x hx=>?_⟩;obtain⟨y,hy,rfl⟩:=List.mem_map.1 hx;obtain⟨i,hi⟩:=List.getElem?_of_mem hy;have ha:=p.hp.ar i y hi;have hfl:=hh.fl;have:(y.arcs.map aF.Feat).length<=h.Feats.length:=Of h.Feats.length (by rw[List.Nodup,List.pairwise_map];exact ha.up.imp fun{a b} q=>by omega) fun v hv=>by obtain⟨a,hm,rfl⟩:=List.mem_map.1 hv;have:=ha.ok a hm;exact⟨this.1,this.2.1⟩
 rw[yA]at this;simp only[X9,yA];omega
theorem lx(hh:lU h ws){U:Nat}{rep d:Nat->Nat}{D:Nat}(p:Pt h ws U L c tl cl rep d r D)(hL:L.length<=300)(hU:U<=1000)(hn:200000<=n){v:Int}(hv:0<=v/\v<(L.length:Int))(p9:List bC)(gT:List cN)(rm:List nY):
  cD (OH n c rep v) 1000/\vY n v h.Types h.Feats c p9 gT=some (OH n c rep v,true)/\K9 n ⟨h,L,cl,rm⟩ v=some (OH n c rep v,true):=by
 have hbd:=p.bd;have hcan:=z7l p.hp (n:=n) (by omega) hv;have hrI:=p.hp.rI hv;have hGl:(cG c rep).Nodes.length=L.length:=by simp[cG,p.hp.len]
 refine⟨?_,Vs p.hp (by omega) (by omega) (by omega) (by omega) hv h.Types h.Feats p9 gT,?_⟩;rw[hcan];exact(z7w hh p (by omega)).canon p.hp.gok ⟨hrI.1,by rw[hGl];exact hrI.2⟩;have e1:ET n ⟨h,L,cl,rm⟩ v=some true:=by
  have a1:decide (v>=0)=true:=by simp;omega
  have a2:decide (v<(L.length:Int))=true:=by simp;omega
  simp only[ET,a1,a2,zC,aL]
 rcases sw hh rfl (by omega) p.lt p.ck (n:=n) (by omega)with⟨o,t1,t2,t3⟩|⟨_,t2⟩;obtain⟨g,g1,g2,g3⟩:=zb0 p.lk (by omega) p.ck p.clo (fun x hx=>⟨(p.la x hx).1,fun a ha=>((p.la x hx).2.1 a ha).1⟩) t2 (n:=n) (by omega) hv;have hq:=p.tc.qg p.lk.to p.hp;have hrd:=QG.read hh.nod (fun j x a hj ha=>by have:=p.lk.ar j x a hj ha;omega) hq g1 p.hp.gok g2 p.ke (i:=v.toNat) (by omega);simp only[K9,e1,aL,Bool.not_true,zD,t1,g3];rw[hrd,hcan];rfl;exact absurd t2 (p.good hh)
variable{a:Int}
variable{b:Int}
theorem z5b{m:List cN}{t:Nat}(hab:¬ ((0<=a/\a<(c.length:Int))/\0<=b/\b<(c.length:Int))):A8 n a b h.Types h.Feats c tl t m=some (false,c,tl,t):=by
 have:(cond (decide (a<0)) (some true) (cond (decide (a>=(c.length:Int))) (some true) (cond (decide (b<0)) (some true) (some (decide (b>=(c.length:Int)))))))=some true:=by by_cases h1:a<0;rw[decide_eq_true h1];rfl;rw[decide_eq_false h1,zD];by_cases h2:a>=(c.length:Int);rw[decide_eq_true h2];rfl;rw[decide_eq_false h2,zD];by_cases h3:b<0;rw[decide_eq_true h3];rfl;rw[decide_eq_false h3,zD,decide_eq_true (by omega)]
 simp only[A8,this,aL,zC]
theorem z85{m:List cN}{t:Nat}(ha:0<=a/\a<(c.length:Int))(hb:0<=b/\b<(c.length:Int)):A8 n a b h.Types h.Feats c tl t m=FE h.Types h.Feats tl m n n (stk [(a,b)]) c tl t:=by
 have q1:decide (a<0)=false:=by simp;omega
 have q2:decide (a>=(c.length:Int))=false:=by simp only[decide_eq_false_iff_not];omega
 have q3:decide (b<0)=false:=by simp;omega
 have q4:decide (b>=(c.length:Int))=false:=by simp only[decide_eq_false_iff_not];omega
 simp only[A8,q1,q2,q3,q4,zD,aL];rfl
theorem Wr{rm:List nY}(v:Int):ET n ⟨h,L,cl,rm⟩ v=some (decide (0<=v/\v<(L.length:Int))):=by
 by_cases h1:v>=0;simp only[ET,decide_eq_true h1,zC,aL];by_cases h2:v<(L.length:Int);rw[decide_eq_true h2,decide_eq_true (⟨h1,h2⟩:0<=v/\v<(L.length:Int))];rw[decide_eq_false h2,decide_eq_false (fun q=>h2 q.2)];simp only[ET,decide_eq_false h1,zD,aL];rw[decide_eq_false (fun q=>h1 q.1)]
theorem z02{rm:List nY}(hab:¬ ((0<=a/\a<(L.length:Int))/\0<=b/\b<(L.length:Int))):KD n ⟨h,L,cl,rm⟩ a b=some (⟨h,L,cl,rm⟩,false):=by
 simp only[KD,Wr,aL];by_cases h1:0<=a/\a<(L.length:Int);rw[decide_eq_true h1];have h2:¬ (0<=b/\b<(L.length:Int)):=fun q=>hab ⟨h1,q⟩;rw[decide_eq_false h2];rfl;rw[decide_eq_false h1];rfl
theorem z7h(hh:lU h ws){U:Nat}(p:yE h ws U L c tl cl)(hL:L.length<=300)(hU:U<=1000)(hn:3000000<=n)(a b:Int)(m:List cN)(rm:List nY)(t:Nat):
  ∃ok c' tl' cl' t',A8 n a b h.Types h.Feats c tl t m=some (ok,c',tl',t')/\KD n ⟨h,L,cl,rm⟩ a b=some (⟨h,L,cl',rm⟩,ok)/\yE h ws (U+1) L c' tl' cl'/\tM c tl c' tl'/\c'.length=c.length:=by
 have p0:=p;obtain⟨rep,d,r,D,p⟩:=p;have hcl:=p.hp.len;by_cases hab:(0<=a/\a<(L.length:Int))/\0<=b/\b<(L.length:Int)
 ·obtain⟨ha,hb⟩:=hab;have hbd:=p.bd;have hbt:=p.bt;have hmt:=Ff hh (n:=n) (by omega);have Gk:=zap hh (n:=n) (by omega);have hr:Rnd L.length D (h.Feats.length:Int) (ws.length:Int) [(a,b)] c rep d:=⟨p.hp,fun q hq=>by simp at hq;subst hq;exact⟨ha,hb⟩⟩;have htc:TC ws L.length L [(a,b)] c rep:=⟨fun j x z hj hz=>by obtain⟨w,q1,q2,q3⟩:=p.tc.cov j x z hj hz;exact⟨w,q1,q2,q3.wide⟩,p.tc.snd,p.tc.kd⟩;have hk:[(a,b)].length+tot c<n:=by simp only[zO,zS];omega
  have hfl:=hh.fl;obtain⟨s1,s2⟩:=Wm hmt p.lk.to n [(a,b)] c rep d D hr htc hk;obtain⟨D',u1,u2⟩:=Vm Gk n [(a,b)] c rep d D hr hk;obtain⟨k1,k2⟩:=Uk hh (by omega) (n:=n) (by omega) (p7:=tl) (by omega) m c n [(a,b)] c rep d D [] t hr hk (by simp only[zO,zS];omega) (fun x hx=>by cases hx) rfl (by simp only[zO,zS];omega);rw[List.append_nil]at k1 k2;have hui:=z85 (h:=h) (tl:=tl) (m:=m) (n:=n) (t:=t) (show 0<=a/\a<(c.length:Int) by omega) (show 0<=b/\b<(c.length:Int) by omega);have hmono:∀i j,rep i=rep j->(jB (uC n h) n [(a,b)] c rep d).2.2.1 i=(jB (uC n h) n [(a,b)] c rep d).2.2.1 j:=fun i j e=>As n _ c rep d e;have hpr:=Yi Gk n [(a,b)] c rep d D hr hk;have hck:=p.ck.mrg (a:=a.toNat) (b:=b.toNat) (by omega) (by omega);have hmg:=z76 p.ck (by omega) ha hb (n:=n) (by omega);obtain⟨out,r2,c1,c2⟩:=z6d p.lk (by omega) p.dis hck (n:=n) (by omega);generalize XB:fA r (min (r a.toNat) (r b.toNat)) (max (r a.toNat) (r b.toNat))=r1 at hck c2;have h1ab:r1 a.toNat=r1 b.toNat:=by rw[<-XB];unfold fA;split;split;rfl;omega;split;omega;omega
  have h1up:∀i j,r i=r j->r1 i=r1 j:=fun i j e=>by rw[<-XB];exact Mx e
  have h1low:∀(q:Nat->Nat),(∀i j,i<L.length->j<L.length->r i=r j->q i=q j)->q a.toNat=q b.toNat->∀i j,i<L.length->j<L.length->r1 i=r1 j->q i=q j:=fun q q1 q2 i j hi hj e=>by
   have ra:q (r a.toNat)=q a.toNat:=q1 _ _ (p.ck.lt (by omega)) (by omega) (p.ck.idem _ (by omega));have rb:q (r b.toNat)=q b.toNat:=q1 _ _ (p.ck.lt (by omega)) (by omega) (p.ck.idem _ (by omega));have ri:q (r i)=q i:=q1 _ _ (p.ck.lt hi) hi (p.ck.idem _ hi);have rj:q (r j)=q j:=q1 _ _ (p.ck.lt hj) hj (p.ck.idem _ hj);have hmm:q (min (r a.toNat) (r b.toNat))=q a.toNat/\q (max (r a.toNat) (r b.toNat))=q a.toNat:=by rcases Nat.le_total (r a.toNat) (r b.toNat)with g |g;rw[Nat.min_eq_left g,Nat.max_eq_right g,ra,rb,q2];exact⟨rfl,rfl⟩;rw[Nat.min_eq_right g,Nat.max_eq_left g,ra,rb,q2];exact⟨rfl,rfl⟩
   rw[<-XB]at e;unfold fA at e;rw[<-ri,<-rj];split at e
   ·next e1=>
    split at e
    ·next e2=>rw[e1,e2]
    ·next e2=>rw[e1,<-e,hmm.1,hmm.2]
   ·next e1=>
    split at e
    ·next e2=>rw[e2,e,hmm.1,hmm.2]
    ·next e2=>rw[e]
  have hund:MV L.length [(a,b)] rep r2:=⟨fun i j hi hj e=>c2.up i j hi hj (h1up i j ((p.ke i j hi hj).1 e)),fun q hq=>by simp at hq;subst hq;exact c2.up _ _ (by omega) (by omega) h1ab⟩;obtain⟨s3,s4⟩:=s2 r2 c2.clo hund;have hty:=sw hh rfl (by omega) p.lt c2.ck (n:=n) (by omega);have hcell:KD n ⟨h,L,cl,rm⟩ a b=a7 (KE n h L out) fun jH=>cond (!jH.2) (some (⟨h,L,cl,rm⟩,false)) (some (⟨h,L,out,rm⟩,true)):=by simp only[KD,Wr,aL];rw[decide_eq_true ha,decide_eq_true hb];simp only[Bool.not_true,zD,aL,hmg,c1]
  cases hres:(jB (uC n h) n [(a,b)] c rep d).1 with
  |true=>
   obtain⟨tl',t',g1,g2,g3,g4⟩:=k1 hres;have zh:=s1 hres;have hclo:=zh.clo p.lk.to u2;have hke:∀i j,i<L.length->j<L.length->((jB (uC n h) n [(a,b)] c rep d).2.2.1 i=(jB (uC n h) n [(a,b)] c rep d).2.2.1 j↔r2 i=r2 j):=fun i j hi hj=>by refine⟨fun e=>(s3 hres).r i j hi hj e,fun e=>?_⟩;refine c2.low _ hclo (h1low _ (fun i j hi hj e=>hmono i j ((p.ke i j hi hj).2 e)) ?_) i j hi hj e;exact hpr hres (a,b) (by simp)
   have hgood:¬ N2 ws L r2:=fun hb=>zh.good p.lk.to (fun w hw=>(hh.ok w hw).1) u2 (H' hb fun i j hi hj e=>(hke i j hi hj).2 e);rcases hty with⟨o,t1,t2,t3⟩|⟨_,t2⟩
   have hlen:=u2.len;refine⟨true,_,tl++tl',out,t',by rw[hui,g1],by rw[hcell,t1];rfl,⟨_,_,r2,D',p.lk,p.la,p.lt,u2,zh,c2.ck,hke,by simp only[zO,zS]at u1;omega,by simp only[zO,zS,zU]at g4 ⊢;omega⟩,⟨⟨tl',rfl,fun x hx=>by rw[hlen];exact g3 x hx,by rw[g2,List.take_length]⟩,by rw[hlen,hcl];exact zF _⟩,by rw[hlen,hcl]⟩;exact absurd t2 hgood
  |false=>obtain⟨t',g1⟩:=k2 hres;have hbad:=s4 hres;rcases hty with⟨o,t1,t2,t3⟩|⟨t1,t2⟩;exact absurd hbad t3;exact⟨false,c,tl,cl,t',by rw[hui,g1],by rw[hcell,t1];rfl,p0.up (by omega),tM.refl c tl,rfl⟩
 have hab':¬ ((0<=a/\a<(c.length:Int))/\0<=b/\b<(c.length:Int)):=by rw[hcl];exact hab
 exact⟨false,c,tl,cl,t,z5b hab',z02 hab,p0.up (by omega),tM.refl c tl,rfl⟩
structure HS(h:cA)(ws:List Nat)(U:Nat)(c:List aO)(tl:List bC)(mk:List cN)(L:List aI)(cl:List Int)(rm:List nY)(S:List (List aO×List bC)):Prop where
 pt:yE h ws U L c tl cl
 ls:S.length=mk.length
 lr:rm.length=mk.length
 lm:mk.length<=U
 ln:L.length<=6*U
 at_:∀(k:Nat)(s:List aO×List bC),S[k]? = some s->tM s.1 s.2 c tl/\mk[k]? = some ⟨(s.1.length:Int),(s.2.length:Int)⟩/\∃uG,rm[k]? = some ⟨(s.1.length:Int),uG⟩/\yE h ws U (L.take s.1.length) s.1 s.2 uG
 nest:∀(j k:Nat)(s s':List aO×List bC),j<=k->S[j]? = some s->S[k]? = some s'->tM s.1 s.2 s'.1 s'.2
def Jx(h:cA)(ws:List Nat)(U:Nat)(c:List aO)(tl:List bC)(mk:List cN)(L:List aI)(cl:List Int)(rm:List nY):Prop:=∃S,HS h ws U c tl mk L cl rm S
theorem yE.len{h:cA}{ws:List Nat}{U:Nat}{L:List aI}{c:List aO}{tl:List bC}{cl:List Int}(p:yE h ws U L c tl cl):c.length=L.length/\cl.length=L.length/\tl.length<=24*L.length+2*U:=by
 obtain⟨rep,d,r,D,p⟩:=p;have:=p.bt;exact⟨p.hp.len,p.ck.len,by omega⟩
variable{h:cA}
variable{ws:List Nat}
variable{c:List aO}
variable{tl:List bC}
variable{mk:List cN}
variable{L:List aI}
variable{cl:List Int}
variable{rm:List nY}
theorem Mc{U:Nat}{c':List aO}{tl':List bC}{L':List aI}{cl':List Int}{S:List (List aO×List bC)}(p:HS h ws U c tl mk L cl rm S)(pt:yE h ws (U+1) L' c' tl' cl')(ha:tM c tl c' tl')(hL:∃t,L'=L++t)(hln:L'.length<=L.length+6):HS h ws (U+1) c' tl' mk L' cl' rm S where
 pt:=pt
 ls:=p.ls
 lr:=p.lr
 lm:=by have:=p.lm;omega
 ln:=by have:=p.ln;omega
 at_ k s hs:=by obtain⟨h1,h2,uG,h3,h4⟩:=p.at_ k s hs;obtain⟨t,rfl⟩:=hL;have l1:=p.pt.len.1;have l2:=h1.le;refine⟨h1.trans ha,h2,uG,h3,?_⟩;rw[List.take_append_of_le_length (by omega)];exact h4.up (by omega)
 nest:=p.nest
theorem z5y(c:List aO)(tl:List bC)(t:List aO):tM c tl (c++t) tl:=⟨⟨[],by simp,(fun x hx=>by cases hx),by simp[n7]⟩,by simp⟩
theorem yO.two{f:aW}(hf:yO h f):∀x∈f.Nodes,x.Arcs.length<=12/\∀a∈x.Arcs,0<=a.To/\a.To<1000:=fun x hx=>⟨hf.sm.arcs x hx,hf.to x hx⟩
theorem zac{U:Nat}{S:List (List aO×List bC)}(p:HS h ws U c tl mk L cl rm S):
  HS h ws (U+1) c tl (mk++[⟨(c.length:Int),(tl.length:Int)⟩]) L cl (rm++[⟨(L.length:Int),cl⟩]) (S++[(c,tl)]) where
 pt:=p.pt.up (by omega)
 ls:=by simp[p.ls]
 lr:=by simp[p.lr]
 lm:=by have:=p.lm;simp;omega
 ln:=by have:=p.ln;omega
 at_ k s hs:=by
  have l1:=p.pt.len.1;rcases BQ hs with⟨h1,h2⟩|⟨h1,h2⟩;obtain⟨g1,g2,uG,g3,g4⟩:=p.at_ k s h2;have:=p.ls;have:=p.lr;exact⟨g1,by rw[List.getElem?_append_left (by omega)];exact g2,uG,by rw[List.getElem?_append_left (by omega)];exact g3,g4.up (by omega)⟩;have hk:k=S.length:=by have:=(zG.1 h2).1;simp at this;omega
  subst hk;rw[Nat.sub_self]at h2;simp at h2;subst h2;refine⟨tM.refl c tl,by rw[p.ls,List.getElem?_append_right (zF _),Nat.sub_self];rfl,cl,by rw[p.ls,<-p.lr,List.getElem?_append_right (zF _),Nat.sub_self,<-l1];rfl,?_⟩;show yE h ws (U+1) (L.take c.length) c tl cl;rw[l1,List.take_length];exact p.pt.up (by omega)
 nest j k s s' hjk hj hk:=by
  rcases BQ hk with⟨h1,h2⟩|⟨h1,h2⟩;rw[List.getElem?_append_left (by omega)]at hj;exact p.nest j k s s' hjk hj h2;have hk':k=S.length:=by have:=(zG.1 h2).1;simp at this;omega
  subst hk';rw[Nat.sub_self]at h2;simp at h2;subst h2;rcases BQ hj with⟨h3,h4⟩|⟨h3,h4⟩;exact(p.at_ j s h4).1;have:j=S.length:=by omega
  subst this;rw[Nat.sub_self]at h4;simp at h4;subst h4;exact tM.refl c tl
theorem zad{U:Nat}{S:List (List aO×List bC)}(p:HS h ws U c tl mk L cl rm S){k:Nat}{s:List aO×List bC}(hs:S[k]? = some s){uG:List Int}(hrm:rm[k]? = some ⟨(s.1.length:Int),uG⟩):
  HS h ws U s.1 s.2 (mk.take (k+1)) (L.take s.1.length) uG (rm.take (k+1)) (S.take (k+1)):=by
 obtain⟨g1,g2,cl1,g3,g4⟩:=p.at_ k s hs;rw[hrm]at g3;cases g3;have hk:=(zG.1 hs).1;have l1:=p.ls;have l2:=p.lr;have l3:=p.lm;have l4:=p.ln;have tk:∀{α:Type}{l:List α}{j:Nat}{x:α},(l.take (k+1))[j]? = some x->j<=k/\l[j]? = some x:=fun{α l j x} hj=>by have hlt:=(zG.1 hj).1;rw[List.length_take]at hlt;exact⟨by omega,by rw[List.getElem?_take_of_lt (by omega)]at hj;exact hj⟩
 refine⟨g4,by simp only[List.length_take];omega,by simp only[List.length_take];omega,by simp only[List.length_take];omega,by simp only[List.length_take];omega,fun j s' hj=>?_,fun i j s' s'' hij hi hj=>p.nest i j s' s'' hij (tk hi).2 (tk hj).2⟩;obtain⟨hjk,hj'⟩:=tk hj;obtain⟨q1,q2,cl2,q3,q4⟩:=p.at_ j s' hj';have hn:=p.nest j k s' s hjk hj' hs;refine⟨hn,by rw[List.getElem?_take_of_lt (by omega)];exact q2,cl2,by rw[List.getElem?_take_of_lt (by omega)];exact q3,?_⟩;rw[List.take_take,Nat.min_eq_left hn.le];exact q4
theorem Wf:∀(tl:List bC)(c:List aO),(n7 tl c).length=c.length
 |[],c=>rfl|x::tl,c=>by have e:n7 (x::tl) c=(n7 tl c).set x.atx.toNat x.old:=rfl;rw[e,List.length_set,Wf tl c]
theorem zal{p1:List dI}{p2:List eE}{c:List aO}{tl:List bC}{mk:List cN}(hm:mk.length<=1000)(n t:Nat):KS n p1 p2 c tl mk t=some ((mk.length:Int),mk++[⟨(c.length:Int),(tl.length:Int)⟩],t+1):=by
 have hw:IntKind.i64.wrap (((mk++[(cN.mk (c.length:Int) (tl.length:Int))]).length:Int)-1)=(mk.length:Int):=by rw[zU];simp only[zO,zS];exact yS (by omega) (by omega)
 rw[KS,dZ (by omega),hw]
theorem z7s{h:cA}{L:List aI}{cl:List Int}{rm:List nY}(hm:rm.length<=1000)(n:Nat):Bd n ⟨h,L,cl,rm⟩=some (⟨h,L,cl,rm++[⟨(L.length:Int),cl⟩]⟩,(rm.length:Int)):=by
 rw[Bd,dZ (by show rm.length*32<=_/\rm.length<=_;omega),dZ (by show(rm.length+1)*32<=_/\rm.length+1<=_;omega)]
section
variable{h:cA}{ws:List Nat}{U:Nat}{c:List aO}{tl:List bC}{mk:List cN}{L:List aI}{cl:List Int}{rm:List nY}{S:List (List aO×List bC)}
variable{a:Int}
variable{n:Nat}
theorem zbc(p:HS h ws U c tl mk L cl rm S)(hU:U<=60)(ha:0<=a/\a<(mk.length:Int))(hn:3000000<=n):∃s uG,S[a.toNat]? = some s/\rm[a.toNat]? = some ⟨(s.1.length:Int),uG⟩/\
  FC n a h.Types h.Feats c tl mk=some (true,s.1,s.2,mk.take (a.toNat+1))/\K8 n ⟨h,L,cl,rm⟩ a=some (⟨h,L.take s.1.length,uG,rm.take (a.toNat+1)⟩,true):=by
 have l1:=p.ls;have l2:=p.lr;have l3:=p.lm;have l4:=p.ln;obtain⟨q1,q2,q3⟩:=p.pt.len;obtain⟨s,hs,_⟩:=dM (l:=S) (show a.toNat<S.length by omega);obtain⟨g1,g2,uG,g3,g4⟩:=p.at_ _ s hs;obtain⟨tl',e1,e2,e3⟩:=g1.ex;have hle:=g1.le;have ea:a=((a.toNat:Nat):Int):=by omega
 have hw:IntKind.i64.wrap (a+1)=((a.toNat+1:Nat):Int):=yS (by omega) (by omega);have b1:decide (a<0)=false:=by simp;omega
 have b2:decide (a>=(mk.length:Int))=false:=by simp only[decide_eq_false_iff_not];omega
 have b3:decide (a>=(rm.length:Int))=false:=by simp only[decide_eq_false_iff_not];omega
 have i1:a8 mk a=some ⟨(s.1.length:Int),(s.2.length:Int)⟩:=by rw[ea,c6];exact g2
 have i2:a8 rm a=some ⟨(s.1.length:Int),uG⟩:=by rw[ea,c6];exact g3
 have htl:tl.length=s.2.length+tl'.length:=by rw[e1,zU]
 have hb:=Ur (p7:=s.2) (by omega) n tl' c (by omega) (by omega) rfl e2;rw[<-e1]at hb;refine⟨s,uG,hs,g3,?_,?_⟩;simp only[FC,b1,b2,zD,aL,i1,WS,hb,hw,zZ,e3];rw[dZ (by rw[Wf];omega),dZ (by rw[Wf];omega),dZ (by omega),dZ (by omega)];have c1:oH L 0 (s.1.length:Int)=some (L.take s.1.length):=by rw[oH,if_pos (by omega)];simp
 have c2:oH rm 0 ((a.toNat+1:Nat):Int)=some (rm.take (a.toNat+1)):=by rw[oH,if_pos (by omega)];simp only[zZ,Int.toNat_zero,List.drop_zero]
 simp only[K8,b1,b3,zD,aL,i2,c1,hw,c2];rw[dZ (by simp only[List.length_take];omega),dZ (by simp only[List.length_take];omega)]
theorem z84(hl:rm.length=mk.length)(ha:¬ (0<=a/\a<(mk.length:Int))):FC n a h.Types h.Feats c tl mk=some (false,c,tl,mk)/\K8 n ⟨h,L,cl,rm⟩ a=some (⟨h,L,cl,rm⟩,false):=by
 by_cases h1:a<0;have b1:decide (a<0)=true:=decide_eq_true h1;exact⟨by simp only[FC,b1,zC,aL],by simp only[K8,b1,zC,aL]⟩;have b1:decide (a<0)=false:=decide_eq_false h1;have b2:decide (a>=(mk.length:Int))=true:=decide_eq_true (by omega);have b3:decide (a>=(rm.length:Int))=true:=decide_eq_true (by omega);exact⟨by simp only[FC,b1,b2,zC,zD,aL],by simp only[K8,b1,b3,zC,zD,aL]⟩
theorem Wd{f:aW}(hf:cD f 1000)(hn:3000000<=n):C0 n f f=some true:=by
 rw[pq hf hf hn,bp.2 rfl];rfl
theorem z7m(ha:¬ (0<=a/\a<(c.length:Int))):vY n a h.Types h.Feats c tl mk=some (⟨[]⟩,false):=by
 by_cases h1:a<0;have b1:decide (a<0)=true:=decide_eq_true h1;simp only[vY,b1,zC,aL];have b1:decide (a<0)=false:=decide_eq_false h1;have b2:decide (a>=(c.length:Int))=true:=decide_eq_true (by omega);simp only[vY,b1,b2,zC,zD,aL]
theorem z4n(ha:¬ (0<=a/\a<(L.length:Int))):K9 n ⟨h,L,cl,rm⟩ a=some (⟨[]⟩,false):=by
 simp only[K9,Wr,aL,decide_eq_false ha,Bool.not_false,zC]
theorem Jb(hh:lU h ws)(p:HS h ws U c tl mk L cl rm S)(hU:U<=47){o:oU}(ho:o.Kind=0->yO h o.F/\o.F.Nodes.length<=6)(hn:3000000<=n)(t5 t7 t9:Nat):
  ∃c' tl' mk' L' cl' rm' Kt Kq Ko,VN n ⟨h,L,cl,rm⟩ o h.Types h.Feats c t5 tl t7 mk t9=some (⟨h,L',cl',rm'⟩,true,c',Kt,tl',Kq,mk',Ko)/\Jx h ws (U+1) c' tl' mk' L' cl' rm':=by
 have l3:=p.lm;have l4:=p.ln;have l2:=p.lr;obtain⟨q1,q2,q3⟩:=p.pt.len;unfold VN;by_cases k0:o.Kind=0;obtain⟨hf,hf6⟩:=ho k0;have e0:(o.Kind==0)=true:=by simp[k0]
 have r1:=z7r (p1:=⟨h,L,cl,rm⟩) (f:=o.F) q2 (by show L.length<=900;omega) (by omega) hf.two (n:=n) (by omega);have r2:=Lz hf.sm hf.to (p4:=c) (by omega) (n:=n) (by omega) t5 h.Types h.Feats tl mk;simp only[e0,zC,r1,aL,r2];have hpt:=zaw hh p.pt hf;rw[<-q1]at hpt;have e1:((c.length:Int)==(L.length:Int))=true:=by rw[q1];simp
 rw[e1];refine⟨_,_,_,_,_,_,_,_,_,rfl,S,?_⟩;rw[<-q1];exact Mc p (hpt.up (by omega)) (z5y c tl _) ⟨_,rfl⟩ (by simp only[zU,yA];omega);have e0:(o.Kind==0)=false:=by simp[k0]
 rw[e0,zD];by_cases k1:o.Kind=1;have e1:(o.Kind==1)=true:=by simp[k1]
 obtain⟨ok,c',tl',cl',t',u1,u2,u3,u4,u5⟩:=z7h hh p.pt (by omega) (by omega) hn o.A o.B mk rm t7;simp only[e1,zC,u2,aL,u1];have e2:(ok==ok)=true:=by simp
 rw[e2];exact⟨_,_,_,_,_,_,_,_,_,rfl,S,Mc p u3 u4 ⟨[],by simp⟩ (by omega)⟩;have e1:(o.Kind==1)=false:=by simp[k1]
 rw[e1,zD];by_cases k2:o.Kind=2;have e2:(o.Kind==2)=true:=by simp[k2]
 have m1:=zal (p1:=h.Types) (p2:=h.Feats) (c:=c) (tl:=tl) (mk:=mk) (by omega) n t9;have m2:=z7s (h:=h) (L:=L) (cl:=cl) (rm:=rm) (by omega) n;simp only[e2,zC,m2,aL,m1];have e3:((mk.length:Int)==(rm.length:Int))=true:=by rw[l2];simp
 rw[e3];exact⟨_,_,_,_,_,_,_,_,_,rfl,_,zac p⟩;have e2:(o.Kind==2)=false:=by simp[k2]
 rw[e2,zD];have same:Jx h ws (U+1) c tl mk L cl rm:=⟨S,Mc p (p.pt.up (by omega)) (tM.refl c tl) ⟨[],by simp⟩ (by omega)⟩;by_cases k3:o.Kind=3;have e3:(o.Kind==3)=true:=by simp[k3]
 by_cases ha:0<=o.A/\o.A<(mk.length:Int);obtain⟨s,uG,s1,s2,u1,u2⟩:=zbc p (by omega) ha hn;simp only[e3,zC,u2,aL,u1];have e4:(true==true)=true:=rfl;rw[e4];refine⟨_,_,_,_,_,_,_,_,_,rfl,S.take (o.A.toNat+1),?_⟩;have hu:=zad p s1 s2;exact Mc hu (hu.pt.up (by omega)) (tM.refl _ _) ⟨[],by simp⟩ (by omega);obtain⟨u1,u2⟩:=z84 (h:=h) (c:=c) (tl:=tl) (L:=L) (cl:=cl) l2 ha (n:=n);simp only[e3,zC,u2,aL,u1];have e4:(false==false)=true:=rfl;rw[e4];exact⟨_,_,_,_,_,_,_,_,_,rfl,same⟩;have e3:(o.Kind==3)=false:=by simp[k3]
 rw[e3,zD];by_cases ha:0<=o.A/\o.A<(L.length:Int);obtain⟨rep,d,r,D,pp⟩:=p.pt;obtain⟨s1,s2,s3⟩:=lx hh pp (by omega) (by omega) (n:=n) (by omega) ha tl mk rm;simp only[s2,s3,aL,Wd s1 hn];have e4:(true==true)=true:=rfl;rw[e4];exact⟨_,_,_,_,_,_,_,_,_,rfl,same⟩;have s2:=z7m (h:=h) (tl:=tl) (mk:=mk) (c:=c) (by rw[q1];exact ha) (n:=n);have s3:=z4n (h:=h) (cl:=cl) (rm:=rm) ha (n:=n);have s1:cD ⟨[]⟩ 1000:=⟨by simp,fun x hx=>by cases hx⟩;simp only[s2,s3,aL,Wd s1 hn];have e4:(false==false)=true:=rfl;rw[e4];exact⟨_,_,_,_,_,_,_,_,_,rfl,same⟩
end
def TK(h:cA)(o:oU):Prop:=o.Kind=0->yO h o.F/\o.F.Nodes.length<=6
theorem my{h:cA}{l:List oU}(hl:l.length<=9223372036854775807){n:Nat}(hn:3000000<=n):∀(m i:Nat),l.length-i<m->i<=l.length->∃b,WE h l n m (i:Int)=some b/\(b=true->l.length<=16/\∀o∈l.drop i,TK h o)
 |0,i,hm,_=>by omega
 |m+1,i,hm,hi=>by
  unfold WE;by_cases hlt:i<l.length;obtain⟨o,ho,_⟩:=dM hlt;simp only[fO hlt,zC,c6,ho,aL,gI hlt hl];obtain⟨b,g1,g2⟩:=my (h:=h) hl hn m (i+1) (by omega) (by omega);by_cases k0:o.Kind=0;have e0:(o.Kind==0)=true:=by simp[k0]
  by_cases h6:(o.F.Nodes.length:Int)>6;simp only[e0,zC,decide_eq_true h6,aL];exact⟨false,rfl,fun q=>by cases q⟩;obtain⟨b2,f1,f2⟩:=za8 h (l:=[o.F]) (by simp) hn;simp only[e0,zC,decide_eq_false h6,zD,f1,aL];rcases b2 with _|_;exact⟨false,rfl,fun q=>by cases q⟩;simp only[Bool.not_true,zD,g1];refine⟨b,rfl,fun q=>⟨(g2 q).1,fun x hx=>?_⟩⟩;rw[aQ ho]at hx;rcases zI.1 hx with rfl |hx;exact fun _=>⟨f2 rfl _ (by simp),by omega⟩
  exact(g2 q).2 x hx;have e0:(o.Kind==0)=false:=by simp[k0]
  simp only[e0,zD,aL,g1];refine⟨b,rfl,fun q=>⟨(g2 q).1,fun x hx=>?_⟩⟩;rw[aQ ho]at hx;rcases zI.1 hx with rfl |hx;exact fun q=>absurd q k0
  exact(g2 q).2 x hx;simp only[fX hlt,zD,Qr];exact⟨_,rfl,fun q=>⟨by have:=of_decide_eq_true q;omega,fun x hx=>by rw[bG hlt]at hx;cases hx⟩⟩
variable{n:Nat}
theorem xR(h:cA){l:List oU}(hl:l.length<=9223372036854775807)(hn:3000000+l.length<=n):∃b,Og n h l=some b/\(b=true->l.length<=16/\∀o∈l,TK h o):=by
 have:=my (h:=h) hl (n:=n) (by omega) n 0 (by omega) (by omega);rw[zV,List.drop_zero]at this;exact this
theorem zab{h:cA}{ws:List Nat}:Jx h ws 0 [] [] [] [] [] []:=⟨[],⟨⟨id,(fun _=>0),id,0,⟨rfl,fun j x a hj=>by simp at hj⟩,(fun x hx=>by cases hx),(fun x hx=>by cases hx),kO.init rfl (fun c hc=>by cases hc),⟨fun j x a hj=>by simp at hj,fun i b hi=>by simp at hi,fun i hi=>by simp at hi⟩,⟨rfl,fun i hi=>by simp at hi,fun i hi=>zF _,fun i hi=>rfl⟩,fun i j hi=>by simp at hi,by simp[tot],by simp[tot]⟩,rfl,rfl,by simp,by simp,fun k s hs=>by simp at hs,fun j k s s' _ hj=>by simp at hj⟩⟩
section
variable{h:cA}{ws:List Nat}{U:Nat}{c:List aO}{tl:List bC}{mk:List cN}{L:List aI}{cl:List Int}{rm:List nY}
theorem sj(hh:lU h ws){rep d r:Nat->Nat}{D:Nat}(p:Pt h ws U L c tl cl rep d r D)(hL:L.length<=300)(hU:U<=60){n:Nat}(hn:3000000<=n):∀(m i:Nat),L.length-i<m->i<=L.length->WQ ⟨h,L,cl,rm⟩ h.Types h.Feats c tl mk n m (i:Int)=some true
 |0,i,hm,_=>by omega
 |m+1,i,hm,hi=>by unfold WQ;have e1:V6 n ⟨h,L,cl,rm⟩=some (L.length:Int):=rfl;simp only[e1,aL];by_cases hlt:i<L.length;obtain⟨s1,s2,s3⟩:=lx hh p (by omega) (by omega) (n:=n) (by omega) (v:=(i:Int)) ⟨by omega,by omega⟩ tl mk rm;simp only[fO hlt,zC,s2,s3,aL,Bool.not_true,zD,Wd s1 hn,gI hlt (show L.length<=9223372036854775807 by omega)];exact sj hh p hL hU hn m (i+1) (by omega) (by omega);simp only[fX hlt,zD,Rr]
theorem z5x(hh:lU h ws)(p:Jx h ws U c tl mk L cl rm)(hU:U<=50)(hn:3000000<=n):WF n ⟨h,L,cl,rm⟩ h.Types h.Feats c tl mk=some true:=by
 obtain⟨S,p⟩:=p;have hln:=p.ln;have hl:=p.pt.len.1;obtain⟨rep,d,r,D,pp⟩:=p.pt;have:=sj (rm:=rm) (mk:=mk) hh pp (by omega) (by omega) hn n 0 (by omega) (by omega);rw[zV]at this;have e1:V6 n ⟨h,L,cl,rm⟩=some (L.length:Int):=rfl;have e2:Eg n h.Types h.Feats c tl mk=some (c.length:Int):=rfl;have e3:((c.length:Int) != (L.length:Int))=false:=by rw[hl];simp
 simp only[WF,e1,e2,aL,e3,zD,this]
end
theorem ly{h:cA}{ws:List Nat}(hh:lU h ws){l:List oU}(hl:l.length<=16)(hop:∀o∈l,TK h o){n:Nat}(hn:3000000<=n):∀(m i:Nat)(c:List aO)(tl:List bC)(mk:List cN)(L:List aI)(cl:List Int)(rm:List nY)(t1 t2 t3:Nat),l.length-i<m->i<=l.length->Jx h ws i c tl mk L cl rm->
  WV l n (h.Types,h.Feats) m (i:Int) mk t1 tl t2 c t3 h.Types h.Feats L cl rm=some true
 |0,i,c,tl,mk,L,cl,rm,t1,t2,t3,hm,_,_=>by omega
 |m+1,i,c,tl,mk,L,cl,rm,t1,t2,t3,hm,hi,p=>by unfold WV;by_cases hlt:i<l.length;obtain⟨o,ho,hom⟩:=dM hlt;obtain⟨S,p⟩:=p;obtain⟨c',tl',mk',L',cl',rm',Kt,Kq,Ko,d1,d2⟩:=Jb hh p (by omega) (hop o hom) hn t3 t2 t1;have hal:=z5x hh d2 (by omega) hn;have e1:VN n (eQ.mk (cA.mk h.Types h.Feats) L cl rm) o h.Types h.Feats c t3 tl t2 mk t1=some (⟨h,L',cl',rm'⟩,true,c',Kt,tl',Kq,mk',Ko):=d1;have e2:WF n (eQ.mk (cA.mk h.Types h.Feats) L' cl' rm') h.Types h.Feats c' tl' mk'=some true:=hal;simp only[fO hlt,zC,c6,ho,aL,e1,Bool.not_true,zD,e2,gI hlt (show l.length<=9223372036854775807 by omega)];exact ly hh hl hop hn m (i+1) c' tl' mk' L' cl' rm' Ko Kq Kt (by omega) (by omega) d2;simp only[fX hlt,zD,Ru,Iz (show 200<=n by omega),aL]
theorem z3z(d:List bA)(l:List oU)(hl:l.length<=9223372036854775807)(hn:3000000+l.length<=n):Rl n d l=some true:=by
 have hex:=Iz (show 200<=n by omega);obtain⟨h,ws,e1,hh⟩:=zaa d (n:=n) (by omega);obtain⟨b,e2,e3⟩:=xR h hl hn;simp only[Rl,e1,aL,e2];rcases b with _|_;simp only[Bool.not_false,zC,hex,aL];obtain⟨lA,hop⟩:=e3 rfl;have:=ly hh lA hop (n:=n) (by omega) n 0 [] [] [] [] [] [] 0 0 0 (by omega) (by omega) zab;rw[zV]at this;simp only[Bool.not_true,zD,Ci,My,aL];exact this
end Go.Proofs
