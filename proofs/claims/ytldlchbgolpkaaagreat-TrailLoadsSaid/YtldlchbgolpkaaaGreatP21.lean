import Derived.Shelf.SlSortCmp.WholeK
import Derived.Test.YtldlchbgolpkaaaGreatP20
set_option linter.all false
namespace Go.Proofs
open Go Go.Rx Go.Vx
set_option maxRecDepth 10000
variable{N:Nat}
variable{L:V aJ}
variable{r:Nat->Nat}
theorem CD.clo{W:V (Int×Int)}{r':Nat->Nat}{out:V Int}{C:V aT}(hL:BN N [] L)(h:CD N L W r out C r'):I6 L r':=fun i j x y a b hi hj e ha hb hf=>by
 obtain⟨a',p1,p2,p3⟩:=h.tc.cov i x a hi ha;obtain⟨b',q1,q2,q3⟩:=h.tc.cov j y b hj hb;have il:=(zG.1 hi).1;rw[hL.len]at il;rw[<-e]at q1;have:a'=b':=(h.ds _ (h.ck.lt il)).eq a' p1 b' q1 (by omega);subst this;have e1:=p3 r' (fun _ _ _ _ e=>e) (fun _ hz=>by cases hz);have e2:=q3 r' (fun _ _ _ _ e=>e) (fun _ hz=>by cases hz);omega
variable{i:Nat}
theorem zdw(h:i<N):(uV 0 N)[i]? = some (i:Int):=by simp[uV,h]
def tdo(r:Nat->Nat)(i:Nat):V i5:=((List.range i).filter fun(j:Nat)=>r j != j).map fun(j:Nat)=>⟨(j:Int),(r j:Int)⟩
theorem wt{v11:Type}{l:V v11}(hi:i<N){x:v11}(hx:l[i]? = some x):m6 l 0 N (i:Int)=some x:=by have:=wq hi hx;rwa [zZ]at this
theorem zau(r:Nat->Nat)(i:Nat):tdo r (i+1)=tdo r i++(if r i=i then[]else[⟨(i:Int),(r i:Int)⟩]):=by simp only[tdo,List.range_succ,List.filter_append,List.map_append];by_cases e:r i=i;rw[if_pos e];simp[e];rw[if_neg e];simp[e]
theorem z82(r:Nat->Nat)(i:Nat):(tdo r i).length<=i:=by have:=List.length_filter_le (fun(j:Nat)=>r j != j) (List.range i);simpa[tdo]using this
theorem zb6{N:Nat}{L:V aJ}{cl r3:V Int}{r:Nat->Nat}(rN:L.length=N)(hN:N<=1000)(h:CK N cl r){n:Nat}:∀(m i:Nat),N-i<m->i<=N->
  YM L cl n r3 m (i:Int) (tdo r i) ((L.take i).map aJ.Arcs++List.replicate (N-i) [])=Pr L n r3 (tdo r N) (L.map aJ.Arcs)
 |0,i,hm,_=>by omega
 |m+1,i,hm,hi=>by
  unfold YM;have P3:=z82 r i;by_cases aF:i<N;have gJ:i<L.length:=by omega
  obtain⟨x,hx,_⟩:=eA gJ;have hw:IntKind.i64.wrap ((i:Int)+1)=((i+1:Nat):Int):=iF aF (by omega);have hv:m6 ((L.take i).map aJ.Arcs++List.replicate (N-i) ([]:V aG)) 0 L.length (i:Int)=some []:=by refine wt gJ ?_;rw[List.getElem?_append_right (by simp only[yA,List.length_take];omega)];simp only[yA,List.length_take,List.getElem?_replicate];rw[if_pos (by omega)]
  have K0:((L.take i).map aJ.Arcs++List.replicate (N-i) ([]:V aG)).set i x.Arcs=(L.take (i+1)).map aJ.Arcs++List.replicate (N-(i+1)) []:=by
   obtain⟨k,hk⟩:∃k,N-i=k+1:=⟨N-i-1,by omega⟩;rw[hk,show N-(i+1)=k by omega,iY hx,List.map_append,List.replicate_succ,List.set_append_right _ _ (by simp only[yA,List.length_take];omega)];have:i-((L.take i).map aJ.Arcs).length=0:=by simp only[yA,List.length_take];omega
   rw[this];simp
  have ih:=zb6 (r3:=r3) rN hN h (n:=n) m (i+1) (by omega) (by omega);simp only[gP gJ,zC,cH,hx,aP,hv,h.get i aF,Ps,hw,zZ,K0];rw[zau]at ih;by_cases e:r i=i;have eb:((r i:Int) != (i:Int))=false:=by rw[e];simp
  rw[if_pos e,List.append_nil]at ih;rw[eb,zD,ih];have eb:((r i:Int) != (i:Int))=true:=by simp only[bne_iff_ne,ne_eq];omega
  rw[if_neg e]at ih;rw[eb,zC,fO (by omega),ih];have:i=N:=by omega
  subst this;have gJ:¬ i<L.length:=by omega
  simp only[hX gJ,zD];rw[zW (by omega),Nat.sub_self,List.replicate_zero,List.append_nil]
def Di(x:aJ):aT:=⟨-1,0,x.Arcs⟩
theorem wy{x:aJ}(h:L[i]? = some x):celN (L.map Di) i=Di x:=by simp[celN,h]
structure CR(N:Nat)(L:V aJ)(r r':Nat->Nat)(out:V Int):Prop where
 ck:CK N out r'
 clo:I6 L r'
 up:∀i j,i<N->j<N->r i=r j->r' i=r' j
 low:∀q,I6 L q->(∀i j,i<N->j<N->r i=r j->q i=q j)->∀i j,i<N->j<N->r' i=r' j->q i=q j
variable{n:Nat}
theorem z95(hL:BN N [] L)(hN:N<=1000)(hD:∀x∈L,mN x.Arcs/\x.Arcs.length<=12){cl:V Int}(h:CK N cl r)(hn:200000<=n):∃out r',yh n L cl=some out/\CR N L r r' out:=by
 have rN:=hL.len;have P3:=z82 r N;have hap:=z8s (N:=N) (by omega) (n:=n) (by omega);have l1:=zb6 (r3:=uV 0 N) rN hN h (n:=n) n 0 (by omega) (by omega);rw[show tdo r 0=[]from rfl,List.take_zero,List.map_nil,List.nil_append,Nat.sub_zero,zV]at l1;have Aa:tot (L.map Di)<=12*N:=by
  have:=qn (cells:=L.map Di) fun c hc=>by obtain⟨x,hx,rfl⟩:=List.mem_map.1 hc;exact(hD x hx).2
  rwa [yA,rN]at this
 have mem:∀{i:Nat},i<N->∃x,L[i]? = some x:=fun{i} hi=>⟨_,List.getElem?_eq_getElem (by omega)⟩;have o9:CS N L ((tdo r N).map ua) (L.map aJ.Arcs) (uV 0 N) (L.map Di) id:=⟨⟨H' 0 N,fun i hi=>zdw hi,fun _ _=>zF _,fun _ _=>rfl⟩,by simp[rN],by simp[rN],fun i hi _=>by
   obtain⟨x,hx⟩:=mem hi;rw[List.getElem?_map,hx,wy hx];rfl,fun i hi=>by
   obtain⟨x,hx⟩:=mem hi;rw[wy hx];exact(hD x (zX hx)).1,fun p hp=>by
   obtain⟨q,hq,rfl⟩:=List.mem_map.1 hp;obtain⟨j,hj,rfl⟩:=List.mem_map.1 hq;have:=List.mem_range.1 (List.mem_filter.1 hj).1;have:=h.lt this;simp only[ua];exact⟨by omega,by omega⟩,⟨fun j x a hj ha=>⟨a,by show a∈(celN _ j).arcs;rw[wy hj];exact ha,rfl,fun q _ _=>rfl⟩,fun i b hi _ hb=>by
   obtain⟨x,hx⟩:=mem hi;rw[wy hx]at hb;exact⟨i,x,hx,rfl,hb⟩,fun i hi _ k=>by
   obtain⟨x,hx⟩:=mem hi;have:f0 [] (celN (L.map Di) i).kind=0:=by simp[f0]
   rw[this,Nat.zero_testBit];exact⟨fun e=>(by cases e),fun g=>(by have:=g i x hx rfl;simp[f0]at this)⟩⟩⟩
 obtain⟨out,C',r',g1,g2⟩:=ed hL hN hn n 0 (tdo r N) (L.map aJ.Arcs) (uV 0 N) (L.map Di) id (by rw[List.drop_zero];exact o9) (by omega) (by omega) (by omega);rw[List.drop_zero]at g2;rw[zV]at g1;refine⟨out,r',?_,g2.ck,g2.clo hL,fun i j hi hj e=>?_,fun q hq hu i j hi hj e=>?_⟩;rw[yh,rN,hap,aP,fO (by omega),zZ,l1,Pr,g1];have key:∀i,i<N->r' i=r' (r i):=fun i hi=>by by_cases e:r i=i;rw[e];have:=g2.prs ((i:Int),(r i:Int)) (List.mem_map.2 ⟨⟨(i:Int),(r i:Int)⟩,List.mem_map.2 ⟨i,List.mem_filter.2 ⟨List.mem_range.2 hi,by simpa using e⟩,rfl⟩,rfl⟩);simpa using this
 rw[key i hi,key j hj,e];refine(g2.und q hq ⟨fun i j _ _ e=>by rw[show i=j from e],fun p hp=>?_⟩).r i j hi hj e;obtain⟨z,hz,rfl⟩:=List.mem_map.1 hp;obtain⟨k,hk,rfl⟩:=List.mem_map.1 hz;have hkN:=List.mem_range.1 (List.mem_filter.1 hk).1;simp only[ua,zZ];exact hu k (r k) hkN (h.lt hkN) (h.idem k hkN).symm
theorem z73{a b:Nat}(ha:a<4611686018427387904)(hb:b<4611686018427387904)(hn:5<=n):J8 n (bt a) (bt b)=some (bt (a&&&b)):=by obtain⟨k,rfl⟩:=Nat.exists_eq_add_of_le' hn;by_cases h:a=0;subst h;rw[Nat.zero_and];have:=qt (n:=k+5) hn;simp only[J8,Q8,Pn,zS,S5,this,aP];rfl;have h1:=Q1 (a:=a) (b:=b) (by omega) (by omega);have h2:=qr (w:=a&&&b) (n:=k+5) hn;have e:J8 (k+5) [(a:Int)] (bt b)=a8 (YD (k+5) (bt b) 0) fun fN=>aH ((0+1)*8<=140737488355328/\0+1<=140737488355328) (S5 (k+5) [GM .u64 (a:Int) fN]):=rfl;rw[tF h,e,B',aP,fO (by omega),S5,h1,h2];rfl
theorem z7g{h:cZ}{ws:V Nat}(hh:nP h ws){c:Nat}{n:Nat}(hn:5<=n):∀(m i:Nat),ws.length-i<m->i<=ws.length->(∀(k:Nat),k<i->ws[k]? ≠some c)->
  (c∈ws->∃k:Nat,Hg h (bt c) n m (i:Int)=some ((k:Int),true)/\ws[k]? = some c)/\(c ∉ ws->Hg h (bt c) n m (i:Int)=some (0,false))
 |0,i,hm,_,_=>by omega
 |m+1,i,hm,hi,fD=>by have hl:=hh.tl;have Vb:=hh.len;unfold Hg;by_cases aF:i<ws.length;obtain⟨w,hw,FU⟩:=eA aF;obtain⟨t,ht,he⟩:=hh.at hw;simp only[hl,gP aF,zC,cH,ht,aP,he,ay hn,iF aF (show ws.length<=9223372036854775807 by omega)];by_cases e:w=c;simp only[e,yC,zC];exact⟨fun _=>⟨i,rfl,by rw[hw,e]⟩,fun q=>absurd (e ▸ FU) q⟩;simp only[e,yB,zD];exact z7g hh hn m (i+1) (by omega) (by omega) (fun k hk=>by by_cases e2:k=i;subst e2;rw[hw];intro q;exact e (Option.some.inj q);exact fD k (by omega));simp only[hl,hX aF,zD,b_];refine⟨fun hc=>?_,fun _=>trivial⟩;obtain⟨q,hq⟩:=List.mem_iff_getElem?.1 hc;have:=(zG.1 hq).1;exact absurd hq (fD q (by omega))
theorem WZ{h:cZ}{ws:V Nat}(hh:nP h ws){s t:Int}(hs:0<=s/\s<(ws.length:Int))(ht:0<=t/\t<(ws.length:Int))(hn:2000<=n):
  ∃r,vn n h s t=some r/\(r.2=false->f0 ws s&&&f0 ws t=0)/\(r.2=true->(0<=r.1/\r.1<(ws.length:Int))/\f0 ws r.1=f0 ws s&&&f0 ws t):=by
 have c1:=M8 hs;have c2:=M8 ht;obtain⟨x,hx,ex⟩:=hh.at c1;obtain⟨y,hy,ey⟩:=hh.at c2;have m1:=zX c1;have m2:=zX c2;have Vb:=hh.len;have i1:aC h.Types s=some x:=by rw[show s=((s.toNat:Nat):Int) by omega,cH];exact hx
 have i2:aC h.Types t=some y:=by rw[show t=((t.toNat:Nat):Int) by omega,cH];exact hy
 obtain⟨f1,f2⟩:=z7g hh (c:=f0 ws s&&&f0 ws t) (n:=n) (by omega) n 0 (by omega) (by omega) (fun k hk=>by omega);rw[zV]at f1 f2;simp only[vn,i1,i2,aP,ex,ey,z73 (hh.ok _ m1).2 (hh.ok _ m2).2 (show 5<=n by omega),jw];by_cases e:f0 ws s&&&f0 ws t=0;rw[f2 (fun q=>(hh.ok _ q).1 e)];exact⟨_,rfl,fun _=>e,fun q=>by cases q⟩;obtain⟨k,g1,g2⟩:=f1 (hh.cls _ m1 _ m2 e);rw[g1];refine⟨_,rfl,(fun q=>by cases q),fun _=>⟨?_,?_⟩⟩;have:=(zG.1 g2).1;simp only;omega;simp only[f0,zZ,g2,Option.getD_some]
structure TI(ws:V Nat)(N:Nat)(L:V aJ)(r:Nat->Nat)(i:Nat)(o:V Int):Prop where
 len:o.length=N
 at_:∀c,c<N->∃t,o[c]? = some t/\(0<=t/\t<(ws.length:Int))/\∀k,(f0 ws t).testBit k=true↔(f0 ws 0).testBit k=true/\∀(j:Nat)(x:aJ),j<i->L[j]? = some x->r j=c->(f0 ws x.Typex).testBit k=true
def KOk(ws:V Nat)(L:V aJ):Prop:=∀x∈L,0<=x.Typex/\x.Typex<(ws.length:Int)
theorem z1t{h:cZ}{ws:V Nat}(hh:nP h ws){N:Nat}{L:V aJ}(rN:L.length=N)(hN:N<=1000)(hk:KOk ws L){cl:V Int}{r:Nat->Nat}(hc:CK N cl r){n:Nat}(hn:2000<=n):∀(m i:Nat)(o:V Int),N-i<m->i<=N->TI ws N L r i o->
  (∃o',TI ws N L r N o'/\Hl h L cl n m (i:Int) o=Po L cl n o')\/(Hl h L cl n m (i:Int) o=some ([],false)/\∃c,c<N/\∀k,¬ ((f0 ws 0).testBit k=true/\∀(j:Nat)(x:aJ),L[j]? = some x->r j=c->(f0 ws x.Typex).testBit k=true))
 |0,i,o,hm,_,_=>by omega
 |m+1,i,o,hm,hi,hI=>by
  unfold Hl;by_cases aF:i<N;have gJ:i<L.length:=by omega
  obtain⟨x,hx,fT⟩:=eA gJ;have wC:=hc.lt aF;obtain⟨t,t1,t2,t3⟩:=hI.at_ (r i) wC;have hv:m6 o 0 L.length (r i:Int)=some t:=wt (by omega) t1;obtain⟨q,q1,q2,q3⟩:=WZ hh t2 (hk x fT) hn;simp only[gP gJ,zC,cH,hc.get i aF,aP,hv,hx,q1,zZ,iF gJ (show L.length<=9223372036854775807 by omega)];cases hb:q.2 with
  |false=>refine .inr ⟨by simp only[Bool.not_false,zC],r i,wC,fun k K9=>?_⟩;have h0:=q2 hb;have:=congrArg (fun z=>z.testBit k) h0;simp only[Nat.testBit_and,Nat.zero_testBit,Bool.and_eq_false_iff]at this;rcases this with g |g;have:=(t3 k).2 ⟨K9.1,fun j y hj hy hr=>K9.2 j y hy hr⟩;rw[g]at this;cases this;have:=K9.2 i x hx rfl;rw[g]at this;cases this
  |true=>obtain⟨q4,q5⟩:=q3 hb;simp only[Bool.not_true,zD];refine z1t hh rN hN hk hc hn m (i+1) (o.set (r i) q.1) (by omega) (by omega) ⟨by simp[hI.len],fun c EF=>?_⟩;by_cases e:r i=c;subst e;refine⟨q.1,by rw[List.getElem?_set_self (by rw[hI.len];exact wC)],q4,fun k=>?_⟩;rw[q5,Nat.testBit_and,Bool.and_eq_true,t3];constructor;rintro⟨⟨g1,g2⟩,g3⟩;refine⟨g1,fun j y hj hy hr=>?_⟩;by_cases ej:j=i;subst ej;rw[hx]at hy;cases hy;exact g3;exact g2 j y (by omega) hy hr;rintro⟨g1,g2⟩;exact⟨⟨g1,fun j y hj hy hr=>g2 j y (by omega) hy hr⟩,g2 i x (by omega) hx rfl⟩;obtain⟨t',u1,u2,u3⟩:=hI.at_ c EF;refine⟨t',by rw[List.getElem?_set_ne e];exact u1,u2,fun k=>?_⟩;rw[u3];constructor;rintro⟨g1,g2⟩;refine⟨g1,fun j y hj hy hr=>?_⟩;by_cases ej:j=i;subst ej;exact absurd hr e;exact g2 j y (by omega) hy hr;rintro⟨g1,g2⟩;exact⟨g1,fun j y hj hy hr=>g2 j y (by omega) hy hr⟩
  have:i=N:=by omega
  subst this;have gJ:¬ i<L.length:=by omega
  simp only[hX gJ,zD];exact .inl ⟨o,hI,rfl⟩
theorem z1u{N:Nat}{L:V aJ}(rN:L.length=N)(hN:N<=1000){cl:V Int}{r:Nat->Nat}(hc:CK N cl r){o0:V Int}(ho:o0.length=N):∀(m i:Nat)(o:V Int),N-i<m->i<=N->o.length=N->(∀c,c<N->o[c]? = if c<i then o0[r c]? else o0[c]?)->
  ∃o',Qr L cl m (i:Int) o=some (o',true)/\o'.length=N/\∀c,c<N->o'[c]? = o0[r c]?
 |0,i,o,hm,_,_,_=>by omega
 |m+1,i,o,hm,hi,A6,hI=>by
  unfold Qr;by_cases aF:i<N;have gJ:i<L.length:=by omega
  have wC:=hc.lt aF;have sL:=hc.le i aF;have KA:=hc.idem i aF;have v03:∀c,c<N->∃v,o0[c]? = some v:=fun c EF=>⟨_,List.getElem?_eq_getElem (by omega)⟩;obtain⟨v,hv⟩:=v03 (r i) wC;have h1:o[r i]? = some v:=by rw[hI _ wC];split;rw[KA];exact hv;exact hv
  obtain⟨w,hw⟩:=v03 i aF;have h2:o[i]? = some w:=by rw[hI i aF,if_neg (by omega)];exact hw
  simp only[gP gJ,zC,cH,hc.get i aF,aP,wt (show r i<L.length by omega) h1,wt gJ h2,zZ,iF gJ (show L.length<=9223372036854775807 by omega)];refine z1u rN hN hc ho m (i+1) (o.set i v) (by omega) (by omega) (by simp[A6]) fun c EF=>?_;by_cases e:i=c;subst e;rw[List.getElem?_set_self (by omega),if_pos (by omega),hv];rw[List.getElem?_set_ne e,hI c EF];by_cases e2:c<i;rw[if_pos e2,if_pos (by omega)];rw[if_neg e2,if_neg (by omega)];have:i=N:=by omega
  subst this;have gJ:¬ i<L.length:=by omega
  rw[hX gJ];simp only[zD,n_,rN,zZ];rw[fO A6.symm];exact⟨o,rfl,A6,fun c EF=>by rw[hI c EF,if_pos EF]⟩
structure Zv(ws:V Nat)(N:Nat)(L:V aJ)(r:Nat->Nat)(o:V Int):Prop where
 len:o.length=N
 at_:∀i,i<N->∃t,o[i]? = some t/\(0<=t/\t<(ws.length:Int))/\∀k,(f0 ws t).testBit k=true↔∀(j:Nat)(x:aJ),L[j]? = some x->r j=r i->(f0 ws x.Typex).testBit k=true
theorem z1v{h:cZ}{ws:V Nat}(hh:nP h ws)(rN:L.length=N)(hN:N<=1000)(hk:KOk ws L){cl:V Int}(hc:CK N cl r)(hn:2000<=n):
  (∃o,YG n h L cl=some (o,true)/\Zv ws N L r o/\¬ VL ws L r)\/(YG n h L cl=some ([],false)/\VL ws L r):=by
 have gA:=hh.pos;have CH:∀(j:Nat)(x:aJ)(k:Nat),L[j]? = some x->(f0 ws x.Typex).testBit k=true->(f0 ws 0).testBit k=true:=fun j x k hj hb=>by have hm:=zX (M8 (hk x (zX hj)));have:=congrArg (fun z=>z.testBit k) (hh.top _ hm);simp only[Nat.testBit_and,hb,Bool.and_true]at this;exact this
 have h0:TI ws N L r 0 (List.replicate N 0):=⟨by simp,fun c EF=>⟨0,by rw[List.getElem?_replicate,if_pos EF],⟨by omega,by omega⟩,fun k=>⟨fun g=>⟨g,fun j x hj=>by omega⟩,fun g=>g.1⟩⟩⟩;have:=z1t hh rN hN hk hc hn n 0 (List.replicate N 0) (by omega) (by omega) h0;rw[zV]at this;simp only[YG,rN,zZ];rw[fO (by omega)];rcases this with⟨o',g1,g2⟩|⟨g1,c,EF,g2⟩;refine .inl ?_;obtain⟨o,p1,p2,p3⟩:=z1u rN hN hc g1.len n 0 o' (by omega) (by omega) g1.len (fun c EF=>by rw[if_neg (by omega)]);rw[zV]at p1;have pE:∀i,i<N->∃t,o[i]? = some t/\(0<=t/\t<(ws.length:Int))/\∀k,(f0 ws t).testBit k=true↔∀(j:Nat)(x:aJ),L[j]? = some x->r j=r i->(f0 ws x.Typex).testBit k=true:=fun i hi=>by obtain⟨t,t1,t2,t3⟩:=g1.at_ (r i) (hc.lt hi);refine⟨t,by rw[p3 i hi];exact t1,t2,fun k=>?_⟩;rw[t3];constructor;rintro⟨_,q2⟩ j x hj hr;exact q2 j x (by have:=(zG.1 hj).1;omega) hj hr;intro q;refine⟨?_,fun j x _ hj hr=>q j x hj hr⟩;have hx:L[i]? = some L[i]:=List.getElem?_eq_getElem (by omega);exact CH i _ k hx (q i _ hx rfl)
 refine⟨o,by rw[g2,Po,p1],⟨p2,pE⟩,fun⟨i,hi,hb⟩=>?_⟩;rw[rN]at hi;obtain⟨t,t1,t2,t3⟩:=pE i hi;obtain⟨k,K9⟩:=Nat.exists_testBit_of_ne_zero (hh.ok _ (zX (M8 t2))).1;obtain⟨j,x,q1,q2,q3⟩:=hb k;have:=(t3 k).1 K9 j x q1 q2;rw[q3]at this;cases this;refine .inr ⟨g1,?_⟩;have hz:∃i,i<N/\r i=c:=by refine Classical.byContradiction fun fD=>?_;have d5:=(hh.ok _ (zX (M8 (ws:=ws) (t:=0) ⟨by omega,by omega⟩))).1;obtain⟨k,K9⟩:=Nat.exists_testBit_of_ne_zero d5;exact g2 k ⟨K9,fun j x hj hr=>absurd ⟨j,by have:=(zG.1 hj).1;omega,hr⟩ fD⟩
 obtain⟨i,hi,rfl⟩:=hz;refine⟨i,by omega,fun k=>Classical.byContradiction fun fD=>?_⟩;have cU:∀(j:Nat)(x:aJ),L[j]? = some x->r j=r i->(f0 ws x.Typex).testBit k=true:=fun j x hj hr=>by rcases hb:(f0 ws x.Typex).testBit k with _|_;exact absurd ⟨j,x,hj,hr,hb⟩ fD;rfl
 have hx:L[i]? = some L[i]:=List.getElem?_eq_getElem (by omega);exact g2 k ⟨CH i _ k hx (cU i _ hx rfl),cU⟩
theorem zc8{x4:aJ}{f:Int}(hl:x4.Arcs.length<=100000):∀(m i:Nat),x4.Arcs.length-i<m->i<=x4.Arcs.length->Qc f x4 m (i:Int)=some (match (x4.Arcs.drop i).find? fun x=>x.Feat==f with |some x=>(x.To,true)|none=>(0,false))
 |0,i,hm,_=>by omega
 |m+1,i,hm,hi=>by unfold Qc;by_cases aF:i<x4.Arcs.length;obtain⟨x,hx,_⟩:=eA aF;simp only[gP aF,zC,cH,hx,aP,iF aF (show x4.Arcs.length<=9223372036854775807 by omega),aV hx,List.find?_cons];rcases e:x.Feat==f with _|_;simp only[zD];exact zc8 hl m (i+1) (by omega) (by omega);simp only[zC];simp only[hX aF,zD,bQ aF,rl,List.find?_nil]
theorem ze1{g:V aJ}{c:Nat}{x:aJ}{f:Int}(hx:g[c]? = some x)(hl:x.Arcs.length<=100000){n:Nat}(hn:x.Arcs.length<n):vi n ⟨g⟩ (c:Int) f=some (match x.Arcs.find? fun x=>x.Feat==f with |some x=>(x.To,true)|none=>(0,false)):=by have:=zc8 (f:=f) hl n 0 (by omega) (by omega);rw[zV,List.drop_zero]at this;simp only[vi,cH,hx,aP,this]
structure QP(N:Nat)(L:V aJ)(r:Nat->Nat)(ty:V Int)(P:Nat->aG->Prop)(K:Nat)(g:V aJ):Prop where
 len:g.length=N
 ty:∀(c:Nat)(x:aJ),g[c]? = some x->ty[c]? = some x.Typex
 ds:∀(c:Nat)(x:aJ),g[c]? = some x->mN x.Arcs/\x.Arcs.length<=K
 cov:∀(j:Nat)(c:aJ)(a:aG),L[j]? = some c->a∈c.Arcs->P j a->∃x b,g[r j]? = some x/\b∈x.Arcs/\b.Feat=a.Feat/\b.To=(r a.To.toNat:Int)
 snd:∀(i:Nat)(x:aJ)(b:aG),g[i]? = some x->b∈x.Arcs->∃(j:Nat)(c:aJ)(a:aG),L[j]? = some c/\r j=i/\a∈c.Arcs/\b.Feat=a.Feat/\b.To=(r a.To.toNat:Int)
theorem bq{N:Nat}{L:V aJ}{cl ty:V Int}{r:Nat->Nat}(hL:BN N [] L)(hN:N<=1000)(hc:CK N cl r)(hq:I6 L r){n:Nat}(hn:100000<=n){i:Nat}(hiN:i<N){y:aJ}(hy:L[i]? = some y)(hyl:y.Arcs.length<=12){rc:Int->V aJ->M GFS}{Q:M GFS->Prop}
  (K5:∀g,QP N L r ty (fun j _=>j<i+1) (12*(i+1)) g->Q (rc (IntKind.i64.wrap ((i:Int)+1)) g)):∀(m k:Nat)(g:V aJ),y.Arcs.length-k<m->k<=y.Arcs.length->QP N L r ty (fun j a=>j<i\/(j=i/\a∈y.Arcs.take k)) (12*i+k) g->
  Q (YU L cl n (i:Int) rc (r i:Int) m (k:Int) g)
 |0,k,g,hm,_,_=>by omega
 |m+1,k,g,hm,hk,hI=>by
  unfold YU;have hgl:=hI.len;have wC:=hc.lt hiN;by_cases aF:k<y.Arcs.length;obtain⟨a,ha,tX⟩:=eA aF;obtain⟨x,hx⟩:∃x,g[r i]? = some x:=⟨_,List.getElem?_eq_getElem (by omega)⟩;obtain⟨hxd,TL⟩:=hI.ds _ x hx;have hw:IntKind.i64.wrap ((k:Int)+1)=((k+1:Nat):Int):=iF aF (by omega);have tK:=hL.ar i y a hy tX;have hct:=hc.at tK;simp only[cH,hy,aP,gP aF,zC,ha,ze1 (f:=a.Feat) hx (show x.Arcs.length<=100000 by omega) (show x.Arcs.length<n by omega),Re,hw];have Ix:∀b,b∈y.Arcs.take (k+1)↔b∈y.Arcs.take k\/b=a:=fun b=>by rw[iY ha,yD,List.mem_singleton]
  cases hf:x.Arcs.find? (fun w=>w.Feat==a.Feat)with
  |some w=>
   have FU:=List.mem_of_find?_eq_some hf;have Ir:w.Feat=a.Feat:=by have:=List.find?_some hf;simpa using this
   simp only[Bool.not_true,zD];refine bq hL hN hc hq hn hiN hy hyl K5 m (k+1) g (by omega) (by omega) ⟨hI.len,hI.ty,fun c z hz=>⟨(hI.ds c z hz).1,by have:=(hI.ds c z hz).2;omega⟩,fun j c b hj hb hP=>?_,hI.snd⟩;rcases hP with hP |⟨rfl,hP⟩;exact hI.cov j c b hj hb (.inl hP);rcases(Ix b).1 hP with hP |rfl;exact hI.cov _ c b hj hb (.inr ⟨rfl,hP⟩);obtain⟨j',c',a',p1,p2,p3,p4,p5⟩:=hI.snd _ x w hx FU;refine⟨x,w,hx,FU,Ir,?_⟩;rw[p5,hq j' _ c' c a' b p1 hj p2 p3 hb (by omega)]
  |none=>
   have fD:∀w∈x.Arcs,w.Feat≠a.Feat:=fun w hw e=>by have:=List.find?_eq_none.1 hf w hw;simp[e]at this
   simp only[Bool.not_false,zC,hx,aP,hct,zZ,Nat.zero_add];rw[fO (by omega)];have K0:∀c z,(g.set (r i) ⟨x.Typex,x.Arcs++[⟨a.Feat,(r a.To.toNat:Int)⟩]⟩)[c]? = some z->(c=r i/\z=⟨x.Typex,x.Arcs++[⟨a.Feat,(r a.To.toNat:Int)⟩]⟩)\/(c≠r i/\g[c]? = some z):=fun c z hz=>by by_cases e:r i=c;subst e;rw[List.getElem?_set_self (by omega)]at hz;exact .inl ⟨rfl,(Option.some.inj hz).symm⟩;rw[List.getElem?_set_ne e]at hz;exact .inr ⟨fun q=>e q.symm,hz⟩
   refine bq hL hN hc hq hn hiN hy hyl K5 m (k+1) _ (by omega) (by omega) ⟨by rw[List.length_set];exact hI.len,fun c z hz=>?_,fun c z hz=>?_,fun j c b hj hb hP=>?_,fun j z b hz hb=>?_⟩;rcases K0 c z hz with⟨rfl,rfl⟩|⟨_,hz⟩;exact hI.ty _ x hx;exact hI.ty c z hz;rcases K0 c z hz with⟨rfl,rfl⟩|⟨_,hz⟩;refine⟨?_,by simp only[zU,zO,zS];omega⟩;unfold mN at*;rw[List.pairwise_append];exact⟨hxd,List.pairwise_singleton _ _,fun w hw v hv=>by simp at hv;subst hv;exact fD w hw⟩;exact⟨(hI.ds c z hz).1,by have:=(hI.ds c z hz).2;omega⟩;have old:(j<i\/(j=i/\b∈y.Arcs.take k))->∃x' b',(g.set (r i) ⟨x.Typex,x.Arcs++[⟨a.Feat,(r a.To.toNat:Int)⟩]⟩)[r j]? = some x'/\b'∈x'.Arcs/\b'.Feat=b.Feat/\b'.To=(r b.To.toNat:Int):=fun hp=>by obtain⟨x',b',q1,q2,q3,q4⟩:=hI.cov j c b hj hb hp;by_cases e:r i=r j;rw[<-e,hx]at q1;cases q1;exact⟨_,b',by rw[<-e,List.getElem?_set_self (by omega)],List.mem_append_left _ q2,q3,q4⟩;exact⟨x',b',by rw[List.getElem?_set_ne e];exact q1,q2,q3,q4⟩
   rcases hP with hP |⟨rfl,hP⟩;exact old (.inl hP);rcases(Ix b).1 hP with hP |rfl;exact old (.inr ⟨rfl,hP⟩);exact⟨_,⟨b.Feat,(r b.To.toNat:Int)⟩,List.getElem?_set_self (by omega),List.mem_append_right _ (List.mem_singleton.2 rfl),rfl,rfl⟩;rcases K0 j z hz with⟨rfl,rfl⟩|⟨_,hz⟩;rcases yD.1 hb with hb |hb;exact hI.snd _ x b hx hb;simp at hb;subst hb;exact⟨i,y,a,hy,rfl,tX,rfl,rfl⟩;exact hI.snd j z b hz hb
  have:k=y.Arcs.length:=by omega
  subst this;simp only[cH,hy,aP,hX aF,zD,ui];rw[List.take_length]at hI;refine K5 g ⟨hI.len,hI.ty,fun c z hz=>⟨(hI.ds c z hz).1,by have:=(hI.ds c z hz).2;omega⟩,fun j c b hj hb hP=>?_,hI.snd⟩;by_cases e:j=i;subst e;rw[hy]at hj;cases hj;exact hI.cov _ _ b hy hb (.inr ⟨rfl,hb⟩);exact hI.cov j c b hj hb (.inl (by omega))
theorem zc2{N:Nat}{L:V aJ}{cl ty:V Int}{r:Nat->Nat}(hL:BN N [] L)(hN:N<=1000)(hc:CK N cl r)(hq:I6 L r)(qN:∀x∈L,x.Arcs.length<=12){v:Int}{n:Nat}(hn:100000<=n):∀(m i:Nat)(g:V aJ),N-i<m->i<=N->QP N L r ty (fun j _=>j<i) (12*i) g->
  ∃g',QP N L r ty (fun j _=>j<N) (12*N) g'/\OP L cl v n m (i:Int) g=Ro cl v n g'
 |0,i,g,hm,_,_=>by omega
 |m+1,i,g,hm,hi,hI=>by
  unfold OP;have rN:=hL.len;by_cases aF:i<N;have gJ:i<L.length:=by omega
  obtain⟨y,hy,CF⟩:=eA gJ;simp only[gP gJ,zC,cH,hc.get i aF,aP];have:=bq (ty:=ty) hL hN hc hq hn aF hy (qN y CF) (rc:=OP L cl v n m) (Q:=fun o=>∃g',QP N L r ty (fun j _=>j<N) (12*N) g'/\o=Ro cl v n g') (fun g hg=>by rw[iF gJ (by omega)];exact zc2 hL hN hc hq qN hn m (i+1) g (by omega) (by omega) hg) n 0 g (by have:=qN y CF;omega) (by omega) ⟨hI.len,hI.ty,fun c x hx=>by have:=hI.ds c x hx;exact⟨this.1,by omega⟩,fun j c a hj ha hP=>by rcases hP with hP |⟨_,hP⟩;exact hI.cov j c a hj ha hP;simp at hP,hI.snd⟩;rw[zV]at this;exact this;have:i=N:=by omega
  subst this;have gJ:¬ i<L.length:=by omega
  rw[hX gJ];exact⟨g,hI,rfl⟩
theorem zc1{N:Nat}{L:V aJ}{cl ty:V Int}(rN:L.length=N)(hN:N<=1000)(ht:ty.length=N){v:Int}{n:Nat}:∀(m i:Nat),N-i<m->i<=N->
  Rn L cl ty v n m (i:Int) ((ty.take i).map fun t=>aJ.mk t [])=Rd L cl v n (ty.map fun t=>aJ.mk t [])
 |0,i,hm,_=>by omega
 |m+1,i,hm,hi=>by
  unfold Rn;by_cases aF:i<N;have gJ:i<L.length:=by omega
  obtain⟨t,hx,_⟩:=eA (l:=ty) (show i<ty.length by omega);have ih:=zc1 (cl:=cl) (v:=v) (n:=n) rN hN ht m (i+1) (by omega) (by omega);rw[iY hx,List.map_append]at ih;simp only[gP gJ,zC,cH,hx,aP,iF gJ (show L.length<=9223372036854775807 by omega)];rw[fO (by simp only[yA,List.length_take];omega)];exact ih;have:i=N:=by omega
  subst this;have gJ:¬ i<L.length:=by omega
  rw[hX gJ,zW (by omega)];rfl
theorem zds{ws:V Nat}{N:Nat}{L:V aJ}{cl ty:V Int}{r:Nat->Nat}(hL:BN N [] L)(hN:N<=1000)(hc:CK N cl r)(hq:I6 L r)(qN:∀x∈L,x.Arcs.length<=12/\∀a∈x.Arcs,0<=a.Feat)(pB:Zv ws N L r ty){n:Nat}(hn:100000<=n){v:Int}(hv:0<=v/\v<(N:Int)):
  ∃g,QG ws L r ⟨g⟩/\wJ ⟨g⟩/\Pp n L cl ty v=some (nR ⟨g⟩ (r v.toNat:Int)):=by
 have rN:=hL.len;have h1:=zc1 (cl:=cl) (v:=v) (n:=n) rN hN pB.len n 0 (by omega) (by omega);rw[zV,List.take_zero,List.map_nil]at h1;have h0:QP N L r ty (fun j _=>j<0) (12*0) (ty.map fun t=>aJ.mk t []):=⟨by simp[pB.len],fun c x hx=>by
   rw[List.getElem?_map]at hx;rcases e:ty[c]? with _|t;rw[e]at hx;cases hx;rw[e]at hx;cases hx;rfl,fun c x hx=>by
   rw[List.getElem?_map]at hx;rcases e:ty[c]? with _|t;rw[e]at hx;cases hx;rw[e]at hx;cases hx;exact⟨List.Pairwise.nil,zF _⟩,fun j c a _ _ h=>absurd h (by omega),fun i x b hx hb=>by
   rw[List.getElem?_map]at hx;rcases e:ty[i]? with _|t;rw[e]at hx;cases hx;rw[e]at hx;cases hx;cases hb⟩
 obtain⟨g,g1,g2⟩:=zc2 hL hN hc hq (fun x hx=>(qN x hx).1) (v:=v) hn n 0 _ (by omega) (by omega) h0;rw[zV]at g2;have mem:∀{i:Nat},i<N->∃x,L[i]? = some x:=fun{i} hi=>⟨_,List.getElem?_eq_getElem (by omega)⟩;have tyat:∀c x,g[c]? = some x->c<N/\(0<=x.Typex/\x.Typex<(ws.length:Int))/\∀k,(f0 ws x.Typex).testBit k=true↔∀(j:Nat)(y:aJ),L[j]? = some y->r j=r c->(f0 ws y.Typex).testBit k=true:=fun c x hx=>by
  have EF:c<N:=by have:=(zG.1 hx).1;have:=g1.len;omega
  obtain⟨t,t1,t2,t3⟩:=pB.at_ c EF;have:=g1.ty c x hx;rw[t1]at this;cases this;exact⟨EF,t2,t3⟩
 have hQ:QG ws L r ⟨g⟩:=⟨by show g.length=_;rw[g1.len,rN],fun i hi=>by rw[rN]at hi ⊢;exact⟨hc.lt hi,hc.idem i hi⟩,fun i x hx hr=>by obtain⟨_,t2,t3⟩:=tyat i x hx;rw[hr]at t3;exact⟨t2,t3⟩,fun i x hx _=>(g1.ds i x hx).1,fun j c a hj ha=>g1.cov j c a hj ha (by have:=(zG.1 hj).1;omega),fun i x b hx _ hb=>g1.snd i x b hx hb⟩;have hG:wJ ⟨g⟩:=fun x hx=>by obtain⟨i,hi⟩:=List.getElem?_of_mem hx;refine⟨(tyat i x hi).2.1.1,(g1.ds i x hi).1,fun b hb=>?_⟩;obtain⟨j,c,a,q1,q2,q3,q4,q5⟩:=g1.snd i x b hi hb;have tK:=hL.ar j c a q1 q3;have:=hc.lt (i:=a.To.toNat) (by omega);have hf:=(qN c (zX q1)).2 a q3;have hgl:(GFS.mk g).Nodes.length=N:=g1.len;rw[hgl];exact⟨by omega,by omega,by omega⟩
 refine⟨g,hQ,hG,?_⟩;have hrv:=hc.lt (i:=v.toNat) (by omega);have hS:cJ ⟨g⟩ 12000:=⟨by show g.length<=12000;rw[g1.len];omega,fun x hx=>by obtain⟨i,hi⟩:=List.getElem?_of_mem hx;have:=(g1.ds i x hi).2;omega⟩;have k9:=z5i hG hS (by omega) (r:=(r v.toNat:Int)) ⟨by omega,by show _<((g.length:Nat):Int);rw[g1.len];omega⟩ (n:=n) (by omega);rw[Pp,h1,Rd,g2];simp only[Ro,hc.at hv,aP,k9]
structure Pt(h:cZ)(ws:V Nat)(U:Nat)(L:V aJ)(c:V aT)(tl:V bJ)(cl:V Int)(aA d r:Nat->Nat)(D:Nat):Prop where
 lk:BN L.length [] L
 la:∀x∈L,x.Arcs.length<=12/\(∀a∈x.Arcs,0<=a.Feat/\a.Feat<(h.Feats.length:Int))/\lY x.Arcs
 lt:KOk ws L
 hp:kD L.length D (h.Feats.length:Int) (ws.length:Int) c aA d
 tc:TC ws L.length L [] c aA
 ck:CK L.length cl r
 ke:∀i j,i<L.length->j<L.length->(aA i=aA j↔r i=r j)
 bd:D+tot c<=12*L.length+U
 bt:tl.length+2*tot c<=24*L.length+2*U
def GF(h:cZ)(ws:V Nat)(U:Nat)(L:V aJ)(c:V aT)(tl:V bJ)(cl:V Int):Prop:=∃aA d r D,Pt h ws U L c tl cl aA d r D
variable{N:Nat}
variable{ws:V Nat}
variable{L:V aJ}
theorem BN.to{ws':V Nat}(h:BN N ws L):BN N ws' L:=⟨h.len,h.ar⟩
variable{h:cZ}
variable{c:V aT}
theorem GF.up{U U':Nat}{tl:V bJ}{cl:V Int}(hU:U<=U')(p:GF h ws U L c tl cl):GF h ws U' L c tl cl:=by obtain⟨aA,d,r,D,q⟩:=p;exact⟨aA,d,r,D,q.lk,q.la,q.lt,q.hp,q.tc,q.ck,q.ke,by have:=q.bd;omega,by have:=q.bt;omega⟩
structure AQ(c0:V aT)(t0:V bJ)(c:V aT)(t:V bJ):Prop where
 ex:∃tl,t=t0++tl/\(∀x∈tl,0<=x.atx/\x.atx<(c.length:Int))/\(qS tl c).take c0.length=c0
 le:c0.length<=c.length
theorem AQ.refl(c:V aT)(t:V bJ):AQ c t c t:=⟨⟨[],by simp,(fun x hx=>by cases hx),by simp[qS]⟩,zF _⟩
theorem zck(a b:V bJ)(c:V aT):qS (a++b) c=qS a (qS b c):=by simp[qS]
theorem qzj:∀(tl:V bJ)(c:V aT)(k:Nat),(qS tl c).take k=qS tl (c.take k)
 |[],c,k=>rfl|x::tl,c,k=>by have e:∀c,qS (x::tl) c=(qS tl c).set x.atx.toNat x.old:=fun c=>rfl;rw[e,e,List.take_set,qzj tl c k]
theorem AQ.trans{c0 c1 c2:V aT}{t0 t1 t2:V bJ}(h:AQ c0 t0 c1 t1)(h':AQ c1 t1 c2 t2):AQ c0 t0 c2 t2:=by
 obtain⟨tl,e1,r1,b1⟩:=h.ex;obtain⟨lS,e2,r2,b2⟩:=h'.ex;have l1:=h.le;have l2:=h'.le;refine⟨⟨tl++lS,by rw[e2,e1,zT],fun x hx=>?_,?_⟩,by omega⟩;rcases yD.1 hx with hx |hx;have:=r1 x hx;omega;exact r2 x hx;have:(qS tl (qS lS c2)).take c0.length=((qS tl (qS lS c2)).take c1.length).take c0.length:=by rw[List.take_take,Nat.min_eq_left l1]
 rw[zck,this,qzj,b2,b1]
theorem J3{v11:Type}{a b:V v11}{i:Nat}{x:v11}(h:(a++b)[i]? = some x):(i<a.length/\a[i]? = some x)\/(a.length<=i/\b[i-a.length]? = some x):=by by_cases e:i<a.length;rw[List.getElem?_append_left e]at h;exact .inl ⟨e,h⟩;rw[List.getElem?_append_right (by omega)]at h;exact .inr ⟨by omega,h⟩
def ext(N:Nat)(f:Nat->Nat)(i:Nat):Nat:=if i<N then f i else i
theorem wZ.up'{N':Nat}{FB:Int}{l:V aG}(h:wZ N FB l)(hN:N<=N'):wZ N' FB l:=⟨h.up,fun a ha=>by have:=h.ok a ha;omega⟩
theorem ww(hh:nP h ws){D:Nat}{aA d:Nat->Nat}(hp:kD N D (h.Feats.length:Int) (ws.length:Int) c aA d){f:GFS}(hf:AZ h f):kD (N+f.Nodes.length) D (h.Feats.length:Int) (ws.length:Int) (c++f.Nodes.map (lH N)) (ext N aA) (fun i=>if i<N then d i else 0):=by
 have eZ:=hp.len;have tW:∀x∈f.Nodes.map (lH N),Flat (N+f.Nodes.length) (h.Feats.length:Int) (ws.length:Int) x:=fun x hx=>by rw[<-hh.tl];exact hf.flat (zF _) hx
 have fV:∀{g:Nat->Nat}{i:Nat},i<N->ext N g i=g i:=fun hi=>if_pos hi;have eNew:∀{g:Nat->Nat}{i:Nat},N<=i->ext N g i=i:=fun{g i} hi=>if_neg (by omega);refine⟨⟨fun i hi=>?_,fun i hi=>?_,fun i hi=>?_,fun i hi=>?_⟩,⟨fun i x hx hr=>?_,fun i x hx hr=>?_⟩,by simp[eZ],fun i x hx=>?_,fun i x hx=>?_⟩;by_cases e:i<N;rw[fV e];have:=hp.rok.lt i e;omega;rw[eNew (by omega)];exact hi;by_cases e:i<N;rw[fV e,fV (hp.rok.lt i e)];exact hp.rok.idem i e;have e1:ext N aA i=i:=eNew (by omega);rw[e1,e1];by_cases e:i<N;rw[fV e,if_pos (hp.rok.lt i e)];exact hp.rok.zero i e;rw[eNew (by omega),if_neg e];show(if i<N then d i else 0)<=D;by_cases e:i<N;rw[if_pos e];exact hp.rok.bd i e;rw[if_neg e];omega;rcases J3 hx with⟨h1,h2⟩|⟨h1,h2⟩
 rw[fV (by omega)]at hr;exact hp.cok.root i x h2 hr;exact(tW x (zX h2)).fw;rcases J3 hx with⟨h1,h2⟩|⟨h1,h2⟩;have e:i<N:=by omega
 rw[fV e]at hr;obtain⟨j,q1,q2,q3,q4⟩:=hp.cok.fwd i x h2 hr;exact⟨j,q1,by omega,by rw[fV q2,fV e];exact q3,by simp only[q2,e,if_true];exact q4⟩;exact absurd (eNew (by omega)) hr;rcases J3 hx with⟨h1,h2⟩|⟨h1,h2⟩;exact(hp.ar i x h2).up' (by omega);exact(tW x (zX h2)).ar;rcases J3 hx with⟨h1,h2⟩|⟨h1,h2⟩;exact hp.kd i x h2;exact(tW x (zX h2)).kd
theorem zdn(hh:nP h ws){U:Nat}{tl:V bJ}{cl:V Int}(p:GF h ws U L c tl cl){f:GFS}(hf:AZ h f):
  GF h ws U (L++f.Nodes.map (DI L.length)) (c++f.Nodes.map (lH L.length)) tl (cl++uV L.length f.Nodes.length):=by
 obtain⟨aA,d,r,D,p⟩:=p;have eZ:=p.hp.len;have Jo:(L++f.Nodes.map (DI L.length)).length=L.length+f.Nodes.length:=by simp
 have tW:∀x∈f.Nodes.map (lH L.length),Flat (L.length+f.Nodes.length) (h.Feats.length:Int) (ws.length:Int) x:=fun x hx=>by rw[<-hh.tl];exact hf.flat (zF _) hx
 have cOld:∀{i:Nat},i<L.length->celN (c++f.Nodes.map (lH L.length)) i=celN c i:=fun{i} hi=>by simp only[celN,List.getElem?_append_left (show i<c.length by omega)]
 have cNew:∀{i:Nat}{x:aJ},f.Nodes[i]? = some x->celN (c++f.Nodes.map (lH L.length)) (L.length+i)=lH L.length x:=fun{i x} hx=>by simp only[celN,List.getElem?_append_right (show c.length<=L.length+i by omega),eZ,Nat.add_sub_cancel_left,List.getElem?_map,hx,zM,Option.getD_some]
 have LOld:∀{j:Nat}{x:aJ},(L++f.Nodes.map (DI L.length))[j]? = some x->(j<L.length/\L[j]? = some x)\/∃(i:Nat)(y:aJ),j=L.length+i/\f.Nodes[i]? = some y/\x=DI L.length y:=fun{j x} hj=>by rcases J3 hj with⟨h1,h2⟩|⟨h1,h2⟩;exact .inl ⟨h1,h2⟩;rw[List.getElem?_map]at h2;rcases e:f.Nodes[j-L.length]? with _|y;rw[e]at h2;cases h2;rw[e]at h2;exact .inr ⟨j-L.length,y,by omega,e,(Option.some.inj h2).symm⟩
 have fV:∀{g:Nat->Nat}{i:Nat},i<L.length->ext L.length g i=g i:=fun hi=>if_pos hi;have eNew:∀{g:Nat->Nat}{i:Nat},L.length<=i->ext L.length g i=i:=fun{g i} hi=>if_neg (by omega);have tK:∀(i:Nat)(y:aJ),f.Nodes[i]? = some y->∀a∈y.Arcs,0<=a.To/\a.To<(f.Nodes.length:Int):=fun i y hy a ha=>by have:=(hf.nok y (zX hy)).2.ok a ha;exact⟨this.2.2.1,this.2.2.2⟩
 have FX:=ww hh p.hp hf;refine⟨ext L.length aA,(fun i=>if i<L.length then d i else 0),ext L.length r,D,?_⟩;have Aa:tot (c++f.Nodes.map (lH L.length))<=tot c+12*f.Nodes.length:=by have:=qn (cells:=f.Nodes.map (lH L.length)) fun x hx=>(tW x hx).sm;rw[yA]at this;simp only[tot,List.map_append,List.sum_append]at this ⊢;omega
 have gW:=p.bd;have hbt:=p.bt;refine⟨⟨rfl,fun j x a hj ha=>?_⟩,fun x hx=>?_,fun x hx=>?_,by rw[Jo];exact FX,⟨fun j x a hj ha=>?_,fun i b hi hr hb=>?_,fun i hi hr k=>?_⟩,⟨?_,fun i hi=>?_,fun i hi=>?_,fun i hi=>?_⟩,fun i j hi hj=>?_,by rw[Jo];omega,by rw[Jo];omega⟩;rw[Jo];rcases LOld hj with⟨h1,h2⟩|⟨i,y,rfl,h2,rfl⟩;have:=p.lk.ar j x a h2 ha;omega;obtain⟨a0,ha0,rfl⟩:=List.mem_map.1 ha;have:=tK i y h2 a0 ha0;simp only[EX];omega;rcases yD.1 hx with hx |hx;exact p.la x hx;obtain⟨y,hy,rfl⟩:=List.mem_map.1 hx;have hk:=(hf.nok y hy).2;refine⟨by simp only[DI,yA];exact hf.sm.arcs y hy,fun a ha=>?_,QJ hk.up⟩;obtain⟨a0,ha0,rfl⟩:=List.mem_map.1 ha;have:=hk.ok a0 ha0;exact⟨this.1,this.2.1⟩;rcases yD.1 hx with hx |hx;exact p.lt x hx;obtain⟨y,hy,rfl⟩:=List.mem_map.1 hx;have:=(hf.nok y hy).1;rw[hh.tl]at this;exact this;rcases LOld hj with⟨h1,h2⟩|⟨i,y,rfl,h2,rfl⟩;obtain⟨b,q1,q2,q3⟩:=p.tc.cov j x a h2 ha;have wC:=p.hp.rok.lt j h1;refine⟨b,by rw[fV h1,cOld wC];exact q1,q2,fun q w1 w2=>q3 q (fun i j hi hj e=>w1 i j (by omega) (by omega) (by rw[fV hi,fV hj];exact e)) (fun _ hz=>by cases hz)⟩;refine⟨a,by rw[eNew (by omega),cNew h2];exact ha,rfl,fun q _ _=>rfl⟩;by_cases e:i<L.length;rw[fV e]at hr;rw[cOld e]at hb;obtain⟨j,x,q1,q2,q3⟩:=p.tc.snd i b e hr hb;have jl:=(zG.1 q1).1;exact⟨j,x,by rw[List.getElem?_append_left jl];exact q1,by rw[fV jl];exact q2,q3⟩;obtain⟨k,rfl⟩:∃k,i=L.length+k:=⟨i-L.length,by omega⟩;obtain⟨y,hy,_⟩:=eA (l:=f.Nodes) (show k<f.Nodes.length by omega);rw[cNew hy]at hb;exact⟨L.length+k,DI L.length y,by rw[List.getElem?_append_right (by omega),Nat.add_sub_cancel_left,List.getElem?_map,hy];rfl,eNew (by omega),hb⟩;by_cases e:i<L.length;rw[fV e]at hr;rw[cOld e,p.tc.kd i e hr];constructor;intro g j x hj CL;rcases LOld hj with⟨h1,h2⟩|⟨m,y,rfl,h2,rfl⟩;rw[fV h1]at CL;exact g j x h2 CL;rw[eNew (by omega)]at CL;omega;intro g j x hj CL;have jl:=(zG.1 hj).1;exact g j x (by rw[List.getElem?_append_left jl];exact hj) (by rw[fV jl];exact CL);obtain⟨m,rfl⟩:∃m,i=L.length+m:=⟨i-L.length,by omega⟩;obtain⟨y,hy,_⟩:=eA (l:=f.Nodes) (show m<f.Nodes.length by omega);rw[cNew hy];have tM:(L++f.Nodes.map (DI L.length))[L.length+m]? = some (DI L.length y):=by rw[List.getElem?_append_right (by omega),Nat.add_sub_cancel_left,List.getElem?_map,hy];rfl
 constructor;intro g j x hj CL;have:j=L.length+m:=by by_cases e2:j<L.length;rw[fV e2]at CL;have:=p.hp.rok.lt j e2;omega;rw[eNew (by omega)]at CL;exact CL
 subst this;rw[tM]at hj;cases hj;exact g;intro g;exact g (L.length+m) (DI L.length y) tM (eNew (by omega));rw[zU,H',p.ck.len,Jo];rw[Jo]at hi;by_cases e:i<L.length;rw[List.getElem?_append_left (by rw[p.ck.len];exact e),fV e];exact p.ck.get i e;rw[List.getElem?_append_right (by rw[p.ck.len];omega),p.ck.len,eNew (by omega)];simp only[uV,List.getElem?_map,List.getElem?_range (show i-L.length<f.Nodes.length by omega),zM];congr 1;omega;by_cases e:i<L.length;rw[fV e];exact p.ck.le i e;rw[eNew (by omega)];exact zF _;by_cases e:i<L.length;rw[fV e,fV (p.ck.lt e)];exact p.ck.idem i e;have e1:ext L.length r i=i:=eNew (by omega);rw[e1,e1];by_cases e:i<L.length;by_cases e2:j<L.length;rw[fV e,fV e2,fV e,fV e2];exact p.ke i j e e2;have:=p.hp.rok.lt i e;have:=p.ck.lt e;rw[fV e,eNew (by omega),fV e,eNew (by omega)];constructor<;>intro q<;>omega;by_cases e2:j<L.length;have:=p.hp.rok.lt j e2;have:=p.ck.lt e2;rw[eNew (by omega),fV e2,eNew (by omega),fV e2];constructor<;>intro q<;>omega;rw[eNew (by omega),eNew (by omega),eNew (by omega),eNew (by omega)]
variable{r:Nat->Nat}
theorem Jw.wide{N:Nat}{W:V (Int×Int)}{x y:Nat}(h:Jw N r [] x y):Jw N r W x y:=fun q q1 _=>h q q1 (fun _ hz=>by cases hz)
variable{ws:V Nat}
variable{L:V aJ}
theorem qvc{q q':Nat->Nat}(h:VL ws L q)(he:∀i j,i<L.length->j<L.length->q i=q j->q' i=q' j):VL ws L q':=by obtain⟨i,hi,hb⟩:=h;refine⟨i,hi,fun k=>?_⟩;obtain⟨j,x,q1,q2,q3⟩:=hb k;exact⟨j,x,q1,he j i (zG.1 q1).1 hi q2,q3⟩
variable{h:cZ}
variable{n:Nat}
theorem Tc(hh:nP h ws)(hn:2000<=n):Zx ws (BD n h):=⟨fun s t hs ht e=>by
  rcases qu hh hs ht hn with⟨_,_,h3⟩|⟨r,h1,_⟩;exact h3;rw[h1]at e;exact(Option.some_ne_none _ e).elim,fun s t r hs ht e=>by
  rcases qu hh hs ht hn with⟨h1,_⟩|⟨r',h1,_,h3,h4⟩;rw[h1]at e;cases e;rw[h1]at e;cases e;exact⟨h3,h4⟩⟩
theorem Pt.dis{h:cZ}{ws:V Nat}{U:Nat}{L:V aJ}{c:V aT}{tl:V bJ}{cl:V Int}{aA d r:Nat->Nat}{D:Nat}(p:Pt h ws U L c tl cl aA d r D):∀x∈L,mN x.Arcs/\x.Arcs.length<=12:=fun x hx=>⟨(p.la x hx).2.2.dis,(p.la x hx).1⟩
theorem Pt.clo{h:cZ}{ws:V Nat}{U:Nat}{L:V aJ}{c:V aT}{tl:V bJ}{cl:V Int}{aA d r:Nat->Nat}{D:Nat}(p:Pt h ws U L c tl cl aA d r D):I6 L r:=fun i j x y a b hi hj e ha hb hf=>by
 have il:=(zG.1 hi).1;have jl:=(zG.1 hj).1;have h1:=p.lk.ar i x a hi ha;have h2:=p.lk.ar j y b hj hb;exact(p.ke _ _ (by omega) (by omega)).1 (p.tc.clo p.lk.to p.hp i j x y a b hi hj ((p.ke i j il jl).2 e) ha hb hf)
theorem Pt.good{h:cZ}{ws:V Nat}(hh:nP h ws){U:Nat}{L:V aJ}{c:V aT}{tl:V bJ}{cl:V Int}{aA d r:Nat->Nat}{D:Nat}(p:Pt h ws U L c tl cl aA d r D):¬ VL ws L r:=fun hb=>
 p.tc.good p.lk.to (fun w hw=>(hh.ok w hw).1) p.hp (qvc hb fun i j hi hj e=>(p.ke i j hi hj).2 e)
variable{c:V aT}
variable{tl:V bJ}
variable{cl:V Int}
theorem zak(hh:nP h ws){U:Nat}{aA d:Nat->Nat}{D:Nat}(p:Pt h ws U L c tl cl aA d r D)(hL:L.length<=1000):cJ (cG c aA) 1000:=by
 have eZ:=p.hp.len;refine⟨by simp only[cG,yA];omega,fun x hx=>?_⟩;obtain⟨y,hy,rfl⟩:=List.mem_map.1 hx;obtain⟨i,hi⟩:=List.getElem?_of_mem hy;have ha:=p.hp.ar i y hi;have CV:=hh.fl;have:(y.arcs.map aG.Feat).length<=h.Feats.length:=Oy h.Feats.length (by rw[List.Nodup,List.pairwise_map];exact ha.up.imp fun{a b} q=>by omega) fun v hv=>by obtain⟨a,hm,rfl⟩:=List.mem_map.1 hv;have:=ha.ok a hm;exact⟨this.1,this.2.1⟩
 rw[yA]at this;simp only[ZC,yA];omega
theorem zdo(hh:nP h ws){U:Nat}{aA d:Nat->Nat}{D:Nat}(p:Pt h ws U L c tl cl aA d r D)(hL:L.length<=300)(hU:U<=1000)(hn:200000<=n){v:Int}(hv:0<=v/\v<(L.length:Int))(p9:V bJ)(iH:V d6)(rm:V qH):
  cJ (yJ n c aA v) 1000/\DZ n v h.Types h.Feats c p9 iH=some (yJ n c aA v,true)/\YC n ⟨h,L,cl,rm⟩ v=some (yJ n c aA v,true):=by
 have gW:=p.bd;have We:=No p.hp (n:=n) (by omega) hv;have Uo:=p.hp.rI hv;have MZ:(cG c aA).Nodes.length=L.length:=by simp[cG,p.hp.len]
 refine⟨?_,wj p.hp (by omega) (by omega) (by omega) (by omega) hv h.Types h.Feats p9 iH,?_⟩;rw[We];exact(zak hh p (by omega)).canon p.hp.gok ⟨Uo.1,by rw[MZ];exact Uo.2⟩;have e1:OD n ⟨h,L,cl,rm⟩ v=some true:=by
  have a1:decide (v>=0)=true:=by simp;omega
  have a2:decide (v<(L.length:Int))=true:=by simp;omega
  simp only[OD,a1,a2,zC,aP]
 rcases z1v hh rfl (by omega) p.lt p.ck (n:=n) (by omega)with⟨o,t1,t2,t3⟩|⟨_,t2⟩;obtain⟨g,g1,g2,g3⟩:=zds p.lk (by omega) p.ck p.clo (fun x hx=>⟨(p.la x hx).1,fun a ha=>((p.la x hx).2.1 a ha).1⟩) t2 (n:=n) (by omega) hv;have hq:=p.tc.qg p.lk.to p.hp;have xH:=QG.read hh.nod (fun j x a hj ha=>by have:=p.lk.ar j x a hj ha;omega) hq g1 p.hp.gok g2 p.ke (i:=v.toNat) (by omega);simp only[YC,e1,aP,Bool.not_true,zD,t1,g3];rw[xH,We];rfl;exact absurd t2 (p.good hh)
variable{a:Int}
variable{b:Int}
theorem z85{m:V d6}{t:Nat}(vJ:¬ ((0<=a/\a<(c.length:Int))/\0<=b/\b<(c.length:Int))):JD n a b h.Types h.Feats c tl t m=some (false,c,tl,t):=by
 have:(cond (decide (a<0)) (some true) (cond (decide (a>=(c.length:Int))) (some true) (cond (decide (b<0)) (some true) (some (decide (b>=(c.length:Int)))))))=some true:=by by_cases h1:a<0;rw[decide_eq_true h1];rfl;rw[decide_eq_false h1,zD];by_cases h2:a>=(c.length:Int);rw[decide_eq_true h2];rfl;rw[decide_eq_false h2,zD];by_cases h3:b<0;rw[decide_eq_true h3];rfl;rw[decide_eq_false h3,zD,decide_eq_true (by omega)]
 simp only[JD,this,aP,zC]
theorem zaw{m:V d6}{t:Nat}(ha:0<=a/\a<(c.length:Int))(hb:0<=b/\b<(c.length:Int)):JD n a b h.Types h.Feats c tl t m=OU h.Types h.Feats tl m n n (stk [(a,b)]) c tl t:=by
 have q1:decide (a<0)=false:=by simp;omega
 have q2:decide (a>=(c.length:Int))=false:=by simp only[decide_eq_false_iff_not];omega
 have q3:decide (b<0)=false:=by simp;omega
 have q4:decide (b>=(c.length:Int))=false:=by simp only[decide_eq_false_iff_not];omega
 simp only[JD,q1,q2,q3,q4,zD,aP];rfl
theorem db{rm:V qH}(v:Int):OD n ⟨h,L,cl,rm⟩ v=some (decide (0<=v/\v<(L.length:Int))):=by by_cases h1:v>=0;simp only[OD,decide_eq_true h1,zC,aP];by_cases h2:v<(L.length:Int);rw[decide_eq_true h2,decide_eq_true (⟨h1,h2⟩:0<=v/\v<(L.length:Int))];rw[decide_eq_false h2,decide_eq_false (fun q=>h2 q.2)];simp only[OD,decide_eq_false h1,zD,aP];rw[decide_eq_false (fun q=>h1 q.1)]
theorem z37{rm:V qH}(vJ:¬ ((0<=a/\a<(L.length:Int))/\0<=b/\b<(L.length:Int))):YF n ⟨h,L,cl,rm⟩ a b=some (⟨h,L,cl,rm⟩,false):=by simp only[YF,db,aP];by_cases h1:0<=a/\a<(L.length:Int);rw[decide_eq_true h1];have h2:¬ (0<=b/\b<(L.length:Int)):=fun q=>vJ ⟨h1,q⟩;rw[decide_eq_false h2];rfl;rw[decide_eq_false h1];rfl
theorem za8(hh:nP h ws){U:Nat}(p:GF h ws U L c tl cl)(hL:L.length<=300)(hU:U<=1000)(hn:3000000<=n)(a b:Int)(m:V d6)(rm:V qH)(t:Nat):
  ∃ok c' lS cl' t',JD n a b h.Types h.Feats c tl t m=some (ok,c',lS,t')/\YF n ⟨h,L,cl,rm⟩ a b=some (⟨h,L,cl',rm⟩,ok)/\GF h ws (U+1) L c' lS cl'/\AQ c tl c' lS/\c'.length=c.length:=by
 have p0:=p;obtain⟨aA,d,r,D,p⟩:=p;have eZ:=p.hp.len;by_cases vJ:(0<=a/\a<(L.length:Int))/\0<=b/\b<(L.length:Int)
 ·obtain⟨ha,hb⟩:=vJ;have gW:=p.bd;have hbt:=p.bt;have EA:=Tc hh (n:=n) (by omega);have Uy:=zdg hh (n:=n) (by omega);have hr:Rnd L.length D (h.Feats.length:Int) (ws.length:Int) [(a,b)] c aA d:=⟨p.hp,fun q hq=>by simp at hq;subst hq;exact⟨ha,hb⟩⟩;have htc:TC ws L.length L [(a,b)] c aA:=⟨fun j x z hj hz=>by obtain⟨w,q1,q2,q3⟩:=p.tc.cov j x z hj hz;exact⟨w,q1,q2,q3.wide⟩,p.tc.snd,p.tc.kd⟩;have hk:[(a,b)].length+tot c<n:=by simp only[zO,zS];omega
  have CV:=hh.fl;obtain⟨s1,s2⟩:=av EA p.lk.to n [(a,b)] c aA d D hr htc hk;obtain⟨D',u1,u2⟩:=E' Uy n [(a,b)] c aA d D hr hk;obtain⟨k1,k2⟩:=cj hh (by omega) (n:=n) (by omega) (p7:=tl) (by omega) m c n [(a,b)] c aA d D [] t hr hk (by simp only[zO,zS];omega) (fun x hx=>by cases hx) rfl (by simp only[zO,zS];omega);rw[List.append_nil]at k1 k2;have hui:=zaw (h:=h) (tl:=tl) (m:=m) (n:=n) (t:=t) (show 0<=a/\a<(c.length:Int) by omega) (show 0<=b/\b<(c.length:Int) by omega);have Uz:∀i j,aA i=aA j->(mH (BD n h) n [(a,b)] c aA d).2.2.1 i=(mH (BD n h) n [(a,b)] c aA d).2.2.1 j:=fun i j e=>Of n _ c aA d e;have CN:=ip Uy n [(a,b)] c aA d D hr hk;have xO:=p.ck.mrg (a:=a.toNat) (b:=b.toNat) (by omega) (by omega);have hmg:=z9z p.ck (by omega) ha hb (n:=n) (by omega);obtain⟨out,r2,c1,c2⟩:=z95 p.lk (by omega) p.dis xO (n:=n) (by omega);generalize Jb:hJ r (min (r a.toNat) (r b.toNat)) (max (r a.toNat) (r b.toNat))=r1 at xO c2;have h1ab:r1 a.toNat=r1 b.toNat:=by rw[<-Jb];unfold hJ;split;split;rfl;omega;split;omega;omega
  have h1up:∀i j,r i=r j->r1 i=r1 j:=fun i j e=>by rw[<-Jb];exact je e
  have Ww:∀(q:Nat->Nat),(∀i j,i<L.length->j<L.length->r i=r j->q i=q j)->q a.toNat=q b.toNat->∀i j,i<L.length->j<L.length->r1 i=r1 j->q i=q j:=fun q q1 q2 i j hi hj e=>by
   have ra:q (r a.toNat)=q a.toNat:=q1 _ _ (p.ck.lt (by omega)) (by omega) (p.ck.idem _ (by omega));have rb:q (r b.toNat)=q b.toNat:=q1 _ _ (p.ck.lt (by omega)) (by omega) (p.ck.idem _ (by omega));have ri:q (r i)=q i:=q1 _ _ (p.ck.lt hi) hi (p.ck.idem _ hi);have rj:q (r j)=q j:=q1 _ _ (p.ck.lt hj) hj (p.ck.idem _ hj);have Je:q (min (r a.toNat) (r b.toNat))=q a.toNat/\q (max (r a.toNat) (r b.toNat))=q a.toNat:=by rcases Nat.le_total (r a.toNat) (r b.toNat)with g |g;rw[Nat.min_eq_left g,Nat.max_eq_right g,ra,rb,q2];exact⟨rfl,rfl⟩;rw[Nat.min_eq_right g,Nat.max_eq_left g,ra,rb,q2];exact⟨rfl,rfl⟩
   rw[<-Jb]at e;unfold hJ at e;rw[<-ri,<-rj];split at e
   ·next e1=>
    split at e
    ·next e2=>rw[e1,e2]
    ·next e2=>rw[e1,<-e,Je.1,Je.2]
   ·next e1=>
    split at e
    ·next e2=>rw[e2,e,Je.1,Je.2]
    ·next e2=>rw[e]
  have zR:VG L.length [(a,b)] aA r2:=⟨fun i j hi hj e=>c2.up i j hi hj (h1up i j ((p.ke i j hi hj).1 e)),fun q hq=>by simp at hq;subst hq;exact c2.up _ _ (by omega) (by omega) h1ab⟩;obtain⟨s3,s4⟩:=s2 r2 c2.clo zR;have pB:=z1v hh rfl (by omega) p.lt c2.ck (n:=n) (by omega);have ED:YF n ⟨h,L,cl,rm⟩ a b=a8 (YG n h L out) fun bU=>cond (!bU.2) (some (⟨h,L,cl,rm⟩,false)) (some (⟨h,L,out,rm⟩,true)):=by simp only[YF,db,aP];rw[decide_eq_true ha,decide_eq_true hb];simp only[Bool.not_true,zD,aP,hmg,c1]
  cases mD:(mH (BD n h) n [(a,b)] c aA d).1 with
  |true=>
   obtain⟨lS,t',g1,g2,g3,g4⟩:=k1 mD;have ht1:=s1 mD;have hclo:=ht1.clo p.lk.to u2;have eC:∀i j,i<L.length->j<L.length->((mH (BD n h) n [(a,b)] c aA d).2.2.1 i=(mH (BD n h) n [(a,b)] c aA d).2.2.1 j↔r2 i=r2 j):=fun i j hi hj=>by refine⟨fun e=>(s3 mD).r i j hi hj e,fun e=>?_⟩;refine c2.low _ hclo (Ww _ (fun i j hi hj e=>Uz i j ((p.ke i j hi hj).2 e)) ?_) i j hi hj e;exact CN mD (a,b) (by simp)
   have KC:¬ VL ws L r2:=fun hb=>ht1.good p.lk.to (fun w hw=>(hh.ok w hw).1) u2 (qvc hb fun i j hi hj e=>(eC i j hi hj).2 e);rcases pB with⟨o,t1,t2,t3⟩|⟨_,t2⟩
   have aZ:=u2.len;refine⟨true,_,tl++lS,out,t',by rw[hui,g1],by rw[ED,t1];rfl,⟨_,_,r2,D',p.lk,p.la,p.lt,u2,ht1,c2.ck,eC,by simp only[zO,zS]at u1;omega,by simp only[zO,zS,zU]at g4 ⊢;omega⟩,⟨⟨lS,rfl,fun x hx=>by rw[aZ];exact g3 x hx,by rw[g2,List.take_length]⟩,by rw[aZ,eZ];exact zF _⟩,by rw[aZ,eZ]⟩;exact absurd t2 KC
  |false=>obtain⟨t',g1⟩:=k2 mD;have Bh:=s4 mD;rcases pB with⟨o,t1,t2,t3⟩|⟨t1,t2⟩;exact absurd Bh t3;exact⟨false,c,tl,cl,t',by rw[hui,g1],by rw[ED,t1];rfl,p0.up (by omega),AQ.refl c tl,rfl⟩
 have hab':¬ ((0<=a/\a<(c.length:Int))/\0<=b/\b<(c.length:Int)):=by rw[eZ];exact vJ
 exact⟨false,c,tl,cl,t,z85 hab',z37 vJ,p0.up (by omega),AQ.refl c tl,rfl⟩
structure HS(h:cZ)(ws:V Nat)(U:Nat)(c:V aT)(tl:V bJ)(mk:V d6)(L:V aJ)(cl:V Int)(rm:V qH)(S:V (V aT×V bJ)):Prop where
 pt:GF h ws U L c tl cl
 ls:S.length=mk.length
 lr:rm.length=mk.length
 lm:mk.length<=U
 ln:L.length<=6*U
 at_:∀(k:Nat)(s:V aT×V bJ),S[k]? = some s->AQ s.1 s.2 c tl/\mk[k]? = some ⟨(s.1.length:Int),(s.2.length:Int)⟩/\∃AM,rm[k]? = some ⟨(s.1.length:Int),AM⟩/\GF h ws U (L.take s.1.length) s.1 s.2 AM
 nest:∀(j k:Nat)(s s':V aT×V bJ),j<=k->S[j]? = some s->S[k]? = some s'->AQ s.1 s.2 s'.1 s'.2
def Zy(h:cZ)(ws:V Nat)(U:Nat)(c:V aT)(tl:V bJ)(mk:V d6)(L:V aJ)(cl:V Int)(rm:V qH):Prop:=∃S,HS h ws U c tl mk L cl rm S
theorem GF.len{h:cZ}{ws:V Nat}{U:Nat}{L:V aJ}{c:V aT}{tl:V bJ}{cl:V Int}(p:GF h ws U L c tl cl):c.length=L.length/\cl.length=L.length/\tl.length<=24*L.length+2*U:=by obtain⟨aA,d,r,D,p⟩:=p;have:=p.bt;exact⟨p.hp.len,p.ck.len,by omega⟩
variable{h:cZ}
variable{ws:V Nat}
variable{c:V aT}
variable{tl:V bJ}
variable{mk:V d6}
variable{L:V aJ}
variable{cl:V Int}
variable{rm:V qH}
theorem wv{U:Nat}{c':V aT}{lS:V bJ}{L':V aJ}{cl':V Int}{S:V (V aT×V bJ)}(p:HS h ws U c tl mk L cl rm S)(pt:GF h ws (U+1) L' c' lS cl')(ha:AQ c tl c' lS)(hL:∃t,L'=L++t)(Vb:L'.length<=L.length+6):HS h ws (U+1) c' lS mk L' cl' rm S where
 pt:=pt
 ls:=p.ls
 lr:=p.lr
 lm:=by have:=p.lm;omega
 ln:=by have:=p.ln;omega
 at_ k s hs:=by obtain⟨h1,h2,AM,h3,h4⟩:=p.at_ k s hs;obtain⟨t,rfl⟩:=hL;have l1:=p.pt.len.1;have l2:=h1.le;refine⟨h1.trans ha,h2,AM,h3,?_⟩;rw[List.take_append_of_le_length (by omega)];exact h4.up (by omega)
 nest:=p.nest
theorem z8r(c:V aT)(tl:V bJ)(t:V aT):AQ c tl (c++t) tl:=⟨⟨[],by simp,(fun x hx=>by cases hx),by simp[qS]⟩,by simp⟩
theorem AZ.two{f:GFS}(hf:AZ h f):∀x∈f.Nodes,x.Arcs.length<=12/\∀a∈x.Arcs,0<=a.To/\a.To<1000:=fun x hx=>⟨hf.sm.arcs x hx,hf.to x hx⟩
theorem zd3{U:Nat}{S:V (V aT×V bJ)}(p:HS h ws U c tl mk L cl rm S):
  HS h ws (U+1) c tl (mk++[⟨(c.length:Int),(tl.length:Int)⟩]) L cl (rm++[⟨(L.length:Int),cl⟩]) (S++[(c,tl)]) where
 pt:=p.pt.up (by omega)
 ls:=by simp[p.ls]
 lr:=by simp[p.lr]
 lm:=by have:=p.lm;simp;omega
 ln:=by have:=p.ln;omega
 at_ k s hs:=by
  have l1:=p.pt.len.1;rcases J3 hs with⟨h1,h2⟩|⟨h1,h2⟩;obtain⟨g1,g2,AM,g3,g4⟩:=p.at_ k s h2;have:=p.ls;have:=p.lr;exact⟨g1,by rw[List.getElem?_append_left (by omega)];exact g2,AM,by rw[List.getElem?_append_left (by omega)];exact g3,g4.up (by omega)⟩;have hk:k=S.length:=by have:=(zG.1 h2).1;simp at this;omega
  subst hk;rw[Nat.sub_self]at h2;simp at h2;subst h2;refine⟨AQ.refl c tl,by rw[p.ls,List.getElem?_append_right (zF _),Nat.sub_self];rfl,cl,by rw[p.ls,<-p.lr,List.getElem?_append_right (zF _),Nat.sub_self,<-l1];rfl,?_⟩;show GF h ws (U+1) (L.take c.length) c tl cl;rw[l1,List.take_length];exact p.pt.up (by omega)
 nest j k s s' AC hj hk:=by
  rcases J3 hk with⟨h1,h2⟩|⟨h1,h2⟩;rw[List.getElem?_append_left (by omega)]at hj;exact p.nest j k s s' AC hj h2;have vF:k=S.length:=by have:=(zG.1 h2).1;simp at this;omega
  subst vF;rw[Nat.sub_self]at h2;simp at h2;subst h2;rcases J3 hj with⟨h3,h4⟩|⟨h3,h4⟩;exact(p.at_ j s h4).1;have:j=S.length:=by omega
  subst this;rw[Nat.sub_self]at h4;simp at h4;subst h4;exact AQ.refl c tl
theorem zd4{U:Nat}{S:V (V aT×V bJ)}(p:HS h ws U c tl mk L cl rm S){k:Nat}{s:V aT×V bJ}(hs:S[k]? = some s){AM:V Int}(hrm:rm[k]? = some ⟨(s.1.length:Int),AM⟩):
  HS h ws U s.1 s.2 (mk.take (k+1)) (L.take s.1.length) AM (rm.take (k+1)) (S.take (k+1)):=by
 obtain⟨g1,g2,cl1,g3,g4⟩:=p.at_ k s hs;rw[hrm]at g3;cases g3;have hk:=(zG.1 hs).1;have l1:=p.ls;have l2:=p.lr;have l3:=p.lm;have l4:=p.ln;have tk:∀{v11:Type}{l:V v11}{j:Nat}{x:v11},(l.take (k+1))[j]? = some x->j<=k/\l[j]? = some x:=fun{v11 l j x} hj=>by have aF:=(zG.1 hj).1;rw[List.length_take]at aF;exact⟨by omega,by rw[List.getElem?_take_of_lt (by omega)]at hj;exact hj⟩
 refine⟨g4,by simp only[List.length_take];omega,by simp only[List.length_take];omega,by simp only[List.length_take];omega,by simp only[List.length_take];omega,fun j s' hj=>?_,fun i j s' s'' lM hi hj=>p.nest i j s' s'' lM (tk hi).2 (tk hj).2⟩;obtain⟨AC,CU⟩:=tk hj;obtain⟨q1,q2,cl2,q3,q4⟩:=p.at_ j s' CU;have hn:=p.nest j k s' s AC CU hs;refine⟨hn,by rw[List.getElem?_take_of_lt (by omega)];exact q2,cl2,by rw[List.getElem?_take_of_lt (by omega)];exact q3,?_⟩;rw[List.take_take,Nat.min_eq_left hn.le];exact q4
theorem ah:∀(tl:V bJ)(c:V aT),(qS tl c).length=c.length
 |[],c=>rfl|x::tl,c=>by have e:qS (x::tl) c=(qS tl c).set x.atx.toNat x.old:=rfl;rw[e,List.length_set,ah tl c]
theorem zdc{p1:V dM}{p2:V eJ}{c:V aT}{tl:V bJ}{mk:V d6}(hm:mk.length<=1000)(n t:Nat):YV n p1 p2 c tl mk t=some ((mk.length:Int),mk++[⟨(c.length:Int),(tl.length:Int)⟩],t+1):=by
 have hw:IntKind.i64.wrap (((mk++[(d6.mk (c.length:Int) (tl.length:Int))]).length:Int)-1)=(mk.length:Int):=by rw[zU];simp only[zO,zS];exact DD (by omega) (by omega)
 rw[YV,fO (by omega),hw]
theorem zag{h:cZ}{L:V aJ}{cl:V Int}{rm:V qH}(hm:rm.length<=1000)(n:Nat):vf n ⟨h,L,cl,rm⟩=some (⟨h,L,cl,rm++[⟨(L.length:Int),cl⟩]⟩,(rm.length:Int)):=by rw[vf,fO (by show rm.length*32<=_/\rm.length<=_;omega),fO (by show(rm.length+1)*32<=_/\rm.length+1<=_;omega)]
section
variable{h:cZ}{ws:V Nat}{U:Nat}{c:V aT}{tl:V bJ}{mk:V d6}{L:V aJ}{cl:V Int}{rm:V qH}{S:V (V aT×V bJ)}
variable{a:Int}
variable{n:Nat}
theorem ze8(p:HS h ws U c tl mk L cl rm S)(hU:U<=60)(ha:0<=a/\a<(mk.length:Int))(hn:3000000<=n):∃s AM,S[a.toNat]? = some s/\rm[a.toNat]? = some ⟨(s.1.length:Int),AM⟩/\
  OR n a h.Types h.Feats c tl mk=some (true,s.1,s.2,mk.take (a.toNat+1))/\YB n ⟨h,L,cl,rm⟩ a=some (⟨h,L.take s.1.length,AM,rm.take (a.toNat+1)⟩,true):=by
 have l1:=p.ls;have l2:=p.lr;have l3:=p.lm;have l4:=p.ln;obtain⟨q1,q2,q3⟩:=p.pt.len;obtain⟨s,hs,_⟩:=eA (l:=S) (show a.toNat<S.length by omega);obtain⟨g1,g2,AM,g3,g4⟩:=p.at_ _ s hs;obtain⟨lS,e1,e2,e3⟩:=g1.ex;have sL:=g1.le;have ea:a=((a.toNat:Nat):Int):=by omega
 have hw:IntKind.i64.wrap (a+1)=((a.toNat+1:Nat):Int):=DD (by omega) (by omega);have b1:decide (a<0)=false:=by simp;omega
 have b2:decide (a>=(mk.length:Int))=false:=by simp only[decide_eq_false_iff_not];omega
 have b3:decide (a>=(rm.length:Int))=false:=by simp only[decide_eq_false_iff_not];omega
 have i1:aC mk a=some ⟨(s.1.length:Int),(s.2.length:Int)⟩:=by rw[ea,cH];exact g2
 have i2:aC rm a=some ⟨(s.1.length:Int),AM⟩:=by rw[ea,cH];exact g3
 have P3:tl.length=s.2.length+lS.length:=by rw[e1,zU]
 have hb:=ef (p7:=s.2) (by omega) n lS c (by omega) (by omega) rfl e2;rw[<-e1]at hb;refine⟨s,AM,hs,g3,?_,?_⟩;simp only[OR,b1,b2,zD,aP,i1,If,hb,hw,zZ,e3];rw[fO (by rw[ah];omega),fO (by rw[ah];omega),fO (by omega),fO (by omega)];have c1:qD L 0 (s.1.length:Int)=some (L.take s.1.length):=by rw[qD,if_pos (by omega)];simp
 have c2:qD rm 0 ((a.toNat+1:Nat):Int)=some (rm.take (a.toNat+1)):=by rw[qD,if_pos (by omega)];simp only[zZ,Int.toNat_zero,List.drop_zero]
 simp only[YB,b1,b3,zD,aP,i2,c1,hw,c2];rw[fO (by simp only[List.length_take];omega),fO (by simp only[List.length_take];omega)]
theorem zav(hl:rm.length=mk.length)(ha:¬ (0<=a/\a<(mk.length:Int))):OR n a h.Types h.Feats c tl mk=some (false,c,tl,mk)/\YB n ⟨h,L,cl,rm⟩ a=some (⟨h,L,cl,rm⟩,false):=by by_cases h1:a<0;have b1:decide (a<0)=true:=decide_eq_true h1;exact⟨by simp only[OR,b1,zC,aP],by simp only[YB,b1,zC,aP]⟩;have b1:decide (a<0)=false:=decide_eq_false h1;have b2:decide (a>=(mk.length:Int))=true:=decide_eq_true (by omega);have b3:decide (a>=(rm.length:Int))=true:=decide_eq_true (by omega);exact⟨by simp only[OR,b1,b2,zC,zD,aP],by simp only[YB,b1,b3,zC,zD,aP]⟩
theorem z4u{f:GFS}(hf:cJ f 1000)(hn:3000000<=n):FK n f f=some true:=by rw[xj hf hf hn,xx.2 rfl];rfl
theorem zab(ha:¬ (0<=a/\a<(c.length:Int))):DZ n a h.Types h.Feats c tl mk=some (⟨[]⟩,false):=by by_cases h1:a<0;have b1:decide (a<0)=true:=decide_eq_true h1;simp only[DZ,b1,zC,aP];have b1:decide (a<0)=false:=decide_eq_false h1;have b2:decide (a>=(c.length:Int))=true:=decide_eq_true (by omega);simp only[DZ,b1,b2,zC,zD,aP]
theorem z7i(ha:¬ (0<=a/\a<(L.length:Int))):YC n ⟨h,L,cl,rm⟩ a=some (⟨[]⟩,false):=by simp only[YC,db,aP,decide_eq_false ha,Bool.not_false,zC]
theorem Za(hh:nP h ws)(p:HS h ws U c tl mk L cl rm S)(hU:U<=47){o:qT}(ho:o.Kind=0->AZ h o.F/\o.F.Nodes.length<=6)(hn:3000000<=n)(t5 t7 t9:Nat):
  ∃c' lS mk' L' cl' rm' zn zl zj,Hb n ⟨h,L,cl,rm⟩ o h.Types h.Feats c t5 tl t7 mk t9=some (⟨h,L',cl',rm'⟩,true,c',zn,lS,zl,mk',zj)/\Zy h ws (U+1) c' lS mk' L' cl' rm':=by
 have l3:=p.lm;have l4:=p.ln;have l2:=p.lr;obtain⟨q1,q2,q3⟩:=p.pt.len;unfold Hb;by_cases k0:o.Kind=0;obtain⟨hf,hf6⟩:=ho k0;have e0:(o.Kind==0)=true:=by simp[k0]
 have r1:=zaf (p1:=⟨h,L,cl,rm⟩) (f:=o.F) q2 (by show L.length<=900;omega) (by omega) hf.two (n:=n) (by omega);have r2:=Nf hf.sm hf.to (p4:=c) (by omega) (n:=n) (by omega) t5 h.Types h.Feats tl mk;simp only[e0,zC,r1,aP,r2];have hpt:=zdn hh p.pt hf;rw[<-q1]at hpt;have e1:((c.length:Int)==(L.length:Int))=true:=by rw[q1];simp
 rw[e1];refine⟨_,_,_,_,_,_,_,_,_,rfl,S,?_⟩;rw[<-q1];exact wv p (hpt.up (by omega)) (z8r c tl _) ⟨_,rfl⟩ (by simp only[zU,yA];omega);have e0:(o.Kind==0)=false:=by simp[k0]
 rw[e0,zD];by_cases k1:o.Kind=1;have e1:(o.Kind==1)=true:=by simp[k1]
 obtain⟨ok,c',lS,cl',t',u1,u2,u3,u4,u5⟩:=za8 hh p.pt (by omega) (by omega) hn o.A o.B mk rm t7;simp only[e1,zC,u2,aP,u1];have e2:(ok==ok)=true:=by simp
 rw[e2];exact⟨_,_,_,_,_,_,_,_,_,rfl,S,wv p u3 u4 ⟨[],by simp⟩ (by omega)⟩;have e1:(o.Kind==1)=false:=by simp[k1]
 rw[e1,zD];by_cases k2:o.Kind=2;have e2:(o.Kind==2)=true:=by simp[k2]
 have m1:=zdc (p1:=h.Types) (p2:=h.Feats) (c:=c) (tl:=tl) (mk:=mk) (by omega) n t9;have m2:=zag (h:=h) (L:=L) (cl:=cl) (rm:=rm) (by omega) n;simp only[e2,zC,m2,aP,m1];have e3:((mk.length:Int)==(rm.length:Int))=true:=by rw[l2];simp
 rw[e3];exact⟨_,_,_,_,_,_,_,_,_,rfl,_,zd3 p⟩;have e2:(o.Kind==2)=false:=by simp[k2]
 rw[e2,zD];have same:Zy h ws (U+1) c tl mk L cl rm:=⟨S,wv p (p.pt.up (by omega)) (AQ.refl c tl) ⟨[],by simp⟩ (by omega)⟩;by_cases k3:o.Kind=3;have e3:(o.Kind==3)=true:=by simp[k3]
 by_cases ha:0<=o.A/\o.A<(mk.length:Int);obtain⟨s,AM,s1,s2,u1,u2⟩:=ze8 p (by omega) ha hn;simp only[e3,zC,u2,aP,u1];have e4:(true==true)=true:=rfl;rw[e4];refine⟨_,_,_,_,_,_,_,_,_,rfl,S.take (o.A.toNat+1),?_⟩;have hu:=zd4 p s1 s2;exact wv hu (hu.pt.up (by omega)) (AQ.refl _ _) ⟨[],by simp⟩ (by omega);obtain⟨u1,u2⟩:=zav (h:=h) (c:=c) (tl:=tl) (L:=L) (cl:=cl) l2 ha (n:=n);simp only[e3,zC,u2,aP,u1];have e4:(false==false)=true:=rfl;rw[e4];exact⟨_,_,_,_,_,_,_,_,_,rfl,same⟩;have e3:(o.Kind==3)=false:=by simp[k3]
 rw[e3,zD];by_cases ha:0<=o.A/\o.A<(L.length:Int);obtain⟨aA,d,r,D,pp⟩:=p.pt;obtain⟨s1,s2,s3⟩:=zdo hh pp (by omega) (by omega) (n:=n) (by omega) ha tl mk rm;simp only[s2,s3,aP,z4u s1 hn];have e4:(true==true)=true:=rfl;rw[e4];exact⟨_,_,_,_,_,_,_,_,_,rfl,same⟩;have s2:=zab (h:=h) (tl:=tl) (mk:=mk) (c:=c) (by rw[q1];exact ha) (n:=n);have s3:=z7i (h:=h) (cl:=cl) (rm:=rm) ha (n:=n);have s1:cJ ⟨[]⟩ 1000:=⟨by simp,fun x hx=>by cases hx⟩;simp only[s2,s3,aP,z4u s1 hn];have e4:(false==false)=true:=rfl;rw[e4];exact⟨_,_,_,_,_,_,_,_,_,rfl,same⟩
end
def Dw(h:cZ)(o:qT):Prop:=o.Kind=0->AZ h o.F/\o.F.Nodes.length<=6
theorem z60{h:cZ}{l:V qT}(hl:l.length<=9223372036854775807){n:Nat}(hn:3000000<=n):∀(m i:Nat),l.length-i<m->i<=l.length->∃b,Qz h l n m (i:Int)=some b/\(b=true->l.length<=16/\∀o∈l.drop i,Dw h o)
 |0,i,hm,_=>by omega
 |m+1,i,hm,hi=>by
  unfold Qz;by_cases aF:i<l.length;obtain⟨o,ho,_⟩:=eA aF;simp only[gP aF,zC,cH,ho,aP,iF aF hl];obtain⟨b,g1,g2⟩:=z60 (h:=h) hl hn m (i+1) (by omega) (by omega);by_cases k0:o.Kind=0;have e0:(o.Kind==0)=true:=by simp[k0]
  by_cases h6:(o.F.Nodes.length:Int)>6;simp only[e0,zC,decide_eq_true h6,aP];exact⟨false,rfl,fun q=>by cases q⟩;obtain⟨b2,f1,f2⟩:=z5a h (l:=[o.F]) (by simp) hn;simp only[e0,zC,decide_eq_false h6,zD,f1,aP];rcases b2 with _|_;exact⟨false,rfl,fun q=>by cases q⟩;simp only[Bool.not_true,zD,g1];refine⟨b,rfl,fun q=>⟨(g2 q).1,fun x hx=>?_⟩⟩;rw[aV ho]at hx;rcases zI.1 hx with rfl |hx;exact fun _=>⟨f2 rfl _ (by simp),by omega⟩
  exact(g2 q).2 x hx;have e0:(o.Kind==0)=false:=by simp[k0]
  simp only[e0,zD,aP,g1];refine⟨b,rfl,fun q=>⟨(g2 q).1,fun x hx=>?_⟩⟩;rw[aV ho]at hx;rcases zI.1 hx with rfl |hx;exact fun q=>absurd q k0
  exact(g2 q).2 x hx;simp only[hX aF,zD,H_];exact⟨_,rfl,fun q=>⟨by have:=of_decide_eq_true q;omega,fun x hx=>by rw[bQ aF]at hx;cases hx⟩⟩
theorem FQ(h:cZ){l:V qT}(hl:l.length<=9223372036854775807){n:Nat}(hn:3000000+l.length<=n):∃b,kz n h l=some b/\(b=true->l.length<=16/\∀o∈l,Dw h o):=by have:=z60 (h:=h) hl (n:=n) (by omega) n 0 (by omega) (by omega);rw[zV,List.drop_zero]at this;exact this
theorem zd2{h:cZ}{ws:V Nat}:Zy h ws 0 [] [] [] [] [] []:=⟨[],⟨⟨id,(fun _=>0),id,0,⟨rfl,fun j x a hj=>by simp at hj⟩,(fun x hx=>by cases hx),(fun x hx=>by cases hx),kD.init rfl (fun c hc=>by cases hc),⟨fun j x a hj=>by simp at hj,fun i b hi=>by simp at hi,fun i hi=>by simp at hi⟩,⟨rfl,fun i hi=>by simp at hi,fun i hi=>zF _,fun i hi=>rfl⟩,fun i j hi=>by simp at hi,by simp[tot],by simp[tot]⟩,rfl,rfl,by simp,by simp,fun k s hs=>by simp at hs,fun j k s s' _ hj=>by simp at hj⟩⟩
section
variable{h:cZ}{ws:V Nat}{U:Nat}{c:V aT}{tl:V bJ}{mk:V d6}{L:V aJ}{cl:V Int}{rm:V qH}
end
theorem z0y{h:cZ}{ws:V Nat}(hh:nP h ws){l:V qT}(hl:l.length<=16)(rL:∀o∈l,Dw h o){n:Nat}(hn:3000000<=n):∀(m i:Nat)(c:V aT)(tl:V bJ)(mk:V d6)(L:V aJ)(cl:V Int)(rm:V qH)(t1 t2 t3:Nat),l.length-i<m->i<=l.length->Zy h ws i c tl mk L cl rm->
  ∃c' lS mk' L' cl' rm' t1' t2' t3',Rs l n (h.Types,h.Feats) m (i:Int) mk t1 tl t2 c t3 h.Types h.Feats L cl rm=some (h.Types,h.Feats,c',t3',lS,t2',mk',t1')/\Zy h ws l.length c' lS mk' L' cl' rm'
 |0,i,c,tl,mk,L,cl,rm,t1,t2,t3,hm,_,_=>by omega
 |m+1,i,c,tl,mk,L,cl,rm,t1,t2,t3,hm,hi,p=>by
  unfold Rs;by_cases aF:i<l.length;obtain⟨o,ho,hom⟩:=eA aF;obtain⟨S,p⟩:=p;obtain⟨c',lS,mk',L',cl',rm',zn,zl,zj,d1,d2⟩:=Za hh p (by omega) (rL o hom) hn t3 t2 t1;have e1:Hb n (gT.mk (cZ.mk h.Types h.Feats) L cl rm) o h.Types h.Feats c t3 tl t2 mk t1=some (⟨h,L',cl',rm'⟩,true,c',zn,lS,zl,mk',zj):=d1;simp only[gP aF,zC,cH,ho,aP,e1,iF aF (show l.length<=9223372036854775807 by omega)];exact z0y hh hl rL hn m (i+1) c' lS mk' L' cl' rm' zj zl zn (by omega) (by omega) d2;have:i=l.length:=by omega
  subst this;simp only[hX aF,zD,g?];exact⟨_,_,_,_,_,_,_,_,_,rfl,p⟩
section
variable{h:cZ}{ws:V Nat}{c0:V aT}{tj:V bJ}{mk1:V d6}
end
def AL(R:Int->Int->Prop):V aG->V aG->Prop
 |[],[]=>True|x::a,y::b=>x.Feat=y.Feat/\R x.To y.To/\AL R a b
 |_,_=>False
theorem AL.of2{R:Int->Int->Prop}{g h:aG->aG}:∀{l:V aG},(∀a∈l,(g a).Feat=(h a).Feat/\R (g a).To (h a).To)->AL R (l.map g) (l.map h)
 |[],_=>trivial|x::l,q=>⟨(q x (by simp)).1,(q x (by simp)).2,AL.of2 fun a ha=>q a (List.mem_cons_of_mem _ ha)⟩
def BR(N':Nat)(aA φ:Nat->Nat)(u v:Int):Prop:=(0<=u/\u<(N':Int))/\aA (φ u.toNat)=aA v.toNat
structure Bi(N':Nat)(c':V aT)(kM:Nat->Nat)(c:V aT)(aA φ:Nat->Nat):Prop where
 inj:∀i j,i<N'->j<N'->(kM i=kM j↔aA (φ i)=aA (φ j))
 kd:∀i,i<N'->kM i=i->(celN c' i).kind=(celN c (aA (φ i))).kind
 ar:∀i,i<N'->kM i=i->AL (BR N' aA φ) (celN c' i).arcs (celN c (aA (φ i))).arcs
theorem AL.map{N':Nat}{aA kM φ:Nat->Nat}(hr:∀i,i<N'->aA (φ (kM i))=aA (φ i)):∀{a b:V aG},AL (BR N' aA φ) a b->b.map (xR aA)=(a.map (xR kM)).map fun x=>⟨x.Feat,(aA (φ x.To.toNat):Int)⟩
 |[],[],_=>rfl|x::a,y::b,q=>by rw[zQ,zQ,zQ,AL.map hr q.2.2];congr 1;simp only[xR,rI,zZ,aG.mk.injEq];obtain⟨h1,h2⟩:=q.2.1;exact⟨q.1.symm,by rw[hr _ (by omega),h2]⟩
 |[],_::_,q=>q.elim|_::_,[],q=>q.elim
theorem Bi.canon{N' N D' D:Nat}{FB TB:Int}{c' c:V aT}{kM d' aA d φ:Nat->Nat}(B:Bi N' c' kM c aA φ)(h':kD N' D' FB TB c' kM d')(h:kD N D FB TB c aA d)(S?:∀i,i<N'->φ i<N){v:Nat}(hv:v<N'):
  nR (cG c aA) ((aA (φ v):Nat):Int)=nR (cG c' kM) ((kM v:Nat):Int):=by
 have hG:(cG c aA).Nodes.length=N:=by simp[cG,h.len]
 have hG':(cG c' kM).Nodes.length=N':=by simp[cG,h'.len]
 have hr:∀i,i<N'->aA (φ (kM i))=aA (φ i):=fun i hi=>(B.inj _ _ (h'.rok.lt i hi) hi).1 (h'.rok.idem i hi);have S:rQ (cG c' kM) (cG c aA) (fun v=>(aA (φ v.toNat):Int)) (InR N' kM):=by refine⟨?_,?_,?_,?_⟩;rintro v ⟨i,rfl,hi,hr⟩ a ha;obtain⟨n1,n2⟩:=h'.nd (v:=(i:Int)) (by omega);rw[n2]at ha;obtain⟨b,hb,rfl⟩:=List.mem_map.1 ha;have:=(h'.ar _ _ (h'.cel (v:=(i:Int)) (by omega))).ok b hb;exact⟨kM b.To.toNat,rfl,h'.rok.lt _ (by omega),h'.rok.idem _ (by omega)⟩;rintro u v ⟨i,rfl,hi,_⟩ ⟨j,rfl,hj,_⟩ e;simp only[zZ]at e;have:=(B.inj i j hi hj).2 (by omega);omega;rintro v ⟨i,rfl,hi,pD⟩;have l1:=h.rok.lt _ (S? i hi);simp only[zZ];rw[(h.nd (v:=((aA (φ i):Nat):Int)) (by omega)).1,(h'.nd (v:=(i:Int)) (by omega)).1];exact(B.kd i hi pD).symm;rintro v ⟨i,rfl,hi,pD⟩;have l1:=h.rok.lt _ (S? i hi);simp only[zZ];rw[(h.nd (v:=((aA (φ i):Nat):Int)) (by omega)).2,(h'.nd (v:=(i:Int)) (by omega)).2];exact AL.map hr (B.ar i hi pD)
 have l2:=h'.rok.lt v hv;have l3:=h.rok.lt _ (S? v hv);have:=S.canon h'.gok h.gok (r:=((kM v:Nat):Int)) ⟨by omega,by rw[hG'];omega⟩ ⟨kM v,rfl,l2,h'.rok.idem v hv⟩ (by simp only[zZ,hr v hv];exact⟨by omega,by rw[hG];omega⟩);simp only[zZ,hr v hv]at this;exact this.2
theorem z4g{a b:V aT}{i:Nat}(h:i<a.length):celN (a++b) i=celN a i:=by rw[celN,List.getElem?_append_left h];rfl
theorem z4h{a b:V aT}{i:Nat}:celN (a++b) (a.length+i)=celN b i:=by rw[celN,List.getElem?_append_right (by omega),Nat.add_sub_cancel_left];rfl
theorem zcq{f:GFS}(h:∀y∈f.Nodes,∀a∈y.Arcs,0<=a.To):cG (f.Nodes.map (lH 0)) id=f:=by
 cases f with
 |mk l=>
  simp only[cG,GFS.mk.injEq,List.map_map];refine(List.map_congr_left fun y hy=>?_).trans (List.map_id l);cases y with
  |mk k ars=>
   simp only[Function.comp,ZC,lH,id,aJ.mk.injEq,true_and,List.map_map];refine(List.map_congr_left fun a ha=>?_).trans (List.map_id ars);have:=h _ hy a ha;cases a with
   |mk f t=>simp only[Function.comp,xR,rI,EX,id,aG.mk.injEq,true_and];simp only at this;omega
end Go.Proofs
namespace Go.Proofs
open Go Go.Rx Go.Vx Tryz
instance:TbP prog tb:=⟨tb_ok⟩
set_option maxRecDepth 20000
set_option maxHeartbeats 4000000
set_option synthInstance.maxSize 4000
set_option synthInstance.maxHeartbeats 200000
def Qi(n:Nat)(p1:Int):M (D1):=
 some (p1 != p1)
theorem qiw(n:Nat)(p1:Int)(r:D1)(J:Qi n p1=some r):cV prog 144 [.int .i64 p1] (.bool r):=by refine jO 6 KW ?_;exact gx J
def Rj(n:Nat)(p1:Int)(p2:Int):M (Int):=
 a8 (Qi n p1) fun r3=>
 a8 (Qi n p2) fun r5=>cond r3 (cond r5 (some 0) (some (-1))) (cond r5 (some 1) (cond (decide (p1<p2)) (some (-1)) (cond (decide (p1>p2)) (some 1) (some 0))))
theorem qno(n:Nat)(p1:Int)(p2:Int)(r:Int)(J:Rj n p1 p2=some r):cV prog 115 [.int .i64 p1,.int .i64 p2] (.int .i64 r):=by refine fQ 20 UY ?_;obtain⟨r3,h4,J⟩:=aN J;apply(go);refine aR rfl (pC (qiw n p1 r3 h4) _) KW ?_;obtain⟨r5,h6,J⟩:=aN J;apply(go);refine aR rfl (pC (qiw n p2 r5 h6) _) KW ?_;refine gF J ?_ ?_<;>intro h7 J;refine gF J ?_ ?_<;>intro h8 J;exact gx J;exact gx J;refine gF J ?_ ?_<;>intro h9 J;exact gx J;refine gF J ?_ ?_<;>intro eW J;exact gx J;refine gF J ?_ ?_<;>intro iT J;exact gx J;exact gx J
def MS(n:Nat)(p1:aG)(p2:aG):M (Int):=
 a8 (Rj n p1.Feat p2.Feat) fun r3=>some r3
theorem qnr(n:Nat)(p1:aG)(p2:aG)(r:Int)(J:MS n p1 p2=some r):cV prog 88 [.agg (aL p1),.agg (aL p2)] (.int .i64 r):=by refine fQ 10 fn88 ?_;obtain⟨r3,h4,J⟩:=aN J;apply(go);refine aR rfl (pC (qno n p1.Feat p2.Feat r3 h4) _) UY ?_;exact gx J
end Go.Proofs
namespace Go.Vx
open Go Go.Rx Go.Proofs Go.Sort Go.Shelf
variable{m:Nm}
theorem wn{v:O}(h:v.oneCell'=true):(ren m v).oneCell'=true:=by
 cases v with
 |agg _=>simp[Value.oneCell']at h|tuple _=>simp[Value.oneCell']at h
 |pointer o=>cases o<;>rfl|slice o _ _=>cases o<;>rfl
 |map o=>cases o<;>rfl|chan o=>cases o<;>rfl
 |_=>rfl
theorem zdj{x:Cx}:∀{u:U}{v:O},okC u=true->aD x u v->(ren m v).oneCell'=true
 |.junk,v,h,_=>by simp[okC]at h
 |.agg _,v,h,_=>by simp[okC]at h
 |.tup _,v,h,_=>by simp[okC]at h
 |.bool _,v,_,h=>by simp only[aD]at h;subst h;rfl
 |.int _ _,v,_,h=>by simp only[aD]at h;subst h;rfl
 |.str _,v,_,h=>by simp only[aD]at h;subst h;rfl
 |.nilp,v,_,h=>by simp only[aD]at h;subst h;rfl
 |.nils,v,_,h=>by simp only[aD]at h;subst h;rfl
 |.nilm,v,_,h=>by simp only[aD]at h;subst h;rfl
 |.nilf,v,_,h=>by simp only[aD]at h;subst h;rfl
 |.nili,v,_,h=>by simp only[aD]at h;subst h;rfl
 |.ptr _ _ _,v,_,h=>by simp only[aD]at h;exact wn h.1
 |.sl _ _ _ _,v,_,h=>by simp only[aD]at h;exact wn h.1
 |.vl _ _ _ _,v,_,h=>by simp only[aD]at h;exact wn h.1
 |.map _,v,_,h=>by simp only[aD]at h;exact wn h.1
 |.iptr _,v,_,h=>by simp only[aD]at h;obtain⟨i,off,row,e,rfl,_⟩:=h;rfl
 |.isl _ _,v,_,h=>by simp only[aD]at h;rcases h with⟨_,rfl |⟨r,rfl⟩⟩|⟨i,off,c,rfl,_⟩<;>rfl
 |.fn _ _ _,v,_,h=>by simp only[aD]at h;obtain⟨va,vb,rfl,_⟩:=h;rfl
section
variable{A:Type}{encU:A->V U}{k:Nat}{x:Cx}{m:Nm}
structure El(encU:A->V U)(k:Nat)(x:Cx)(m:Nm)(ds:V A) where
 a:A
 sv:V O
 mem:a∈ds
 len:sv.length=k
 rel:bB x (encU a) sv
 ren:∀m',aI x.s.nx m m'->aE m' sv=aE m sv
theorem qzv(hk:∀a,(encU a).length=k){ds:V A}:∀(Jt:V A)(l0:V O),(∀a∈Jt,a∈ds)->bB x (Jt.map encU).flatten l0->(∀m',aI x.s.nx m m'->aE m' l0=aE m l0)->
  ∃ps:V (El encU k x m ds),ps.map (fun p=>p.a)=Jt/\(ps.map (fun p=>p.sv)).flatten=l0
 |[],l0,_,h,_=>by have:=h.nil_inv;subst this;exact⟨[],rfl,rfl⟩
 |a::Jt,l0,hm,h,hr=>by
  simp only[zQ,List.flatten_cons]at h;have ht:=h.take k;have hd:=h.drop k;rw[List.take_left' (hk a)]at ht;rw[List.drop_left' (hk a)]at hd;have pe:∀m',aI x.s.nx m m'->aE m' (l0.take k)=aE m (l0.take k)/\aE m' (l0.drop k)=aE m (l0.drop k):=fun m' ha=>by have:=hr m' ha;simp only[kE,List.map_take,List.map_drop]at this ⊢;rw[this];exact⟨rfl,rfl⟩
  obtain⟨ps,h1,h2⟩:=qzv hk Jt (l0.drop k) (fun b hb=>hm b (by simp[hb])) hd fun m' ha=>(pe m' ha).2;have aZ:(l0.take k).length=k:=by rw[<-ht.2,hk]
  exact⟨⟨a,l0.take k,hm a (by simp),aZ,ht,fun m' ha=>(pe m' ha).1⟩::ps,by simp[h1],by simp[h2]⟩
theorem cz{ds:V A}:∀ps:V (El encU k x m ds),bB x ((ps.map (fun p=>p.a)).map encU).flatten (ps.map (fun p=>p.sv)).flatten
 |[]=>bB.nil x|p::ps=>by simp only[zQ,List.flatten_cons];exact p.rel.append (cz ps)
theorem cy{ds:V A}{m':Nm}(ha:aI x.s.nx m m'):∀ps:V (El encU k x m ds),aE m' (ps.map (fun p=>p.sv)).flatten=(ps.map (fun p=>aE m p.sv)).flatten
 |[]=>by simp[aE]
 |p::ps=>by have h1:=cy ha ps;have h2:=p.ren m' ha;simp only[kE,zQ,List.flatten_cons,List.map_append]at h1 h2 ⊢;rw[h1,h2]
end
def VO(P:H0)(g:FuncId)(args:V U)(z:Int):Prop:=∀(vs cargs:V O)(x:Cx),jY x->bB x args vs->∀m:Nm,n7 m x.s.nx vs cargs->∀w:PL,fY m (vY x.s) w->
  Calls P g cargs.toArray w fun e w'=>e=.returned (.int .i64 z)/\∃q os,w'=grow (w.drewN q) os
theorem b7.cmpI{P:H0}{g:FuncId}{args:V U}{vs cargs:V O}{z:Int}(h:VO P g args z)(_hb:aM 0 args){x:Cx}(hh:jY x)(he:bB x args vs)(bW:n7 m x.s.nx vs cargs){w:PL}(hf:fY m (vY x.s) w):
  Calls P g cargs.toArray w fun e w'=>e=.returned (.int .i64 z)/\∃q os,w'=grow (w.drewN q) os:=h vs cargs x hh he m bW w hf
theorem VO.ofW{P:H0}{g:FuncId}{args:V U}{z:Int}{vs:V O}(hv:eG args=some vs)(hr:∀m,aE m vs=vs)(h:∀w,Calls P g vs.toArray w fun e w'=>e=.returned (.int .i64 z)/\∃q os,w'=grow (w.drewN q) os):VO P g args z:=fun rZ cargs x hh he m bW w hf=>by
 have h1:=(DW args vs hv x rZ).1 he;subst h1;have h2:cargs=rZ:=by rw[<-bW.at,hr]
 subst h2;exact h w
theorem z5r{v11:Type}[Inhabited v11]{enc:v11->V O}{k:Nat}(hk:∀x,(enc x).length=k)(vE:0<k){w:PL}{b off:Nat}{pre rest:V O}{e:TypeId}{ps:V v11}(nD:w.heap[b]? = some (.cells (pre++(ps.map enc).flatten++rest).toArray e (0,0)))(mU:pre.length=off):HoldsK enc k w b off ps.toArray:=by unfold HoldsK Holds;rw[qzx hk vE];intro j hj;simp only[List.size_toArray]at hj;refine⟨?_,?_⟩;simp only[World.cell?,nD];simp only[Option.isSome_none,Bool.false_eq_true,if_false,List.getElem?_toArray,id];rw[zT,List.getElem?_append_right (by omega),List.getElem?_append_left (by omega)];rw[show off+j-pre.length=j by omega,List.getElem?_eq_getElem hj,getElem!_pos _ _ (by simpa using hj)];simp;simp[World.frozen?,nD]
def iP{A:Type}(f:A->A->M Int)(x y:A):D1:=decide ((f x y).getD 0<0)
def XG{A:Type}(eq:A->A->D1)(f:A->A->M Int)(ds:V A):D1 :=
 ds.all fun x=>!(iP f x x)&&ds.all fun y=>(f x y).isSome&&((iP f x y||(iP f y x||eq x y))&&ds.all fun z=>(!(iP f x y&&iP f y z)||iP f x z)&&(iP f x y||(iP f y z || !(iP f x z))))
def R2{A:Type}(eq:A->A->D1)(f:A->A->M Int)(ds:V A):M (V A):=cond (Nat.ble ds.length 1000000&&XG eq f ds) (some (srt (iP f) ds)) none
structure Dx{A:Type}(f:A->A->M Int)(S:A->Prop):Prop where
 irrefl:∀x,S x->iP f x x=false
 some:∀x y,S x->S y->∃z,f x y=some z
 anti:∀x y,S x->S y->iP f x y=false->iP f y x=false->x=y
 trans:∀x y z,S x->S y->S z->iP f x y=true->iP f y z=true->iP f x z=true
 ntrans:∀x y z,S x->S y->S z->iP f x y=false->iP f y z=false->iP f x z=false
variable{A:Type}
theorem z2z{eq:A->A->D1}(HK:∀x y,eq x y=true->x=y){f:A->A->M Int}{ds:V A}(h:XG eq f ds=true):Dx f (· ∈ds):=by
 unfold XG at h;rw[List.all_eq_true]at h;have h1:∀x∈ds,iP f x x=false/\∀y∈ds,(f x y).isSome=true/\(iP f x y||(iP f y x||eq x y))=true/\∀z∈ds,(!(iP f x y&&iP f y z)||iP f x z)=true/\(iP f x y||(iP f y z || !(iP f x z)))=true:=fun x hx=>by have a:=h x hx;rw[Bool.and_eq_true,Bool.not_eq_true',List.all_eq_true]at a;refine⟨a.1,fun y hy=>?_⟩;have b:=a.2 y hy;rw[Bool.and_eq_true,Bool.and_eq_true,List.all_eq_true]at b;refine⟨b.1,b.2.1,fun z hz=>?_⟩;have c:=b.2.2 z hz;rw[Bool.and_eq_true]at c;exact c
 refine⟨fun x hx=>(h1 x hx).1,fun x y hx hy=>Option.isSome_iff_exists.1 ((h1 x hx).2 y hy).1,fun x y hx hy a b=>?_,fun x y z hx hy hz a b=>?_,fun x y z hx hy hz a b=>?_⟩;have:=((h1 x hx).2 y hy).2.1;rw[a,b]at this;exact HK x y (by simpa using this);have:=(((h1 x hx).2 y hy).2.2 z hz).1;rw[a,b]at this;simpa using this;have:=(((h1 x hx).2 y hy).2.2 z hz).2;rw[a,b]at this;simpa using this
theorem qw6{A:Type}{f:A->A->M Int}{S:A->Prop}(h:Dx f S)(x:A)(hx:S x):∀{l},(∀y∈l,S y)->Asc (iP f) l->Asc (iP f) (EO (iP f) x l)
 |[],_,_=>by simp[EO,Asc]
 |y::l,hS,ha=>by
  have sw:=hS y (by simp);have hlS:∀z∈l,S z:=fun z hz=>hS z (by simp[hz]);simp only[EO];unfold Asc at ha ⊢;rw[List.pairwise_cons]at ha;cases hy:iP f y x with
  |true=>simp only[zC];rw[List.pairwise_cons];refine⟨fun z hz=>?_,qw6 h x hx hlS ha.2⟩;have:=(jk (iP f) x l).mem_iff.1 hz;rcases zI.1 this with rfl |hz;rcases hzy:iP f z y with _|_;rfl;have:=h.trans y z y sw hx sw hy hzy;rw[h.irrefl y sw]at this;cases this;exact ha.1 z hz
  |false=>simp only[zD];rw[List.pairwise_cons];refine⟨fun z hz=>?_,List.pairwise_cons.2 ha⟩;rcases zI.1 hz with rfl |hz;exact hy;exact h.ntrans z y x (hlS z hz) sw hx (ha.1 z hz) hy
theorem z1n{A:Type}{f:A->A->M Int}{S:A->Prop}(h:Dx f S):∀l,(∀y∈l,S y)->Asc (iP f) (srt (iP f) l)
 |[],_=>by simp[srt,Asc]
 |x::l,hS=>qw6 h x (hS x (by simp)) (fun y hy=>hS y (by simp[(Fz (iP f) l).mem_iff.1 hy])) (z1n h l fun y hy=>hS y (by simp[hy]))
theorem qpz{A:Type}{f:A->A->M Int}{S:A->Prop}(h:Dx f S):∀{a b:V A},(∀y∈a,S y)->Asc (iP f) a->Asc (iP f) b->a.Perm b->a=b
 |[],b,_,_,_,hp=>by rw[hp.nil_eq]
 |x::a,[],_,_,_,hp=>by have:=hp.length_eq;simp at this
 |x::a,y::b,hS,ha,hb,hp=>by
  unfold Asc at ha hb;rw[List.pairwise_cons]at ha hb;have BI:x=y:=by have h1:x∈y::b:=hp.mem_iff.1 (by simp);have h2:y∈x::a:=hp.mem_iff.2 (by simp);rcases zI.1 h1 with h1 |h1;exact h1;rcases zI.1 h2 with h2 |h2;exact h2.symm;exact h.anti x y (hS x (by simp)) (hS y (by simp[h2])) (hb.1 x h1) (ha.1 y h2)
  subst BI;rw[qpz h (fun z hz=>hS z (by simp[hz])) ha.2 hb.2 (List.Perm.cons_inv hp)]
theorem Dx.swo{f:A->A->M Int}{S:A->Prop}(h:Dx f S){B:Type}(e:B->A)(he:∀b,S (e b)):SWO (ltOf fun p q:B=>(f (e p) (e q)).getD 0):=
 ⟨fun x=>h.irrefl _ (he x),fun x y z=>h.trans _ _ _ (he x) (he y) (he z),fun x y z=>h.ntrans _ _ _ (he x) (he y) (he z)⟩
def ei(P:H0)(f g:FuncId)(k:Nat):Prop:=∀(v11:Type)[Inhabited v11](enc:v11->V O)(cf:v11->v11->Int),(∀x,(enc x).length=k)->(∀x,∀v∈enc x,v.oneCell'=true)->SWO (ltOf cf)->
 ∀(cb:H2 O)(blk off cap:Nat)(d:H2 v11)(w:PL),CmpLays P g cb enc k cf blk off d.size w->HoldsK enc k w blk off d->blk<w.heap.size->d.size<4611686018427387904->
  Calls P f #[.slice (some ⟨blk,off,none⟩) d.size cap,.func (.func g) #[] cb] w fun e w'=>e=.returned (.tuple #[])/\∃d' n os,PermIn 0 d.size d d'/\SortedIn (ltOf cf) 0 d.size d'/\w'=sortWorldK enc k w blk off n d' os
theorem b7.sortC{P:H0}{f g:FuncId}{encU:A->V U}{k:Nat}(hk:∀a,(encU a).length=k)(vE:0<k)(xJ:∀a,okL (encU a)=true)(BM:∀a,aM 0 (encU a)){cs:V U}(o9:aM 0 cs){f1:A->A->M Int}(hs:ei P f g k)
  (ds:V A) (hO:Dx f1 (· ∈ds)) (Bf:∀a b r,f1 a b=some r->VO P g (.agg (encU a):: .agg (encU b)::cs) r)
  {X:Sg} {K st:Nat} {e:TypeId} (d5:ds≠[]) (aZ:ds.length<4611686018427387904) (hg:gt X.h K=some (.vec ((ds.map encU).flatten) e k st)):
  b7 P f [.vl K st 0 ds.length,.fn (.func g) [] cs] X (fun u X'=>u=.tup []/\X'=⟨ug X.h K (.vec (((srt (iP f1) ds).map encU).flatten) e k st),X.nx⟩):=fun F x vs m w cargs hx hh k9 he dR bW=>by
 subst hx;obtain⟨v0,VV,rfl,h0,he⟩:=he.inv;obtain⟨v1,tf,rfl,h1,he⟩:=he.inv;have:=he.nil_inv;subst this;simp only[aD]at h0 h1;obtain⟨va,vb,rfl,_,P2,hvbP,TM⟩:=h1;have hva':va=[]:=by cases va with
  |nil=>rfl|cons=>simp at P2
 subst hva';have hvE:bB x cs vb:=⟨hvbP,TM⟩;have hvr:∀m',aI x.s.nx m m'->aE m' vb=aE m vb:=fun m' ha=>by have h1:=bW m' ha;have h2:=bW m (aI.refl _ _);rw[<-h2]at h1;simp only[aE,ren,wW,List.cons.injEq,Value.func.injEq,Array.mk.injEq,and_true,true_and]at h1;exact h1.2
 obtain⟨_,hK,h0⟩:=h0;obtain⟨l,e',sz,hb,nV⟩:=(h0 _ hg).2 rfl;cases hb;obtain⟨_,hBk⟩:=hh.ok K _ hg;obtain⟨_,_,hB⟩:=hBk;have tW:(ds.map encU).flatten≠[]:=fun hn=>by rcases ds with _|⟨a,ds⟩;exact d5 rfl;simp only[zQ,List.flatten_cons,List.append_eq_nil_iff]at hn;have:=hk a;rw[hn.1]at this;simp at this;omega
 rcases hB with⟨hn,_⟩|⟨i,l',k8,y5,hE⟩;exact absurd hn tW;rw[k8]at nV;simp only[I5]at nV;rcases nV with⟨Bh,_⟩|rfl;omega;have wI:=dR m (aI.refl _ _);have Av:=hh.bd i _ y5;obtain⟨pre,rest,nD,mU,gM⟩:=(wI.ok i _ y5:wX m i _ e w (k+2));have nX:=bW.at;simp only[aE,ren,wW]at nX;subst nX;have Bg:m.blk i<w.heap.size:=wI.size y5;have Bj:∀m',aI x.s.nx m m'->aE m' l'=aE m l':=fun m' ha=>by
  obtain⟨a1,a2,a3⟩:=ha i Av;obtain⟨pre',IQ,kQ,hpre',_⟩:=((dR m' ha).ok i _ y5:wX m' i _ e w (k+2));rw[a1,nD]at kQ;simp only[zA,Obj.cells.injEq,and_true]at kQ;have h1:=congrArg Array.toList kQ;simp only[zT]at h1;have hl:pre.length=pre'.length:=by omega
  have h2:=List.append_inj_right h1 hl;exact(List.append_inj_left h2 (by simp[kE])).symm
 obtain⟨ps,Ut,Us⟩:=qzv hk ds l' (fun a h=>h) hE Bj;have kI:ps.length=ds.length:=by have h:=congrArg List.length Ut;simpa using h
 have hpne:ps≠[]:=fun h=>by rw[h]at kI;exact d5 (List.length_eq_zero_iff.1 kI.symm)
 let p0:El encU k x m ds:=ps.head hpne
 letI:Inhabited (El encU k x m ds):=⟨p0⟩
 let enc:El encU k x m ds->V O:=fun p=>aE m p.sv
 let cg:El encU k x m ds->El encU k x m ds->Int:=fun p q=>(f1 p.a q.a).getD 0
 have G2:∀p,(enc p).length=k:=fun p=>by simp only[enc,kE,yA,p.len]
 have A5:∀p,∀v∈enc p,v.oneCell'=true:=fun p v hv=>by
  simp only[enc,kE,List.mem_map]at hv;obtain⟨v',hv',rfl⟩:=hv;obtain⟨j,hj⟩:=List.getElem?_of_mem hv';have hjl:j<(encU p.a).length:=by rw[p.rel.2];exact(zG.1 hj).1
  obtain⟨v2,h1,h2⟩:=p.rel.get (List.getElem?_eq_getElem hjl);rw[hj]at h1;cases h1;exact zdj ((M9 _).1 (xJ p.a) _ (List.getElem_mem hjl)) h2
 have wC:aE m l'=(ps.map enc).flatten:=by rw[<-Us];exact cy (aI.refl _ _) ps
 rw[wC]at nD;have Ax:HoldsK enc k w (m.blk i) (m.sh i+0*k) ps.toArray:=z5r G2 vE nD (by omega);have Vc:CmpLays P g (aE m vb).toArray enc k cg (m.blk i) (m.sh i+0*k) ps.toArray.size w:=fun n os dk hdk p q=>by
  obtain⟨z,hz⟩:=hO.some p.a q.a p.mem q.mem;have hcz:cg p q=z:=by simp[cg,hz]
  rw[hcz];have iS:=b7.cmpI (Bf p.a q.a z hz) (by simp only[aM,bA];exact⟨BM _,BM _,o9⟩) hh (vs:=.agg ⟨p.sv⟩:: .agg ⟨q.sv⟩::vb) (cargs:=.agg (enc p).toArray :: .agg (enc q).toArray::aE m vb) (m:=m)
   (bB.cons (by simp only[aD];exact⟨_,rfl,p.rel.1,p.rel.2,xJ _⟩) (bB.cons (by simp only[aD];exact⟨_,rfl,q.rel.1,q.rel.2,xJ _⟩) hvE))
   (fun m' ha=>by simp only[aE,ren,wW,enc,p.ren m' ha,q.ren m' ha,hvr m' ha])
   (w:=sortWorldK enc k w (m.blk i) (m.sh i+0*k) n dk os) (fun m' ha=>by
    have qP:aI x.s.nx m m':=ha;have PC:=dR m' qP;refine⟨fun j b hj=>?_,fun j j' b c hj CU d5 ho=>?_,fun j b hj=>?_⟩;rw[FF]at hj;obtain⟨hj,l2,e2,rfl⟩:=MJ hj;refine(PC.ok j _ hj).world ?_;have d5:m'.blk j≠m.blk i:=fun hc=>by
     have lM:i≠j:=fun h=>by subst h;rw[y5]at hj;cases hj
     have:=PC.inj i j _ _ y5 hj lM rfl;rw[(qP i Av).1]at this;exact this hc.symm
    have dU:=PC.size hj;unfold sortWorldK putRowK putRow mapBlock;simp only[Sort.grow];rw[Array.getElem?_append_left (by simpa[Sort.ahead]using dU)];simp only[Array.getElem?_modify,Sort.ahead];rw[if_neg (Ne.symm d5)];rw[FF]at hj;obtain⟨_,l2,e2,rfl⟩:=MJ hj;simp[Rx.Own]at ho;rw[FF]at hj;exact hh.bd j b (MJ hj).1)
  simpa using iS
 have hc:=hs (El encU k x m ds) enc cg G2 A5 (hO.swo (fun p:El encU k x m ds=>p.a) fun p=>p.mem) (aE m vb).toArray (m.blk i) (m.sh i+0*k) (bX m i (bY+0)) ps.toArray w Vc Ax Bg (by simpa[kI]using aZ);simp only[List.size_toArray,kI]at hc;refine(show Calls P f _ w _ from hc).mono ?_;rintro e1 w' ⟨rfl,d',n,os,E8,P5,rfl⟩;obtain⟨B9,rfl⟩:∃B9:V (El encU k x m ds),d'=B9.toArray:=⟨d'.toList,by simp⟩;have Ac:B9.length=ps.length:=by have:=E8.1;simpa using this
 have P4:B9.map (fun p=>p.a)=srt (iP f1) ds:=by
  have hp:B9.Perm ps:=by
   have h3:=E8.2.2;have e1:(B9.toArray.extract 0 ds.length).toList=B9:=by simp[<-kI,<-Ac]
   have e2:(ps.toArray.extract 0 ds.length).toList=ps:=by simp[<-kI]
   rwa [e1,e2]at h3
  refine qpz hO (fun y hy=>?_) ?_ (z1n hO ds fun y hy=>hy) (((hp.map _).trans (List.Perm.of_eq Ut)).trans (Fz _ ds).symm);obtain⟨p,_,rfl⟩:=List.mem_map.1 hy;exact p.mem;unfold Asc;rw[List.pairwise_iff_getElem];intro a b ha hb vJ;simp only[yA]at ha hb;have:=P5 a b (Nat.zero_le _) vJ (by omega);simpa[ha,hb,cg,ltOf,iP]using this
 have CQ:((B9.map enc).flatten).length=((ps.map enc).flatten).length:=by rw[Gm G2,Gm G2,Ac]
 have hll2:((B9.map fun p=>p.sv).flatten).length=l'.length:=by have h1:∀qs:V (El encU k x m ds),((qs.map fun p=>p.sv).flatten).length=qs.length*k:=fun qs=>Gm (enc:=fun p:El encU k x m ds=>p.sv) (fun p=>p.len) qs;rw[h1,Ac,<-h1,Us]
 have dX:(putRowK enc k (Sort.ahead w n) (m.blk i) (m.sh i+0*k) B9.toArray).heap[m.blk i]? = some (.cells (pre++(B9.map enc).flatten++rest).toArray e (0,0)):=by unfold putRowK putRow mapBlock;rw[qzx G2 vE];simp only[Array.getElem?_modify,if_true,Sort.ahead,nD,zM,onCells];rw[show m.sh i+0*k=pre.length by omega,qwr _ _ _ _ CQ]
 have fP:bG m x.s w m ⟨up x.s.h i (.inl ((B9.map fun p=>p.sv).flatten,e,k+2)),x.s.nx⟩ (putRowK enc k (Sort.ahead w n) (m.blk i) (m.sh i+0*k) B9.toArray):=by refine bG.write dR y5 rfl (fun j hj=>?_) (by simp[putRowK,putRow,mapBlock,Sort.ahead]) rfl rfl rfl (Nat.le_add_right _ _) fun m' ha=>?_;unfold putRowK putRow mapBlock;simp only[Array.getElem?_modify,Sort.ahead];rw[if_neg (Ne.symm hj)];obtain⟨a1,a2,a3⟩:=ha i Av;refine⟨pre,rest,?_,by rw[a2];exact mU,?_⟩;rw[a1,cy ha];exact dX;rw[hll2,a3];exact gM
 have iZ:=XY (c:=.inl ((B9.map fun p=>p.sv).flatten,e,k+2)) (bK:=.vec (((srt (iP f1) ds).map encU).flatten) e k st) hh hg k8 y5 rfl (by rintro l e sz st h;cases h;exact⟨_,rfl⟩) fun y h1 h2 hm=>⟨xl xJ _,vE,.inr ⟨i,_,h1,h2,by rw[<-P4];exact hm.ke.E (cz B9).bel (cz B9)⟩⟩;refine⟨_,m,.tup [],.tuple #[],.tuple #[],rfl,⟨rfl,rfl⟩,fP.trans (z8p fP.fits os),fun m' _=>by simp[ren,wW,aE],iZ.h,iZ.fr F k9,by simp[aD,cO],iZ.mo.ke,zF _⟩
variable{A:Type}
variable{eq:A->A->D1}
theorem qsz{f:A->A->M Int}{ds ys:V A}(h:R2 eq f ds=some ys):ds.length<=1000000/\XG eq f ds=true/\ys=srt (iP f) ds:=by unfold R2 at h;rcases hc:(Nat.ble ds.length 1000000&&XG eq f ds)with _|_;rw[hc]at h;cases h;rw[hc]at h;rw[Bool.and_eq_true,Nat.ble_eq]at hc;exact⟨hc.1,hc.2,(Option.some.inj h).symm⟩
theorem z7r{f:A->A->M Int}{ds ys:V A}(h:R2 eq f ds=some ys):ys.length=ds.length:=by obtain⟨_,_,rfl⟩:=qsz h;exact(Fz (iP f) ds).length_eq
theorem QQ:∀{h:V (Nat×B)}{K:Nat}{b:B},gt h K=some b->ug h K b=h
 |[],K,b,hb=>by simp[gt]at hb
 |(j,c)::h,K,b,hb=>by simp only[gt,ug,beq_eq]at hb ⊢;by_cases e:j=K;simp[e]at hb;simp[e,hb];simp only[e,yB,zD]at hb ⊢;rw[QQ hb]
theorem zan{P:H0}{f g:FuncId}{cs:V U}(o9:aM 0 cs)(CP:b7 P f [.isl false [],.fn (.func g) [] cs] ⟨[],0⟩ (fun u _=>u=.tup []/\bA 0 u))(X:Sg){K t k:Nat}{e:TypeId}(hg:gt X.h K=some (.vec [] e k t)):
  b7 P f [.vl K t 0 0,.fn (.func g) [] cs] X (fun u X'=>u=.tup []/\X'=⟨ug X.h K (.vec [] e k t),X.nx⟩):=by have h1:=b7.view0 (args':=[.vl K t 0 0,.fn (.func g) [] cs]) (X:=X) CP (by simp only[aM,bA,mR,true_and,and_true];exact o9) (Gh.trans (Gh.fz K (.vec [] e k t) k hg (by simp) rfl rfl) (Gh.eqv (by simp only[sG,v6,DO,oH _ _ cs (aM.le (Nat.zero_le K) cs o9)];have:=R9 (c:=fun _:Unit=>List.replicate k U.nils) (sz:=k) (fun _=>by simp) ([]:V Unit) K k e t;simpa using this) rfl));refine h1.mono ?_;rintro u X' ⟨rfl,rfl⟩;exact⟨rfl,by rw[QQ hg]⟩
theorem zam{P:H0}{f g:FuncId}{encU:A->V U}{k:Nat}(hk:∀a,(encU a).length=k)(vE:0<k)(xJ:∀a,okL (encU a)=true)(BM:∀a,aM 0 (encU a)){cs:V U}(o9:aM 0 cs)(hs:ei P f g k)(HK:∀x y,eq x y=true->x=y)
  (CP:b7 P f [.isl false [],.fn (.func g) [] cs] ⟨[],0⟩ (fun u _=>u=.tup []/\bA 0 u)) {f1:A->A->M Int} (Bf:∀a b r,f1 a b=some r->VO P g (.agg (encU a):: .agg (encU b)::cs) r)
  (xs ys:V A) (h:R2 eq f1 xs=some ys) (X:Sg) {K t:Nat} {e:TypeId} (hK:Nat.blt K X.nx=true) (hg:gt X.h K=some (.vec (xs.map encU).flatten e k t)):
  b7 P f [.vl K t 0 xs.length,.fn (.func g) [] cs] X (fun u X'=>u=.tup []/\X'=⟨ug X.h K (.vec (ys.map encU).flatten e k t),X.nx⟩):=by obtain⟨h1,h2,rfl⟩:=qsz h;by_cases d5:xs=[];subst d5;exact zan o9 CP X hg;exact b7.sortC hk vE xJ BM o9 hs xs (z2z HK h2) Bf d5 (by omega) hg
end Go.Vx
namespace Go.Proofs
open Go
set_option maxRecDepth 100000
def Tryz.sortJ_ren:Shelf.Ren where
 f:=fun x=>match x with
  |6=>113|15=>143
  |14=>142|28=>163
  |29=>164|20=>155
  |21=>156|22=>157
  |23=>158|24=>159
  |25=>160|26=>161
  |27=>162|46=>166
  |47=>167|48=>168
  |49=>169|50=>170
  |57=>173|n=>n
 t:=fun x=>match x with
  |22=>76|24=>98
  |25=>169|3=>3
  |39=>193|0=>0
  |53=>233|55=>191
  |4=>4|46=>227
  |45=>226|50=>103
  |5=>5|9=>9
  |66=>236|70=>240
  |76=>244|77=>245
  |n=>n
 g:=fun x=>x
theorem Tryz.sortJ:SlLaysF0.n6 prog Tryz.sortJ_ren where
 mixed:=rfl
 f6:=⟨Tryz.f113.name,by decide,Tryz.func113.trans rfl⟩
 f14:=⟨Tryz.f142.name,by decide,Tryz.func142.trans rfl⟩
 f15:=Tryz.func143.trans rfl
 f20:=⟨Tryz.f155.name,by decide,Tryz.func155.trans rfl⟩
 f21:=⟨Tryz.f156.name,by decide,Tryz.func156.trans rfl⟩
 f22:=⟨Tryz.f157.name,by decide,Tryz.func157.trans rfl⟩
 f23:=⟨Tryz.f158.name,by decide,Tryz.func158.trans rfl⟩
 f24:=⟨Tryz.f159.name,by decide,Tryz.func159.trans rfl⟩
 f25:=⟨Tryz.f160.name,by decide,Tryz.func160.trans rfl⟩
 f26:=⟨Tryz.f161.name,by decide,Tryz.func161.trans rfl⟩
 f27:=⟨Tryz.f162.name,by decide,Tryz.func162.trans rfl⟩
 f28:=Tryz.func163.trans rfl
 f29:=Tryz.func164.trans rfl
 f46:=⟨Tryz.f166.name,by decide,Tryz.func166.trans rfl⟩
 f47:=Tryz.func167.trans rfl
 f48:=Tryz.func168.trans rfl
 f49:=⟨Tryz.f169.name,by decide,Tryz.func169.trans rfl⟩
 f50:=⟨Tryz.f170.name,by decide,Tryz.func170.trans rfl⟩
 f57:=⟨Tryz.f173.name,by decide,Tryz.func173.trans rfl⟩
 t0:=Tryz.underlying0
 a0:=Tryz.isAgg0
 z0:=Tryz.sizeOf0
 v0:=Tryz.zeroValue0
 t3:=Tryz.underlying3
 a3:=Tryz.isAgg3
 z3:=Tryz.sizeOf3
 v3:=Tryz.zeroValue3
 t4:=Tryz.underlying4
 a4:=Tryz.isAgg4
 z4:=Tryz.sizeOf4
 v4:=Tryz.zeroValue4
 t5:=Tryz.underlying5
 a5:=Tryz.isAgg5
 z5:=Tryz.sizeOf5
 v5:=Tryz.zeroValue5
 t9:=Tryz.underlying9
 a9:=Tryz.isAgg9
 z9:=Tryz.sizeOf9
 v9:=Tryz.zeroValue9
 t22:=Tryz.underlying76
 a22:=Tryz.isAgg76
 z22:=Tryz.sizeOf76
 v22:=Tryz.zeroValue76
 t25:=Tryz.underlying169
 a25:=Tryz.isAgg169
 z25:=Tryz.sizeOf169
 v25:=Tryz.zeroValue169
 t39:=Tryz.underlying193
 a39:=Tryz.isAgg193
 z39:=Tryz.sizeOf193
 v39:=Tryz.zeroValue193
 t45:=Tryz.underlying226
 a45:=Tryz.isAgg226
 z45:=Tryz.sizeOf226
 v45:=Tryz.zeroValue226
 t46:=Tryz.underlying227
 a46:=Tryz.isAgg227
 z46:=Tryz.sizeOf227
 v46:=Tryz.zeroValue227
 t50:=Tryz.underlying103
 a50:=Tryz.isAgg103
 z50:=Tryz.sizeOf103
 v50:=Tryz.zeroValue103
 t53:=Tryz.underlying233
 a53:=Tryz.isAgg233
 z53:=Tryz.sizeOf233
 v53:=Tryz.zeroValue233
 t55:=Tryz.underlying191
 a55:=Tryz.isAgg191
 z55:=Tryz.sizeOf191
 v55:=Tryz.zeroValue191
 t66:=Tryz.underlying236
 a66:=Tryz.isAgg236
 z66:=Tryz.sizeOf236
 v66:=Tryz.zeroValue236
 t70:=Tryz.underlying240
 a70:=Tryz.isAgg240
 z70:=Tryz.sizeOf240
 v70:=Tryz.zeroValue240
 t76:=Tryz.underlying244
 a76:=Tryz.isAgg244
 z76:=Tryz.sizeOf244
 v76:=Tryz.zeroValue244
 t77:=Tryz.underlying245
 a77:=Tryz.isAgg245
 z77:=Tryz.sizeOf245
 v77:=Tryz.zeroValue245
end Go.Proofs
