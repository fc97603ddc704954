import GoSem.ClaimChange
import Derived.Test.YtmflfedkfdkipaaGreatP6
set_option linter.all false
namespace Go.Vx
open Go Go.Rx
mutual
def Rep(W:Xt):U->Value->Prop
 |.bool b,v=>v=.bool b|.int k n,v=>v=.int k n
 |.str l,v=>v=.string ⟨⟨l⟩⟩|.isl t l,v=>t=false/\((l=[]/\(v=.slice none 0 0\/∃b off p,v=.slice (some ⟨b,off,some p⟩) 0 0))\/∃b off c,v=.slice (some ⟨b,off,none⟩) l.length c/\c<cV/\l.length<=c/\
   (l=[]\/∃cs e fr sz,W.heap[b]? = some (.cells cs e fr)/\MJ W sz l (cs.toList.drop off)))
 |.agg l,v=>∃vs,v=.agg ⟨vs⟩/\nF W l vs/\l.length=vs.length/\okL l=true|_,_=>False
def nF(W:Xt):X U->X Value->Prop
 |[],_=>True|u::us,vs=>match vs with
  |[]=>False|v::vs=>Rep W u v/\nF W us vs
def MJ(W:Xt)(sz:Nat):X (X U)->X Value->Prop
 |[],_=>True|c::cs,vs=>c.length=sz/\okL c=true/\nF W c vs/\MJ W sz cs (vs.drop sz)
end
def cx(s:S):Cx:=⟨fun _=>none,⟨[],0⟩,s⟩
def Oa(s:S):Prop:=∀i b,lk s.h i=some b->Own b=false
structure Grow(m:Nm)(s:S)(m':Nm)(s':S):Prop where
 agree:aN s.nx m m'
 nx:s.nx<=s'.nx
 rows:∀i b,lk s.h i=some b->lk s'.h i=some b
def Grow.refl(m:Nm)(s:S):Grow m s m s:=⟨aN.refl _ _,zF _,fun _ _ h=>h⟩
def Grow.trans{m m' m'':Nm}{s s' s'':S}(h:Grow m s m' s')(h':Grow m' s' m'' s''):Grow m s m'' s'':=⟨h.agree.trans h'.agree h.nx,Nat.le_trans h.nx h'.nx,fun i b hb=>h'.rows i b (h.rows i b hb)⟩
variable{m:Nm}
variable{m':Nm}
variable{s:S}
variable{s':S}
def Grow.mo(h:Grow m s m' s'):Mo 0 (cx s) (cx s'):=⟨fun k hk=>qq0,fun i row e hl=>h.rows i _ hl⟩
def Grow.rel(h:Grow m s m' s'){u:U}{v:Value}(hr:aC (cx s) u v):aC (cx s') u v:=h.mo.ke u v (aC.bel _ _ hr) hr
def Grow.relE(h:Grow m s m' s'){l:X U}{vs:X Value}(hr:bA (cx s) l vs):bA (cx s') l vs:=h.mo.ke.E hr.bel hr
def qwd(m:Nm)(n:Nat):nR m n [] []:=fun _ _=>by simp[aJ]
def z2c{n:Nat}{v cv:Value}{vs mR:X Value}(h:iY m n v cv)(h':nR m n vs mR):nR m n (v::vs) (cv::mR):=fun m' ha=>by simp[aJ,h m' ha,h' m' ha]
def qjx{x:Cx}{sz:Nat}:∀{l:X (X U)}{vs:X Value},bA x l.flatten vs->(∀c∈l,c.length=sz/\okL c=true)->gY x sz l vs
 |[],vs,h,hs=>by simp[gY]
 |c::l,vs,h,hs=>by obtain⟨h1,h2⟩:=hs c qq4;simp only[gY];rw[List.flatten_cons]at h;refine⟨h1,h2,?_,qjx (by have:=h.drop sz;rwa [List.drop_append_of_le_length qq0,List.drop_of_length_le qq0,List.nil_append]at this) fun d hd=>hs d (by simp[hd])⟩;rw[H6];intro i u hu;have aE:i<c.length:=(zG.1 hu).1;exact h.get (by rw[List.getElem?_append_left aE];exact hu)
def qwf{W:Xt}{sz:Nat}:∀{l:X (X U)}{vs:X Value},MJ W sz l vs->∀c∈l,c.length=sz/\okL c=true
 |[],vs,h=>by simp
 |d::l,vs,h=>fun c hc=>by simp only[MJ]at h;rcases zI.1 hc with rfl |hc;exact⟨h.1,h.2.1⟩;exact qwf h.2.2.2 c hc
def Got(W:Xt)(m:Nm)(s:S)(u:U)(cv:Value):Prop:=∃m' s' v,Grow m s m' s'/\gE m' s' W/\Oa s'/\(∀i b,lk s'.h i=some b->i<s'.nx)/\iY m' s'.nx v cv/\aC (cx s') u v
def qh(W:Xt)(m:Nm)(s:S)(us:X U)(mR:X Value):Prop:=∃m' s' vs,Grow m s m' s'/\gE m' s' W/\Oa s'/\(∀i b,lk s'.h i=some b->i<s'.nx)/\nR m' s'.nx vs mR/\bA (cx s') us vs
mutual
def XM{W:Xt}:(u:U)->(cv:Value)->Rep W u cv->∀m s,gE m s W->Oa s->(∀i b,lk s.h i=some b->i<s.nx)->Got W m s u cv
 |.bool b,cv,h,m,s,hf,hn,iC=>by simp only[Rep]at h;subst h;exact⟨m,s,.bool b,Grow.refl _ _,hf,hn,iC,NQ fun _=>by simp[ren],by simp[aC]⟩
 |.int k n,cv,h,m,s,hf,hn,iC=>by simp only[Rep]at h;subst h;exact⟨m,s,.int k n,Grow.refl _ _,hf,hn,iC,NQ fun _=>by simp[ren],by simp[aC]⟩
 |.str l,cv,h,m,s,hf,hn,iC=>by simp only[Rep]at h;subst h;exact⟨m,s,_,Grow.refl _ _,hf,hn,iC,NQ fun _=>by simp[ren],by simp[aC]⟩
 |.agg l,cv,h,m,s,hf,hn,iC=>by simp only[Rep]at h;obtain⟨mR,rfl,h1,h2,h3⟩:=h;obtain⟨m',s',vs,g1,g2,g3,g4,g5,g6⟩:=xl l mR h1 m s hf hn iC;rw[h2,List.take_length]at g5;exact⟨m',s',.agg ⟨vs⟩,g1,g2,g3,g4,fun m'' ha=>by simp[ren,g5 m'' ha],by simp only[aC];exact⟨vs,rfl,g6.1,g6.2,h3⟩⟩
 |.isl t l,cv,h,m,s,hf,hn,iC=>by
  simp only[Rep]at h;obtain⟨rfl,h⟩:=h;rcases h with⟨rfl,rfl |⟨b,off,p,rfl⟩⟩|⟨b,off,c,rfl,hc,gz,h⟩;exact⟨m,s,.slice none 0 0,Grow.refl _ _,hf,hn,iC,NQ fun _=>by simp[ren],by simp[aC]⟩;refine⟨m.set s.nx b off p,⟨s.h,s.nx+1⟩,.chan (some s.nx),⟨Nm.agree_set _ _ _ _ _,Nat.le_succ _,fun _ _ h=>h⟩,(bT.ghost hf b off p).fits,hn,fun i b hb=>Nat.lt_succ_of_lt (iC i b hb),fun m' ha=>?_,by simp[aC]⟩;obtain⟨q1,q2,q3⟩:=ha s.nx (zN _);simp[ren,q1,q2,q3,Nm.set];by_cases hl:l=[];subst hl;refine⟨m.set s.nx b off 0,⟨s.h,s.nx+1⟩,.slice (some ⟨s.nx,0,none⟩) 0 c,⟨Nm.agree_set _ _ _ _ _,Nat.le_succ _,fun _ _ h=>h⟩,(bT.ghost hf b off 0).fits,hn,fun i b hb=>Nat.lt_succ_of_lt (iC i b hb),fun m' ha=>?_,?_⟩;obtain⟨q1,q2,_⟩:=ha s.nx (zN _);simp[ren,q1,q2,Nm.set,dM,hc];simp only[aC];exact .inr ⟨s.nx,0,c,rfl,by simp,.inl trivial⟩;rcases h with h |⟨cs,e,fr,sz,hw,hr⟩;exact absurd h hl;obtain⟨m',s',vs,g1,g2,g3,g4,g5,g6⟩:=z2h l _ hr m s hf hn iC;have bY:=qwf hr;have gH:∀m'',aN (s'.nx+1) (m'.set s'.nx b off 0) m''->aN s'.nx m' m'':=fun m'' ha=>(Nm.agree_set m' s'.nx b off 0).trans ha (Nat.le_succ _)
  have A4:∀m'',aN (s'.nx+1) (m'.set s'.nx b off 0) m''->m''.blk s'.nx=b/\m''.sh s'.nx=off:=fun m'' ha=>by obtain⟨q1,q2,_⟩:=ha s'.nx (zN _);simp[Nm.set]at q1 q2;exact⟨q1,q2⟩
  refine⟨m'.set s'.nx b off 0,⟨(s'.nx,.inl (vs,0,1))::s'.h,s'.nx+1⟩,.slice (some ⟨s'.nx,0,none⟩) l.length c,g1.trans ⟨Nm.agree_set _ _ _ _ _,Nat.le_succ _,fun i b hb=>?_⟩,fun m'' ha=>⟨fun i d hd=>?_,fun i j d d' hd bH nY ho=>?_,fun i d hd=>?_⟩,fun i d hd=>?_,fun i d hd=>?_,fun m'' ha=>?_,?_⟩;have:=g4 i b hb;simp[mK,show s'.nx≠i by omega,hb];simp only[mK]at hd;split at hd;rename_i e;subst e;cases hd;obtain⟨q1,q2⟩:=A4 m'' ha;refine⟨cs,e,fr,by rw[q1];exact hw,fun k v hk=>?_,fun n hn=>absurd hn qq4⟩;have:=congrArg (fun z=>z[k]?) (g5 m'' (gH m'' ha));simp only[mC,List.getElem?_map,hk,zM,List.getElem?_take,List.getElem?_drop]at this;split at this;rw[q2];simpa using this.symm;cases this;exact(g2 m'' (gH m'' ha)).ok i d hd;simp only[mK]at hd bH;split at hd;cases hd;simp[Own]at ho;rw[g3 i d hd]at ho;cases ho;simp only[mK]at hd;split at hd;show i<s'.nx+1;omega;exact Nat.lt_succ_of_lt (g4 i d hd);simp only[mK]at hd;split at hd;cases hd;rfl;exact g3 i d hd;simp only[mK]at hd;split at hd;show i<s'.nx+1;omega;exact Nat.lt_succ_of_lt (g4 i d hd);obtain⟨q1,q2⟩:=A4 m'' ha;simp[ren,q1,q2,dM,hc];have hg:Grow m' s' (m'.set s'.nx b off 0) ⟨(s'.nx,.inl (vs,0,1))::s'.h,s'.nx+1⟩:=⟨Nm.agree_set _ _ _ _ _,Nat.le_succ _,fun i b hb=>by have:=g4 i b hb;simp[mK,show s'.nx≠i by omega,hb]⟩;simp only[aC];exact .inr ⟨s'.nx,0,c,rfl,by simp,.inr ⟨vs,0,sz,by simp[cx,mK],qjx (hg.relE g6) bY,.inl ⟨hc,gz⟩⟩⟩
 |.junk,cv,h,m,s,hf,hn,iC=>by simp[Rep]at h
 |.nilp,cv,h,m,s,hf,hn,iC=>by simp[Rep]at h
 |.ptr _ _ _,cv,h,m,s,hf,hn,iC=>by simp[Rep]at h
 |.iptr _,cv,h,m,s,hf,hn,iC=>by simp[Rep]at h
 |.nils,cv,h,m,s,hf,hn,iC=>by simp[Rep]at h
 |.sl _ _ _ _,cv,h,m,s,hf,hn,iC=>by simp[Rep]at h
 |.vl _ _ _ _,cv,h,m,s,hf,hn,iC=>by simp[Rep]at h
 |.nilm,cv,h,m,s,hf,hn,iC=>by simp[Rep]at h
 |.map _,cv,h,m,s,hf,hn,iC=>by simp[Rep]at h
 |.fn _ _ _,cv,h,m,s,hf,hn,iC=>by simp[Rep]at h
 |.nilf,cv,h,m,s,hf,hn,iC=>by simp[Rep]at h
 |.nili,cv,h,m,s,hf,hn,iC=>by simp[Rep]at h
 |.tup _,cv,h,m,s,hf,hn,iC=>by simp[Rep]at h
def xl{W:Xt}:(us:X U)->(mR:X Value)->nF W us mR->∀m s,gE m s W->Oa s->(∀i b,lk s.h i=some b->i<s.nx)->qh W m s us (mR.take us.length)
 |[],mR,h,m,s,hf,hn,iC=>⟨m,s,[],Grow.refl _ _,hf,hn,iC,by simpa using qwd m s.nx,bA.nil _⟩|u::us,[],h,m,s,hf,hn,iC=>by simp[nF]at h
 |u::us,cv::mR,h,m,s,hf,hn,iC=>by simp only[nF]at h;obtain⟨m',s',v,g1,g2,g3,g4,g5,g6⟩:=XM u cv h.1 m s hf hn iC;obtain⟨m'',s'',vs,k1,k2,k3,k4,k5,k6⟩:=xl us mR h.2 m' s' g2 g3 g4;exact⟨m'',s'',v::vs,g1.trans k1,k2,k3,k4,by simpa using z2c (g5.ext k1.agree k1.nx) k5,bA.cons (k1.rel g6) k6⟩
def z2h{W:Xt}{sz:Nat}:(l:X (X U))->(mR:X Value)->MJ W sz l mR->∀m s,gE m s W->Oa s->(∀i b,lk s.h i=some b->i<s.nx)->qh W m s l.flatten (mR.take (l.length*sz))
 |[],mR,h,m,s,hf,hn,iC=>⟨m,s,[],Grow.refl _ _,hf,hn,iC,by simpa using qwd m s.nx,bA.nil _⟩|c::l,mR,h,m,s,hf,hn,iC=>by
  simp only[MJ]at h;obtain⟨m',s',v,g1,g2,g3,g4,g5,g6⟩:=xl c mR h.2.2.1 m s hf hn iC;obtain⟨m'',s'',vs,k1,k2,k3,k4,k5,k6⟩:=z2h l _ h.2.2.2 m' s' g2 g3 g4;refine⟨m'',s'',v++vs,g1.trans k1,k2,k3,k4,?_,by rw[List.flatten_cons];exact(k1.relE g6).append k6⟩;have e:mR.take ((c::l).length*sz)=mR.take c.length++(mR.drop sz).take (l.length*sz):=by rw[zO,Nat.succ_mul,Nat.add_comm,List.take_add,h.1]
  rw[e];exact(g5.ext k1.agree k1.nx).append k5
end
def law_calls{P:Zt}{f:FuncId}{us:X U}{W:Xt}{args:X Value}(h:aW P f us ⟨[],0⟩ (fun u _=>u=.bool true))(hr:nF W us args)(hl:us.length=args.length):
  Calls P f args.toArray W fun e w'=>e=.returned (.bool true)/\RowKit.Below W.heap.size W w':=by have h0:gE ⟨id,id,id⟩ ⟨[],0⟩ W:=fun m' _=>⟨fun i b hb=>by simp[lk]at hb,fun i j b c hb=>by simp[lk]at hb,fun i b hb=>by simp[lk]at hb⟩;obtain⟨m,s,vs,g1,g2,g3,g4,g5,g6⟩:=xl us args hr ⟨id,id,id⟩ ⟨[],0⟩ h0 (fun i b hb=>by simp[lk]at hb) (fun i b hb=>by simp[lk]at hb);rw[hl,List.take_length]at g5;refine(h (fun _ _=>False) (cx s) vs m W args rfl ⟨fun k b hb=>by simp[cx,gt]at hb,fun k k' b b' i hb=>by simp[cx,gt]at hb,g4⟩ (fun _ _ O=>O.elim) g6 g2 g5).mono ?_;rintro e w' ⟨y,aL,u,v,cv,rfl,rfl,aS,iP,_,_,yX,_,_⟩;simp only[aC]at yX;subst yX;have:=iP.at;simp only[ren]at this;exact⟨by rw[<-this],aS.below fun b ⟨i,c,hc,ho,_⟩=>by rw[g3 i c hc]at ho;cases ho⟩
def OfTy(P:Zt):Nat->TypeId->X U->Prop
 |0,_,_=>False|n+1,t,us=>match P.underlying t with
  |some .bool=>∃b,us=[.bool b]|some (.int k)=>∃i,us=[.int k i]/\(Lit.int k i).wf=true
  |some .string=>∃s,us=[.str s]/\s.length<=maxLen|some (.slice e)=>∃l,us=[.isl false l]/\l.length<=maxLen/\∀c∈l,OfTy P n e c
  |some (.struct fs)=>us.length=P.cellsOf t/\∀f∈fs.toList,OfTy P n f.type ((us.drop f.offset).take (P.cellsOf f.type))|some (.array k e)=>us.length=P.cellsOf t/\∀i,i<k->OfTy P n e ((us.drop (i*P.cellsOf e)).take (P.cellsOf e))
  |_=>False
end Go.Vx
namespace Go.Vx
open Go Go.Rx
variable{tm:X U}
variable{tm':X U}
def q?{l:X Ws}(h:∀t∈tmpsOf l,tm[t]? = tm'[t]?){x:Ws}(hx:x∈l):cG tm x=cG tm' x:=by cases x with|tmp t=>simp only[cG,kI];exact h t (qxp hx)|_=>rfl
def Qz{l:X Ws}(h:∀x∈l,cG tm x=cG tm' x):oC tm l=oC tm' l:=by induction l with|nil=>rfl|cons x l ih=>simp only[oC];rw[h x qq4,ih fun y hy=>h y (by simp[hy])]
def qjl{l:X (Nat×Ws)}(h:∀x∈l.map (·.2),cG tm x=cG tm' x):yN tm l=yN tm' l:=by induction l with|nil=>rfl|cons x l ih=>obtain⟨i,x⟩:=x;simp only[yN];rw[h x qq4,ih fun y hy=>h y (by simp only[zQ,zI];exact .inr hy)]
def qjk{x:Y Ws}(h:∀y,x=some y->cG tm y=cG tm' y):AQ tm x=AQ tm' x:=by rcases x with _|y;rfl;simp only[AQ];rw[h y rfl]
section
variable{T:Tb}{tm tm':X U}{V:Sg}{op:Op}
def qtm(h:∀x∈op.operands.toList,cG tm x=cG tm' x):hZ T V tm op=hZ T V tm' op:=by
 cases op<;>simp only[Op.operands]at h<;>try rfl
 case move x=>simp only[hZ];exact h x qq4
 case assign x=>simp only[hZ];exact h x qq4
 case pick c a b=>simp only[hZ];rw[h c qq4,h a qq4,h b qq4]
 case build t ps=>simp only[hZ];rw[qjl (by simpa using h)]
 case nilCheck x=>simp only[hZ];rw[h x qq4]
 case binOp o t x y ty=>simp only[hZ];rw[h x qq4,h y qq4]
 case unOp o t x=>simp only[hZ];rw[h x qq4]
 case convert a b x=>simp only[hZ];rw[h x qq4]
 case makeFunc f a b=>simp only[hZ];rw[Qz fun x hx=>h x (by simp at hx ⊢;exact .inl hx),Qz fun x hx=>h x (by simp at hx ⊢;exact .inr hx)]
 case slice t x lo hi mx=>
  cases mx with|some _=>rfl|none=>
  simp only[hZ];rw[h x qq4,qjk (x:=lo) fun y hy=>h y (by subst hy;simp),qjk (x:=hi) fun y hy=>h y (by subst hy;simp)]
 case fieldAddr t x f=>simp only[hZ];rw[h x qq4]
 case field t x f=>simp only[hZ];rw[h x qq4]
 case indexAddr t x i=>simp only[hZ];rw[h x qq4,h i qq4]
 case index t x i=>simp only[hZ];rw[h x qq4,h i qq4]
 case extract x i=>simp only[hZ];rw[h x qq4]
 case call c=>simp only[hZ];rw[Qz (l:=c.args.toList) fun x hx=>h x (by simp[Call.operands]at hx ⊢;exact .inr hx)]
def qtq(h:∀x∈op.operands.toList,cG tm x=cG tm' x):qX T V tm op=qX T V tm' op:=by
 cases op<;>simp only[Op.operands]at h<;>try rfl
 case load t x=>simp only[qX];rw[h x qq4]
def qxc(h:∀x∈op.operands.toList,cG tm x=cG tm' x):qU T V tm op=qU T V tm' op:=by
 cases op<;>simp only[Op.operands]at h<;>try rfl
 case box t x=>simp only[qU];rw[h x qq4]
 case store t x y=>simp only[qU];rw[h x qq4,h y qq4]
 case buildSlice t n ps=>simp only[qU];rw[qjl (by simpa using h)]
 case makeSlice t x y=>simp only[qU];rw[h x qq4,h y qq4]
 case makeMap t r=>cases r<;>rfl
 case call c=>simp only[qU];rw[Qz (l:=c.args.toList) fun x hx=>h x (by simp[Call.operands]at hx ⊢;exact .inr hx)]
def r?(h:∀x∈op.operands.toList,cG tm x=cG tm' x):jM T tm op=jM T tm' op:=by
 cases op<;>simp only[Op.operands]at h<;>try rfl
 case call c=>
  simp only[jM];rw[Qz (l:=c.args.toList) fun x hx=>h x (by simp[Call.operands]at hx ⊢;exact .inr hx)];cases hc:c.callee with
  |value f=>simp only[];rw[h f (by simp[Call.operands,hc])]|_=>rfl
def jv(h:∀x∈op.operands.toList,cG tm x=cG tm' x):bI T V tm op=bI T V tm' op:=by unfold bI;rw[qtm h,qtq h,qxc h]
end
def Aa{aA:X Oper}{o:Oper}(h:∀t∈N7 aA o,tm[t]? = tm'[t]?):(∀x∈o.op.operands.toList,cG tm x=cG tm' x)/\c9 aA tm o=c9 aA tm' o:=by
 unfold N7 at h;unfold c9;cases hg:o.guard with
 |none=>simp only[hg]at h;exact⟨fun x hx=>q? h hx,rfl⟩|some g=>
  obtain⟨j,want⟩:=g;simp only[hg]at h;cases hd:AN aA j with
  |none=>simp only[hd]at h;exact⟨fun x hx=>q? h hx,by simp only[hd]⟩|some d=>simp only[hd]at h;refine⟨fun x hx=>q? (fun t ht=>h t (by simp[ht])) hx,?_⟩;simp only[hd,kI];rw[h d qq4]
variable{K:Nat}
variable{k:Nat}
def qz(h:Nat.beq k K=false)(b:B)(sz st off n:Nat):fz K b sz (.vl k st off n)=.vl k st off n:=by simp[fz,h]
def U8(h:Nat.beq k K=false)(b:B)(sz off n c:Nat):fz K b sz (.sl k off n c)=.sl k off n c:=by simp[fz,h]
def UB(h:Nat.beq k K=false)(b:B)(sz st off:Nat):fz K b sz (.ptr k st off)=.ptr k st off:=by simp[fz,h]
def U9(K:Nat)(l:X U)(e:TypeId)(sz n:Nat)(h:n*sz<=l.length):fz K (.row l e) sz (.sl K 0 n n)=.isl false (bN sz n l):=by
 have:Nat.beq n n=true:=by simp[beq_eq]
 simp[fz,beq_eq,h]
def Xs(K:Nat)(l:X U)(e:TypeId)(sz:Nat):fz K (.row l e) sz (.ptr K 0 0)=.iptr l:=by simp[fz,beq_eq]
def DL(K:Nat)(b:B)(sz:Nat)(k:IntKind)(n:Int):fz K b sz (.int k n)=.int k n:=by simp[fz]
def KZ(K:Nat)(b:B)(sz:Nat)(x:DC):fz K b sz (.bool x)=.bool x:=by simp[fz]
def RN(K:Nat)(b:B)(sz:Nat)(x:X PI):fz K b sz (.str x)=.str x:=by simp[fz]
def NE(K:Nat)(b:B)(sz:Nat):fz K b sz .nils=.nils:=by simp[fz]
def Y9(K:Nat)(b:B)(sz:Nat):fz K b sz .nilp=.nilp:=by simp[fz]
def YA(K:Nat)(b:B)(sz:Nat):fz K b sz .nilm=.nilm:=by simp[fz]
def YB(K:Nat)(b:B)(sz:Nat):fz K b sz .nilf=.nilf:=by simp[fz]
def RX(K:Nat)(b:B)(sz:Nat):fz K b sz .junk=.junk:=by simp[fz]
def H5(K:Nat)(b:B)(sz:Nat)(t:DC)(l:X (X U)):fz K b sz (.isl t l)=.isl t l:=by simp[fz]
def Y6(K:Nat)(b:B)(sz:Nat)(k:Nat):fz K b sz (.map k)=.map k:=by simp[fz]
def NA(K:Nat)(b:B)(sz:Nat)(l:X U):fz K b sz (.agg l)=.agg (gU K b sz l):=by simp[fz]
def RM(K:Nat)(b:B)(sz:Nat)(l:X U):fz K b sz (.tup l)=.tup (gU K b sz l):=by simp[fz]
def RB(K:Nat)(b:B)(sz:Nat)(f:Fn)(a c:X U):fz K b sz (.fn f a c)=.fn f (gU K b sz a) (gU K b sz c):=by simp[fz]
def vG(K:Nat)(b:B)(sz:Nat):gU K b sz []=[]:=by simp[gU]
def tA(K:Nat)(b:B)(sz:Nat)(u:U)(l:X U):gU K b sz (u::l)=fz K b sz u::gU K b sz l:=by simp[gU]
mutual
def N9{K:Nat}(b:B)(sz:Nat):(u:U)->aT K u->fz K b sz u=u
 |.sl k _ _ _,h=>U8 (by simp only[aT]at h;simp[beq_eq];omega) _ _ _ _ _|.vl k _ _ _,h=>qz (by simp only[aT]at h;simp[beq_eq];omega) _ _ _ _ _
 |.ptr k _ _,h=>UB (by simp only[aT]at h;simp[beq_eq];omega) _ _ _ _|.agg l,h=>by simp only[aT]at h;rw[NA,tO b sz l h]
 |.tup l,h=>by simp only[aT]at h;rw[RM,tO b sz l h]
 |.fn f a c,h=>by simp only[aT]at h;rw[RB,tO b sz a h.1,tO b sz c h.2]
 |.int _ _,_=>DL _ _ _ _ _|.bool _,_=>KZ _ _ _ _
 |.str _,_=>RN _ _ _ _|.nils,_=>NE _ _ _
 |.nilp,_=>Y9 _ _ _|.nilm,_=>YA _ _ _
 |.nilf,_=>YB _ _ _|.nili,_=>by simp[fz]
 |.junk,_=>RX _ _ _|.isl _ _,_=>H5 _ _ _ _ _
 |.iptr _,_=>by simp[fz]
 |.map _,_=>Y6 _ _ _ _
def tO{K:Nat}(b:B)(sz:Nat):(l:X U)->aG K l->gU K b sz l=l
 |[],_=>vG _ _ _|u::l,h=>by simp only[aG]at h;rw[tA,N9 b sz u h.1,tO b sz l h.2]
end
variable{x:Cx}
def nN.belB{b:B}(h:nN x k b):BelB x.V.nx b:=by
 cases b with
 |row l e=>obtain⟨_,_,_,_,_,e3⟩:=h;exact e3.bel
 |vec l e sz st=>obtain⟨_,_,h3⟩:=h;rcases h3 with⟨rfl,_⟩|⟨_,_,_,_,e3⟩;simp[BelB,aG];exact e3.bel
 |map es cl=>obtain⟨_,es',_,_,e3⟩:=h;intro e he;obtain⟨j,hj,rfl⟩:=List.getElem_of_mem he;obtain⟨v,_,q2,q3,_⟩:=e3.2 j _ (List.getElem?_eq_getElem hj);exact⟨aC.bel _ _ q2,aC.bel _ _ q3⟩
variable{n0:Nat}
variable{V:Sg}
def Gh.same(h':X (Nat×B))(hg:∀k,gt h' k=gt V.h k):Gh n0 tm V tm ⟨h',V.nx⟩:=fun F x tv hx hr hf he=>by
 subst hx;have fD:Mo x.V.nx x ⟨x.I,⟨h',x.V.nx⟩,x.s⟩:=⟨fun k _ h2=>⟨h2,fun b hb=>⟨b,by rw[<-hg];exact hb,zF _,fun _=>⟨rfl,fun l e sz st h=>⟨l,h⟩⟩⟩⟩,fun _ _ _ h=>h⟩;refine⟨⟨x.I,⟨h',x.V.nx⟩,x.s⟩,fun m w hf=>bT.refl hf,rfl,⟨fun k b hb=>?_,fun k k' b b' i hb cK=>?_,hr.bd⟩,fun i b O=>?_,fD.ke.E he.bel he,fun u v hb hr=>fD.ke u v (aC.bel u v hr) hr⟩;have cK:gt x.V.h k=some b:=by rw[<-hg];exact hb
 obtain⟨h1,h2⟩:=hr.ok k b cK;exact⟨h1,h2.mono fD rfl fun _ _ _ h=>h⟩;exact hr.inj k k' b b' i (by rw[<-hg];exact hb) (by rw[<-hg];exact cK);obtain⟨h1,h2⟩:=hf i b O;exact⟨h1,fun k c hc=>h2 k c (by rw[<-hg];exact hc)⟩
variable{T:Tb}
variable{op:Op}
def qyz{q:FuncId×X U}(h:jM T tm op=some q):bI T V tm op=none:=by
 cases op with
 |call c=>
  simp only[jM]at h;cases hc:c.callee with
  |value f=>simp[bI,hZ,qX,qU,hc]|_=>simp[hc]at h
 |_=>simp[jM]at h
def Gh.cutG{n1:Nat}(h1:n0<=n1)(h2:n1<=V.nx)(hb:aG n1 tm)(hh:∀k b,gt (Vx.cut n1 V.h) k=some b->BelB n1 b):Gh n0 tm V tm ⟨Vx.cut n1 V.h,n1⟩:=fun F x tv hx hr hf he=>by
 subst hx;have fD:Mo n1 x ⟨x.I,⟨Vx.cut n1 x.V.h,n1⟩,x.s⟩:=by refine⟨fun k hk _=>⟨hk,fun b hb=>?_⟩,fun _ _ _ h=>h⟩;simp only[Y5,hk,if_true]at hb;exact⟨b,hb,zF _,fun _=>⟨rfl,fun l e sz st h=>⟨l,h⟩⟩⟩
 have sub:∀{k b},gt (Vx.cut n1 x.V.h) k=some b->k<n1/\gt x.V.h k=some b:=fun{k b} hg=>by simp only[Y5]at hg;split at hg;exact⟨by assumption,hg⟩;cases hg
 refine⟨⟨x.I,⟨Vx.cut n1 x.V.h,n1⟩,x.s⟩,fun m w hf=>bT.refl hf,rfl,⟨fun k b hg=>?_,fun k k' b b' i g1 g2=>hr.inj k k' b b' i (sub g1).2 (sub g2).2,hr.bd⟩,fun i b O=>?_,fD.ke.E hb he,fD.ke.le h1⟩;exact⟨(sub hg).1,(hr.ok k b (sub hg).2).2.monoB (hh k b hg) fD rfl fun _ _ _ h=>h⟩;exact⟨(hf i b O).1,fun k c hc=>(hf i b O).2 k c (sub hc).2⟩
def qn5{k:Nat}(sz:Nat):∀(n:Nat)(l:X U),aG k l->kH k (bN sz n l)
 |0,l,_=>by simp[bN,kH]
 |n+1,l,h=>by simp only[bN,kH];exact⟨(vI k _).2 fun u hu=>(vI k _).1 h u (List.mem_of_mem_take hu),qn5 sz n _ ((vI k _).2 fun u hu=>(vI k _).1 h u (List.mem_of_mem_drop hu))⟩
def sY(P:Zt)(T:Tb)(tm:X U)(op:Op)(u:U):Prop :=
 (∃f args,jM T tm op=some (f,args)/\∀s,aW P f args s (fun u' V=>u'=u/\V=s))\/ (∃n sz cs e,(∀V,bI T V tm op=some (.sl V.nx 0 n n,newU V (.row cs e)))/\n*sz<=cs.length/\(∀m,(∀x∈op.operands.toList,∀u',cG tm x=some u'->aT m u')->aG m cs)/\u=.isl false (bN sz n cs))
def Gh.quiet{n sz:Nat}{cs:X U}{e:TypeId}{d:Y Tmp}(h0:n0<=V.nx)(hb:aG V.nx tm)(hs:∀k b,gt V.h k=some b->k<V.nx/\BelB V.nx b)(hl:n*sz<=cs.length)(BL:aG V.nx cs):Gh n0 (eH tm d (.sl V.nx 0 n n)) (newU V (.row cs e)) (eH tm d (.isl false (bN sz n cs))) V:=by
 have e0:gt (newU V (.row cs e)).h V.nx=some (.row cs e):=by simp[newU,aP]
 have et:gU V.nx (.row cs e) sz (eH tm d (.sl V.nx 0 n n))=eH tm d (.isl false (bN sz n cs)):=by
  rcases d with _|t;simp only[eH];exact tO _ _ _ hb;simp only[eH];have key:∀(l:X U)(t:Nat),aG V.nx l->gU V.nx (.row cs e) sz (l.set t (.sl V.nx 0 n n))=l.set t (.isl false (bN sz n cs)):=by
   intro l;induction l with
   |nil=>intro t _;simp[gU]|cons u l ih=>
    intro t h;simp only[aG]at h;cases t with
    |zero=>simp only[List.set_cons_zero,tA,tO _ _ l h.2,U9 V.nx cs e sz n hl]|succ t=>simp only[List.set_cons_succ,tA,N9 _ _ u h.1,ih t h.2]
  exact key tm t hb
 have bh:aG V.nx (eH tm d (.isl false (bN sz n cs))):=by
  rcases d with _|t;simpa only[eH]using hb;simp only[eH];have key:∀(l:X U)(t:Nat),aG V.nx l->aG V.nx (l.set t (.isl false (bN sz n cs))):=by
   intro l;induction l with
   |nil=>intro t _;simp[aG]|cons u l ih=>
    intro t h;simp only[aG]at h;cases t with
    |zero=>simp only[List.set_cons_zero,aG];exact⟨by simp only[aT];exact qn5 sz n cs BL,h.2⟩|succ t=>simp only[List.set_cons_succ,aG];exact⟨h.1,ih t h.2⟩
  exact key tm t hb
 have eg:∀k,gt (Vx.cut V.nx (fzH V.nx (.row cs e) sz (newU V (.row cs e)).h)) k=gt V.h k:=fun k=>by
  rw[Y5];by_cases hk:k<V.nx;rw[if_pos hk,AP,if_neg qq0];have:gt (newU V (.row cs e)).h k=gt V.h k:=by simp only[newU,aP];rw[if_neg qq0]
  rw[this];rcases hg:gt V.h k with _|b;rfl;have hb:=(hs k b hg).2;simp only[zM,zA];cases b with
  |row l e=>simp only[fzB];rw[tO _ _ _ hb]|vec l e s st=>simp only[fzB];rw[tO _ _ _ hb]
  |map es cl=>
   simp only[fzB];congr 1;have:∀q∈es,({ q with val:=fz V.nx (.row cs e) sz q.val }:_)=q:=fun q hq=>by rw[N9 _ _ _ (hb q hq).2]
   exact(List.map_congr_left this).trans (List.map_id _)
  rw[if_neg hk];rcases hg:gt V.h k with _|b;rfl;exact absurd (hs k b hg).1 hk
 refine(Gh.freeze (n0:=n0) sz e0 qq4).trans ?_;rw[et];refine(Gh.cutG (n0:=n0) (n1:=V.nx) h0 (by simp[newU]) bh ?_).trans ?_;intro k b hg;rw[eg]at hg;exact(hs k b hg).2;exact Gh.same (V:=⟨Vx.cut V.nx (fzH V.nx (.row cs e) sz (newU V (.row cs e)).h),V.nx⟩) V.h fun k=>(eg k).symm
variable{P:Zt}
variable{u:U}
def sY.noop(h:sY P T tm op u)(V:Sg):bI T V tm op≠some (u,V):=fun hc=>by
 rcases h with⟨f,args,h,_⟩|⟨n,sz,cs,e,h,_⟩;rw[qyz h]at hc;cases hc;rw[h V]at hc;simp only[zA,zB]at hc;have:=congrArg Sg.nx hc.2;simp only[newU]at this;omega
def sY.congr(h:∀x∈op.operands.toList,cG tm x=cG tm' x)(hf:sY P T tm' op u):sY P T tm op u:=by rcases hf with⟨f,args,h1,h2⟩|⟨n,sz,cs,e,h1,h2,h3,h4⟩;exact .inl ⟨f,args,(r? h).trans h1,h2⟩;exact .inr ⟨n,sz,cs,e,fun V=>(jv h).trans (h1 V),h2,fun m hm=>h3 m fun x hx u' hu=>hm x hx u' ((h x hx).trans hu),h4⟩
def sY.nd(h:sY P T tm op u):∀c,op≠.defer c:=by rcases h with⟨f,args,h1,_⟩|⟨n,sz,cs,e,h1,_⟩;exact jo h1;exact RJ (h1 ⟨[],0⟩)
variable{F:Nat->mH->Prop}
def St.free(hT:j0 P T){tv:X Value}{m:Nm}{w:Xt}{a:Act}(st:St F x tm tv m w a)(o:Oper)(h:sY P T tm o.op u){next:Act->Xt->Prop}{Q:Exit->Act->Xt->Prop}
  (hn:∀y dJ aL w₁ bC,y.V=x.V->St F y (eH tm o.dst u) dJ aL w₁ bC->bT m x.s w aL y.s w₁->Ke x.V.nx x y->x.V.nx<=y.V.nx->bC.defers=a.defers->next bC w₁):o.wp P a w next Q:=by
 rcases h with⟨f,args,h1,h2⟩|⟨n,sz,cs,e,h1,h2,h3,rfl⟩;refine st.call hT o h1 (h2 x.V) fun y u' dJ aL w₁ bC hR bJ cX eS nB hX=>?_
 obtain⟨rfl,hR2⟩:=hR;exact hn y dJ aL w₁ bC hR2 bJ cX eS nB hX;refine st.op hT o (h1 x.V) fun y dJ aL w₁ bC e1 bJ cX eS nB hX=>?_;obtain⟨z,g1,g2,g3,g4,g5,g6⟩:=Gh.quiet (n0:=x.V.nx) (V:=x.V) (d:=o.dst) (e:=e) (zF _) st.e.bel (fun k b hg=>⟨(st.h.ok k b hg).1,(st.h.ok k b hg).2.belB⟩) h2 (h3 _ fun xo _ u' hu=>by obtain⟨v,_,hr⟩:=jD st.e hu;exact aC.bel u' v hr) F y dJ e1 bJ.h bJ.fr bJ.e;have eO:=g1 aL w₁ bJ.fits;exact hn z dJ aL w₁ bC g2 ⟨g3,g4,g5,eO.fits,bJ.act.ext eO.agree eO.nx⟩ (cX.trans eO) (eS.trans g6) (by rw[g2];exact zF _) hX
def St.opfz(hT:j0 P T){tv:X Value}{m:Nm}{w:Xt}{a:Act}(st:St F x tm tv m w a)(o:Oper){u1:U}{s1 s':Sg}{d:Nat}(sM:bI T x.V tm o.op=some (u1,s1))(hd:o.dst=some d)(IL:d<tm.length)
  (hg:Gh s1.nx [u1] s1 [u] s') (hn:s1.nx<=s'.nx) {next:Act->Xt->Prop} {Q:Exit->Act->Xt->Prop}
  (hk:∀y dJ aL w₁ bC,y.V=s'->St F y (eH tm o.dst u) dJ aL w₁ bC->bT m x.s w aL y.s w₁->Ke x.V.nx x y->x.V.nx<=y.V.nx->bC.defers=a.defers->next bC w₁):o.wp P a w next Q:=by
 refine st.op hT o sM fun y dJ aL w₁ bC e1 bJ cX eS nB hX=>?_;have he:=bJ.e;rw[hd]at he hk;simp only[eH]at he hk;obtain⟨v1,hv1,hr1⟩:=he.get (List.getElem?_set_self (by simpa using IL));obtain⟨z,g1,g2,g3,g4,g5,g6⟩:=hg F y [v1] e1 bJ.h bJ.fr (bA.cons hr1 (bA.nil y));have eO:=g1 aL w₁ bJ.fits;obtain⟨v1',_,hv1',hr2,_⟩:=g5.inv;cases hv1';have hez:bA z (tm.set d u) dJ:=by refine⟨(H6 z _ _).2 fun i u' OP=>?_,by have:=he.2;simpa using this⟩;by_cases hi:d=i;subst hi;rw[List.getElem?_set_self (by simpa using IL)]at OP;cases OP;exact⟨v1,hv1,hr2⟩;rw[List.getElem?_set_ne hi]at OP;obtain⟨v,hv,hr⟩:=he.get (i:=i) (u:=u') (by rw[List.getElem?_set_ne hi];exact OP);refine⟨v,hv,g6 u' v ?_ hr⟩;have hb:=(vI y.V.nx _).1 he.bel u' (by rw[List.mem_iff_getElem?];exact⟨i,by rw[List.getElem?_set_ne hi];exact OP⟩);rw[e1]at hb;exact hb
 exact hk z dJ aL w₁ bC g2 ⟨g3,g4,hez,eO.fits,bJ.act.ext eO.agree eO.nx⟩ (cX.trans eO) (eS.trans (g6.le (by rw[<-e1];exact nB))) (by rw[g2];rw[e1]at nB;omega) hX
structure eL where
 tm:X U
 o:Oper
 u:U
 act:DC
 mv:DC
 s:Sg
 s':Sg
def Good(P:Zt)(T:Tb)(aA:X Oper)(r:eL):Prop :=
 (c9 aA r.tm r.o=some false/\r.u=.tup []/\r.act=false/\r.s'=r.s)\/ (c9 aA r.tm r.o=some true/\bI T r.s r.tm r.o.op=some (r.u,r.s')/\(r.act=false->r.s'=r.s))\/ (c9 aA r.tm r.o=some true/\r.act=true/\∃f args,jM T r.tm r.o.op=some (f,args)/\aW P f args r.s (fun u V=>u=r.u/\V=r.s'))\/ (c9 aA r.tm r.o=some true/\r.act=false/\r.s'=r.s/\sY P T r.tm r.o.op r.u)\/ (r.act=false/\r.mv=true/\r.s'=r.s)\/ (c9 aA r.tm r.o=some true/\r.act=true/\∃u1 s1 d,bI T r.s r.tm r.o.op=some (u1,s1)/\r.o.dst=some d/\d<r.tm.length/\Gh s1.nx [u1] s1 [r.u] r.s'/\s1.nx<=r.s'.nx)
variable{r:eL}
def Good.quiet{aA:X Oper}(h:Good P T aA r)(ha:r.act=false):r.s'=r.s:=by rcases h with⟨_,_,_,h⟩|⟨_,_,h⟩|⟨_,h,_⟩|⟨_,_,h,_⟩|⟨_,_,h⟩|⟨_,h,_⟩;exact h;exact h ha;rw[ha]at h;cases h;exact h;exact h;rw[ha]at h;cases h
def jT(rs:X eL)(V':Sg)(p:Nat):Sg:=match rs[p]? with
 |some r=>r.s|none=>V'
def w4(rs:X eL)(tm':X U)(p:Nat):X U:=match rs[p]? with
 |some r=>r.tm|none=>tm'
structure cq(P:Zt)(T:Tb)(aA:X Oper)(tm₀:X U)(G1:Sg)(rs:X eL)(tm':X U)(V':Sg):Prop where
 len:rs.length=aA.length
 s0:jT rs V' 0=G1
 t0:w4 rs tm' 0=tm₀
 all:∀(i:Nat)(r:eL),rs[i]? = some r->aA[i]? = some r.o/\Good P T aA r/\jT rs V' (i+1)=r.s'/\w4 rs tm' (i+1)=eH r.tm r.o.dst r.u
structure ChU(T:Tb)(aA:X Oper)(rs:X eL):Prop where
 acts:∀(i k:Nat)(r q:eL),rs[i]? = some r->rs[k]? = some q->r.act=true->q.act=true->k<i->Pre aA i k
 lo:∀(i k:Nat)(r q:eL),rs[i]? = some r->rs[k]? = some q->r.act=false->c9 aA r.tm r.o=some true->bI T r.s r.tm r.o.op=some (r.u,r.s')->q.act=true->k<i->Pre aA i k\/q.s=r.s\/bI T q.s r.tm r.o.op=some (r.u,q.s)
 hi:∀(i k:Nat)(r q:eL),rs[i]? = some r->rs[k]? = some q->r.act=false->c9 aA r.tm r.o=some true->bI T r.s r.tm r.o.op=some (r.u,r.s')->q.act=true->i<k->Pre aA k i\/q.s'=r.s\/bI T q.s' r.tm r.o.op=some (r.u,q.s')
structure N6(tm₀:X U)(rs:X eL)(L:Nat->Prop)(tm:X U):Prop where
 len:tm.length=tm₀.length
 yes:∀(k:Nat)(r:eL)(d:Nat),rs[k]? = some r->r.o.dst=some d->d<tm₀.length->L k->tm[d]? = some r.u
 no:∀(k:Nat)(r:eL)(d:Nat),rs[k]? = some r->r.o.dst=some d->¬ L k->tm[d]? = tm₀[d]?
 other:∀(t:Nat),(∀(k:Nat)(r:eL),rs[k]? = some r->r.o.dst≠some t)->tm[t]? = tm₀[t]?
section
variable{P:Zt}{T:Tb}(hT:j0 P T)(aA:Nr Oper){tm₀:X U}{G1:Sg}{rs:X eL}{tm':X U}{V':Sg}
 (j8:cq P T aA.toList tm₀ G1 rs tm' V') (dC:YP aA.toList=true)
include j8 dC
omit dC in
def XJ{i:Nat}{o:Oper}(ho:aA.toList[i]? = some o):∃r,rs[i]? = some r/\r.o=o:=by
 have hi:i<rs.length:=by rw[j8.len];exact(zG.1 ho).1
 have hr:rs[i]? = some rs[i]:=by simp[hi]
 refine⟨_,hr,?_⟩;have:=(j8.all i _ hr).1;rw[ho]at this;exact(Option.some.inj this).symm
variable{i:Nat}
def qut{q:eL}(hr:rs[i]? = some r)(hq:rs[k]? = some q)(OW:i≠k){d:Tmp}(hd:q.o.dst=some d):r.o.dst≠some d :=
 (z2z dC (j8.all i r hr).1 (j8.all k q hq).1 OW hd).1
def qs4{L:Nat->Prop}(h:N6 tm₀ rs L tm)(hr:rs[i]? = some r):N6 tm₀ rs (fun k=>L k\/k=i) (eH tm r.o.dst r.u):=by
 cases hd:r.o.dst with
 |none=>simp only[eH];refine⟨h.len,fun k q d hq EC aE hL=>?_,fun k q d hq EC hL=>h.no k q d hq EC fun x=>hL (.inl x),h.other⟩;rcases hL with hL |rfl;exact h.yes k q d hq EC aE hL;rw[hr]at hq;cases hq;rw[hd]at EC;cases EC
 |some Ed=>
  simp only[eH];refine⟨by simp[h.len],fun k q d hq EC aE hL=>?_,fun k q d hq EC hL=>?_,fun t ht=>?_⟩;by_cases Wc:k=i;subst Wc;rw[hr]at hq;cases hq;rw[hd]at EC;cases EC;rw[List.getElem?_set_self (by rw[h.len];exact aE)];have cP:Ed≠d:=fun e=>by have:=qut aA j8 dC hr hq (fun x=>Wc x.symm) EC;exact this (by rw[hd,e])
  rw[List.getElem?_set_ne cP];rcases hL with hL |hL;exact h.yes k q d hq EC aE hL;exact absurd hL Wc;have Wc:k≠i:=fun e=>hL (.inr e)
  have cP:Ed≠d:=fun e=>by have:=qut aA j8 dC hr hq (fun x=>Wc x.symm) EC;exact this (by rw[hd,e])
  rw[List.getElem?_set_ne cP];exact h.no k q d hq EC fun x=>hL (.inl x);have cP:Ed≠t:=fun e=>ht i r hr (by rw[hd,e]);rw[List.getElem?_set_ne cP];exact h.other t ht
omit j8 dC in
def qnt:N6 tm₀ rs (fun _=>False) tm₀:=⟨rfl,fun _ _ _ _ _ _ h=>h.elim,fun _ _ _ _ _ _=>rfl,fun _ _=>rfl⟩
def b_(p:Nat)(hp:p<=rs.length):N6 tm₀ rs (fun k=>k<p) (w4 rs tm' p):=by
 induction p with
 |zero=>rw[j8.t0];have:=qnt (rs:=rs) (tm₀:=tm₀);refine⟨this.len,fun k r d _ _ _ hL=>qq0,fun k r d h1 h2 _=>this.no k r d h1 h2 (fun x=>x),this.other⟩|succ p ih=>
  have hr:rs[p]? = some rs[p]:=by simp[show p<rs.length by omega]
  have h5:=(j8.all p _ hr).2.2.2;have pn:=ih qq0;have e1:w4 rs tm' p=rs[p].tm:=by simp[w4,hr]
  rw[e1]at pn;have:=qs4 aA j8 dC pn hr;rw[h5];refine⟨this.len,fun k q d a b c hL=>this.yes k q d a b c qq0,fun k q d a b hL=>this.no k q d a b qq0,this.other⟩
omit j8 dC in
def qy3{L:Nat->Prop}{a b:X U}(ha:N6 tm₀ rs L a)(hb:N6 tm₀ rs L b):a=b:=by
 apply List.ext_getElem?;intro t;by_cases ht:∀(k:Nat)(r:eL),rs[k]? = some r->r.o.dst≠some t;rw[ha.other t ht,hb.other t ht];have:∃(k:Nat)(r:eL),rs[k]? = some r/\r.o.dst=some t:=by apply Classical.byContradiction;intro hn;exact ht fun k r hr hd=>hn ⟨k,r,hr,hd⟩
 obtain⟨k,r,hr,hd⟩:=this;by_cases hL:L k;by_cases aE:t<tm₀.length;rw[ha.yes k r t hr hd aE hL,hb.yes k r t hr hd aE hL];rw[List.getElem?_eq_none (by rw[ha.len];omega),List.getElem?_eq_none (by rw[hb.len];omega)];rw[ha.no k r t hr hd hL,hb.no k r t hr hd hL]
def qtz{L:Nat->Prop}(hL:Closed aA.toList L)(h:N6 tm₀ rs L tm)(hr:rs[i]? = some r)(hi:¬ L i)
  (I8:∀o,aA.toList[i]? = some o->∀e∈o.after.toList,Region.binds .any e=true->L e.on):∀t∈N7 aA.toList r.o,tm[t]? = r.tm[t]?:=by
 have mP:i<rs.length:=(zG.1 hr).1;have A4:=b_ aA j8 dC i (Nat.le_of_lt mP);have e1:w4 rs tm' i=r.tm:=by simp[w4,hr]
 rw[e1]at A4;intro(t:Nat) ht;by_cases eT:∀(k:Nat)(q:eL),rs[k]? = some q->q.o.dst≠some t;rw[h.other t eT,A4.other t eT];have:∃(k:Nat)(q:eL),rs[k]? = some q/\q.o.dst=some t:=by apply Classical.byContradiction;intro hn;exact eT fun k r hr hd=>hn ⟨k,r,hr,hd⟩
 obtain⟨k,q,hq,hd⟩:=this;have ho:=(j8.all i r hr).1;have hk:=(j8.all k q hq).1;by_cases OW:i=k;subst OW;rw[h.no i q t hq hd hi,A4.no i q t hq hd qq0];rcases(z2z dC ho hk OW hd).2 ht with hp |hp;have hLk:=jt dC hL I8 hp;have aE:=z85 dC i k hp;by_cases eW:t<tm₀.length;rw[h.yes k q t hq hd eW hLk,A4.yes k q t hq hd eW aE];rw[List.getElem?_eq_none (by rw[h.len];omega),List.getElem?_eq_none (by rw[A4.len];omega)];have hnk:¬ L k:=fun x=>hi (f? dC hL k i x hp)
 have aE:=z85 dC k i hp;rw[h.no k q t hq hd hnk,A4.no k q t hq hd qq0]
omit dC in
def Hi{p q:Nat}(vO:p<=q)(hq:q<=rs.length)(eT : ∀(e:Nat)(r:eL),p<=e->e<q->rs[e]? = some r->r.act=false): jT rs V' p=jT rs V' q:=by
  induction q with
  | zero => have : p = 0 := by omega
            rw[this]
  |succ q ih=>
    rcases Nat.lt_or_ge q p with h |h;have:p=q+1:=by omega
    rw[this];rw[ih h qq0 fun e r h1 h2 h3=> eT e r h1 qq0 h3];have hr:rs[q]? = some rs[q]:=by simp[show q<rs.length by omega]
    obtain⟨_,g2,g3,_⟩:=j8.all q _ hr;rw[g3,g2.quiet (eT q _ h (zN _) hr)];simp[jT,hr]
omit j8 dC in
def z9h{i p:Nat}(h:∃(e:Nat)(q:eL),i<e/\e<p/\rs[e]? = some q/\q.act=true):∃(e:Nat)(q:eL),i<e/\e<p/\rs[e]? = some q/\q.act=true/\∀(e':Nat)(q':eL),e<e'->e'<p->rs[e']? = some q'->q'.act=false:=by
 obtain⟨e,q,g1,g2,g3,g5⟩:=h;have:∀(n e:Nat)(q:eL),p-e=n->i<e->e<p->rs[e]? = some q->q.act=true->∃(e:Nat)(q:eL),i<e/\e<p/\rs[e]? = some q/\q.act=true/\∀(e':Nat)(q':eL),e<e'->e'<p->rs[e']? = some q'->q'.act=false:=by
  intro n;induction n using Nat.strongRecOn with
  |_ n ihn=>intro e q cP g1 g2 g3 g5;by_cases xA:∃(e':Nat)(q':eL),e<e'/\e'<p/\rs[e']? = some q'/\q'.act=true;obtain⟨e',q',k1,k2,k3,k4⟩:=xA;exact ihn (p-e') qq0 e' q' rfl qq0 k2 k3 k4;exact⟨e,q,g1,g2,g3,g5,fun e' q' k1 k2 k3=>by cases hb:q'.act with |false=>rfl |true=>exact absurd ⟨e',q',k1,k2,k3,hb⟩ xA⟩
 exact this _ e q rfl g1 g2 g3 g5
omit j8 dC in
def z51{i p:Nat}(h:∃(e:Nat)(q:eL),p<=e/\e<i/\rs[e]? = some q/\q.act=true):∃(e:Nat)(q:eL),p<=e/\e<i/\rs[e]? = some q/\q.act=true/\∀(e':Nat)(q':eL),p<=e'->e'<e->rs[e']? = some q'->q'.act=false:=by
 obtain⟨e,q,g1,g2,g3,g5⟩:=h;have:∀(e:Nat)(q:eL),p<=e->e<i->rs[e]? = some q->q.act=true->∃(e:Nat)(q:eL),p<=e/\e<i/\rs[e]? = some q/\q.act=true/\∀(e':Nat)(q':eL),p<=e'->e'<e->rs[e']? = some q'->q'.act=false:=by
  intro e;induction e using Nat.strongRecOn with
  |_ e ihn=>intro q g1 g2 g3 g5;by_cases xA:∃(e':Nat)(q':eL),p<=e'/\e'<e/\rs[e']? = some q'/\q'.act=true;obtain⟨e',q',k1,k2,k3,k4⟩:=xA;exact ihn e' k2 q' k1 qq0 k3 k4;exact⟨e,q,g1,g2,g3,g5,fun e' q' k1 k2 k3=>by cases hb:q'.act with |false=>rfl |true=>exact absurd ⟨e',q',k1,k2,k3,hb⟩ xA⟩
 exact this e q g1 g2 g3 g5
variable(P8:ChU T aA.toList rs)
include hT P8
def z8p{ro:Y Nat}{x0:Cx}{m0:Nm}{w0:Xt}{E:Exit->Act->Xt->Prop}{df:X Deferred}(hQ:∀y tv m w a,y.V=V'->St F y tm' tv m w a->bT m0 x0.s w0 m y.s w->Ke n0 x0 y->n0<=y.V.nx->a.defers=df->E .normal a w):
  ∀(fuel:Nat)(bE:Nr DC)(a:Act)(w:Xt)(m:Nm)(p:Nat)(tm:X U)(tv:X Value)(x:Cx),bE.size=aA.size->bE.toList.count false=fuel->
   Closed aA.toList (fun k=>bE.getD k false=true)->(∀(e:Nat)(r:eL),rs[e]? = some r->r.act=false->r.mv=true->bE.getD e false=true)->N6 tm₀ rs (fun k=>bE.getD k false=true) tm->p<=rs.length-> (∀(e:Nat)(r:eL),rs[e]? = some r->r.act=true->(bE.getD e false=true↔e<p))->x.V=jT rs V' p->St F x tm tv m w a->bT m0 x0.s w0 m x.s w->Ke n0 x0 x->n0<=x.V.nx->a.defers=df->
   wpAnyIn (AF ro) 0 P .any aA E fuel bE a w:=by
 have hn:rs.length=aA.size:=by simpa using j8.len
 intro fuel;induction fuel with
 |zero=>
  intro bE a w m p tm tv x eY Wz iS hqa rH hp pJ fH mY aS iG iR m7;have bY:∀k,k<aA.size->bE.getD k false=true:=fun k hk=>by
   have rN:k<bE.size:=by omega
   have:bE[k]≠false:=fun hf=>by
    have hm:false∈bE.toList:=by rw[<-hf];simp
    have:=List.count_pos_iff.2 hm;omega
   have this':bE[k]=true:=by simpa using this
   simp[Array.getD,rN,this']
  have Bp:Region.ready .any aA bE=[]:=by
   apply List.filter_eq_nil_iff.2;intro k hk;simp only[List.mem_range]at hk;have rN:k<bE.size:=by omega
   have:=bY k hk;simp[Array.getD,rN]at this;simp[Array.getD,rN,this]
  refine⟨Bp,?_⟩;have es:jT rs V' p=V':=by rw[Hi aA j8 hp (zF _) fun e r h1 h2 h3=>by rcases hb:r.act with _|_;rfl;have:=(pJ e r h3 hb).1 (bY e qq0);omega];simp[jT]
  have et:tm=tm':=by
   have h1:=b_ aA j8 dC rs.length (zF _);have e1:w4 rs tm' rs.length=tm':=by simp[w4]
   rw[e1]at h1;refine qy3 (L:=fun k=>k<rs.length) ⟨rH.len,fun k r d g1 g2 g3 g4=>rH.yes k r d g1 g2 g3 (bY k qq0),fun k r d g1 g2 g3=>?_,rH.other⟩ h1;have:=(zG.1 g1).1;exact absurd this g3
  rw[et]at mY;exact hQ x tv m w a (fH.trans es) mY aS iG iR m7
 |succ fuel ih=>
  intro bE a w m p tm tv x eY Wz iS hqa rH hp pJ fH mY aS iG iR m7;have mem_ready:∀i,i∈Region.ready .any aA bE↔i<aA.size/\bE.getD i true=false/\∃o,aA[i]? = some o/\∀e∈o.after.toList,Region.binds .any e=true->bE.getD e.on false=true:=by
   intro i;unfold Region.ready;rw[List.mem_filter,List.mem_range];refine and_congr_right fun hi=>?_;have ho:aA[i]? = some aA[i]:=by simp[hi]
   simp only[ho,zM,Option.getD_some,Bool.and_eq_true,Bool.not_eq_true',Array.all_eq_true_iff_forall_mem,Bool.or_eq_true];refine and_congr_right fun _=>?_;constructor;intro h;refine⟨_,rfl,fun e he hb=>?_⟩;rcases h e (by simpa using he)with h1 |h1
   simp[hb]at h1;exact h1;rintro⟨o,ho',h⟩ e he;cases ho';rcases hb:Region.binds .any e with _|_;exact .inl rfl;exact .inr (h e (by simpa using he) hb)
  refine⟨fun Bx=>?_,fun i hi=>?_⟩;exfalso;have rP:∃i,i<aA.size/\bE.getD i true=false:=by
   have iQ:0<bE.toList.count false:=by omega
   obtain⟨i,hi,e⟩:=List.mem_iff_getElem.1 (List.count_pos_iff.1 iQ);simp at hi;refine⟨i,by omega,?_⟩;simp only[Array.getElem_toList]at e;simp[Array.getD,hi,e]
  have hmin:∀n,n<aA.size->bE.getD n true=false->False:=by
   intro n;induction n using Nat.strongRecOn with
   |_ n ihn=>
    intro hn1 gu;have:n∈Region.ready .any aA bE:=(mem_ready n).2 ⟨hn1,gu,aA[n],by simp[hn1],fun e he hb=>by
     have aE:=tf dC (i:=n) (o:=aA[n]) (by simp[hn1]) e he hb;have rN:e.on<bE.size:=by omega
     cases hv:bE[e.on]with|true=>simp[Array.getD,rN,hv]|false=>exact(ihn e.on aE qq0 (by simp[Array.getD,rN,hv])).elim⟩
    rw[Bx]at this;cases this
  obtain⟨i,h1,h2⟩:=rP;exact hmin i h1 h2;obtain⟨hilt,mP,o,ho,Cv⟩:=(mem_ready i).1 hi;have OV:i<bE.size:=by omega
  have bj:¬ bE.getD i false=true:=by simp[Array.getD,OV]at mP ⊢;exact mP
  have BD:aA.toList[i]? = some o:=by simpa using ho
  obtain⟨r,hr,eZ⟩:=XJ aA j8 BD;subst eZ;have I8:∀q,aA.toList[i]? = some q->∀e∈q.after.toList,Region.binds .any e=true->bE.getD e.on false=true:=fun q hq=>by rw[BD]at hq;cases hq;exact Cv
  have Cd:=qtz aA j8 dC iS rH hr bj I8;obtain⟨_,Wo,E9,_⟩:=j8.all i r hr;have Kk:jT rs V' i=r.s:=by simp[jT,hr]
  have BK:∀k,((bE.setIfInBounds i true).getD k false=true)↔(bE.getD k false=true\/k=i):=fun k=>by by_cases hk:k=i;subst hk;simp[Array.getD,OV];by_cases xE:k<bE.size;simp[Array.getD,xE,hk,Ne.symm hk];simp[Array.getD,xE,hk]
  have Xa:Closed aA.toList (fun k=>(bE.setIfInBounds i true).getD k false=true):=fun k q hk hq e he hb=>by refine(BK e.on).2 (.inl ?_);rcases(BK k).1 hk with hk |rfl;exact iS k q hk hq e he hb;exact I8 q hq e he hb
  have Vm:∀(e:Nat)(r:eL),rs[e]? = some r->r.act=false->r.mv=true->(bE.setIfInBounds i true).getD e false=true:=fun e q h1 h2 h3=>(BK e).2 (.inl (hqa e q h1 h2 h3));have I5:N6 tm₀ rs (fun k=>(bE.setIfInBounds i true).getD k false=true) (eH tm r.o.dst r.u):=by have:=qs4 aA j8 dC rH hr;exact⟨this.len,fun k q d a b c hL=>this.yes k q d a b c ((BK k).1 hL),fun k q d a b hL=>this.no k q d a b fun x=>hL ((BK k).2 x),this.other⟩
  have TZ:(bE.setIfInBounds i true).toList.count false=fuel:=by
   have hv:bE[i]=false:=by simpa[Array.getD,OV]using mP
   rw[Array.toList_setIfInBounds,List.count_set (by simpa using OV)];have PA:Array.count false bE=fuel+1:=by simpa using Wz
   simp[hv];omega
  obtain⟨BC,Uy⟩:=Aa Cd;have stay:r.act=false->∀y dJ aL w₁ bC,y.V=jT rs V' p->St F y (eH tm r.o.dst r.u) dJ aL w₁ bC->bT m0 x0.s w0 aL y.s w₁->Ke n0 x0 y->n0<=y.V.nx->bC.defers=df->wpAnyIn (AF ro) 0 P .any aA E fuel (bE.setIfInBounds i true) bC w₁:=fun hk y dJ aL w₁ bC h1 h2 h3 h4 h5 h6=>by refine ih _ _ _ aL p _ dJ y (by simpa using eY) TZ Xa Vm I5 hp (fun e q hq Bs=>?_) h1 h2 h3 h4 h5 h6;rw[BK];by_cases hei:e=i;subst hei;rw[hr]at hq;cases hq;rw[hk]at Bs;cases Bs;simp only[hei,or_false];exact pJ e q hq Bs
  have past:r.act=true->jT rs V' p=r.s/\∀y dJ aL w₁ bC,y.V=r.s'->St F y (eH tm r.o.dst r.u) dJ aL w₁ bC->bT m0 x0.s w0 aL y.s w₁->Ke n0 x0 y->n0<=y.V.nx->bC.defers=df->wpAnyIn (AF ro) 0 P .any aA E fuel (bE.setIfInBounds i true) bC w₁:=fun hk=>by
   have cJ:p<=i:=by rcases Nat.lt_or_ge i p with h |h;exact absurd ((pJ i r hr hk).2 h) bj;exact h
   have hil':i<rs.length:=(zG.1 hr).1;have IN:∀(e:Nat)(q:eL),p<=e->e<i->rs[e]? = some q->q.act=false:=fun e q h1 h2 h3=>by rcases hb:q.act with _|_;rfl;have:=jt dC iS I8 (P8.acts i e r q hr h3 hk hb h2);have:=(pJ e q h3 hb).1 this;omega
   refine⟨(Hi aA j8 cJ qq0 IN).trans Kk,fun y dJ aL w₁ bC h1 h2 h3 h4 h5 h6=>?_⟩;refine ih _ _ _ aL (i+1) _ dJ y (by simpa using eY) TZ Xa Vm I5 qq0 (fun e q hq Bs=>?_) (h1.trans E9.symm) h2 h3 h4 h5 h6;rw[BK];by_cases hei:e=i;subst hei;simp;simp only[hei,or_false];constructor;intro Xh;have:=(pJ e q hq Bs).1 Xh;omega;intro aE;exact jt dC iS I8 (P8.acts i e r q hr hq hk Bs qq0)
  unfold wpOpIn;simp only[ho];rw[F_ (mY.act m (aN.refl _ _)) aA r.o];rcases Wo with⟨hw,hu,ha,_⟩|⟨hw,sM,hqu⟩|⟨hw,ha,f,args,U2,jH⟩|⟨hw,ha,_,TX⟩|⟨ha,hm,_⟩|⟨hw,ha,u1,s1,d,sM,hd,IL,Cn,zE⟩;rw[H8 mY.e (Uy.trans hw)];simp only[Bool.false_eq_true,if_false];rw[hu]at stay;exact⟨fun _ _=>trivial,stay ha x _ m w _ fH (mY.skip r.o.dst) aS iG iR ((HB _ _ _).trans m7)⟩;rw[H8 mY.e (Uy.trans hw)];simp only[if_true];cases ha:r.act with
  |true=>
   obtain⟨nA,nK⟩:=past ha;have wW:bI T x.V tm r.o.op=some (r.u,r.s'):=by rw[fH,nA,jv BC];exact sM
   exact wH (RJ wW) (mY.op hT r.o wW fun y dJ aL w₁ bC e1 bJ cX eS nB hX=>nK y dJ aL w₁ bC e1 bJ (aS.trans cX) (iG.trans (eS.le iR)) qq0 (hX.trans m7))
  |false=>
   have Kj:=hqu ha;have eK:bI T (jT rs V' p) r.tm r.o.op=some (r.u,jT rs V' p):=by
    rcases Nat.lt_or_ge i p with hip |hip;by_cases rP:∃(e:Nat)(q:eL),i<e/\e<p/\rs[e]? = some q/\q.act=true;obtain⟨e,q,g1,g2,g3,g5,g6⟩:=z9h rP;have es:jT rs V' (e+1)=jT rs V' p:=Hi aA j8 qq0 hp fun e' q' k1 k2 k3=>g6 e' q' qq0 k2 k3
    have eq':jT rs V' (e+1)=q.s':=(j8.all e q g3).2.2.1;rw[<-es,eq'];rcases P8.hi i e r q hr g3 ha hw sM g5 g1 with k4 |k4 |k4;have Xh:bE.getD e false=true:=(pJ e q g3 g5).2 g2;exact absurd (f? dC iS e i Xh k4) bj;rw[k4,sM,Kj];exact k4;have es:jT rs V' i=jT rs V' p:=Hi aA j8 qq0 hp fun e q k1 k2 k3=>by
     rcases Nat.lt_or_ge i e with h |h;rcases hb:q.act with _|_;rfl;exact absurd ⟨e,q,h,k2,k3,hb⟩ rP;have:e=i:=by omega
     subst this;rw[hr]at k3;cases k3;exact ha
    rw[<-es,Kk,sM,Kj];by_cases rP:∃(e:Nat)(q:eL),p<=e/\e<i/\rs[e]? = some q/\q.act=true;obtain⟨e,q,g1,g2,g3,g5,g6⟩:=z51 rP;have es:jT rs V' p=jT rs V' e:=Hi aA j8 g1 (by have:=(zG.1 g3).1;omega) fun e' q' k1 k2 k3=>g6 e' q' k1 k2 k3;have eq':jT rs V' e=q.s:=by simp[jT,g3]
    rw[es,eq'];rcases P8.lo i e r q hr g3 ha hw sM g5 g2 with k4 |k4 |k4;have Xh:=jt dC iS I8 k4;have:=(pJ e q g3 g5).1 Xh;omega;rw[k4,sM,Kj];exact k4;have es:jT rs V' p=jT rs V' i:=Hi aA j8 hip (by have:=(zG.1 hr).1;omega) fun e q k1 k2 k3=>by rcases hb:q.act with _|_;rfl;exact absurd ⟨e,q,k1,k2,k3,hb⟩ rP
    rw[es,Kk,sM,Kj]
   have wW:bI T x.V tm r.o.op=some (r.u,jT rs V' p):=by rw[fH,jv BC];exact eK
   exact wH (RJ wW) (mY.op hT r.o wW fun y dJ aL w₁ bC e1 bJ cX eS nB hX=>stay ha y dJ aL w₁ bC e1 bJ (aS.trans cX) (iG.trans (eS.le iR)) qq0 (hX.trans m7))
  rw[H8 mY.e (Uy.trans hw)];simp only[if_true];obtain⟨nA,nK⟩:=past ha;have hev':aW P f args x.V (fun u V=>u=r.u/\V=r.s'):=by rw[fH,nA];exact jH
  refine wH (jo ((r? BC).trans U2)) (mY.call hT r.o ((r? BC).trans U2) hev' fun y u dJ aL w₁ bC hR bJ cX eS nB hX=>?_);obtain⟨rfl,hR2⟩:=hR;exact nK y dJ aL w₁ bC hR2 bJ (aS.trans cX) (iG.trans (eS.le iR)) qq0 (hX.trans m7);rw[H8 mY.e (Uy.trans hw)];simp only[if_true];exact wH (TX.congr BC).nd (mY.free hT r.o (TX.congr BC) fun y dJ aL w₁ bC e1 bJ cX eS nB hX=>stay ha y dJ aL w₁ bC (e1.trans fH) bJ (aS.trans cX) (iG.trans (eS.le iR)) qq0 (hX.trans m7));exact absurd (hqa i r hr ha hm) bj;rw[H8 mY.e (Uy.trans hw)];simp only[if_true];obtain⟨nA,nK⟩:=past ha;have wW:bI T x.V tm r.o.op=some (u1,s1):=by rw[fH,nA,jv BC];exact sM
  have aQ:tm.length=r.tm.length:=by
   have h1:=(b_ aA j8 dC i (Nat.le_of_lt (zG.1 hr).1)).len;have e1:w4 rs tm' i=r.tm:=by simp[w4,hr]
   rw[e1]at h1;rw[rH.len,h1]
  exact wH (RJ wW) (mY.opfz hT r.o wW hd (by rw[aQ];exact IL) Cn zE fun y dJ aL w₁ bC e1 bJ cX eS nB hX=>nK y dJ aL w₁ bC e1 bJ (aS.trans cX) (iG.trans (eS.le iR)) qq0 (hX.trans m7))
end
end Go.Vx
namespace Go.Vx
open Go Go.Rx
def RD(P:Zt)(T:Tb)(aA:X Oper):X Oper->X U->Sg->(X eL->X U->Sg->Prop)->Prop
 |[],tm,V,K=>K [] tm V|o::r,tm,V,K=>(c9 aA tm o=some true/\∃u,bI T V tm o.op=some (u,V)/\RD P T aA r (eH tm o.dst u) V (fun rs=>K (⟨tm,o,u,false,false,V,V⟩::rs)))\/ (c9 aA tm o=some true/\∃u V',bI T V tm o.op=some (u,V')/\RD P T aA r (eH tm o.dst u) V' (fun rs=>K (⟨tm,o,u,true,true,V,V'⟩::rs)))\/ (c9 aA tm o=some true/\∃f args u,jM T tm o.op=some (f,args)/\aW P f args V (fun u' V'=>u'=u/\V'=V)/\RD P T aA r (eH tm o.dst u) V (fun rs=>K (⟨tm,o,u,true,false,V,V⟩::rs)))\/ (c9 aA tm o=some true/\∃f args u V',jM T tm o.op=some (f,args)/\aW P f args V (fun u' s'=>u'=u/\s'=V')/\RD P T aA r (eH tm o.dst u) V' (fun rs=>K (⟨tm,o,u,true,true,V,V'⟩::rs)))\/ (c9 aA tm o=some false/\RD P T aA r (eH tm o.dst (.tup [])) V (fun rs=>K (⟨tm,o,.tup [],false,false,V,V⟩::rs)))\/ (c9 aA tm o=some true/\∃u,sY P T tm o.op u/\RD P T aA r (eH tm o.dst u) V (fun rs=>K (⟨tm,o,u,false,false,V,V⟩::rs)))\/ (c9 aA tm o=some true/\∃u1 s1 d u V',bI T V tm o.op=some (u1,s1)/\o.dst=some d/\d<tm.length/\Gh s1.nx [u1] s1 [u] V'/\s1.nx<=V'.nx/\RD P T aA r (eH tm o.dst u) V' (fun rs=>K (⟨tm,o,u,true,true,V,V'⟩::rs)))
def QZ{P:Zt}{T:Tb}{aA:X Oper}:∀(rest:X Oper)(tm:X U)(V:Sg)(K:X eL->X U->Sg->Prop),RD P T aA rest tm V K->
  ∃rs tm' V',K rs tm' V'/\rs.length=rest.length/\jT rs V' 0=V/\w4 rs tm' 0=tm/\
   ∀(i:Nat)(r:eL),rs[i]? = some r->rest[i]? = some r.o/\Good P T aA r/\jT rs V' (i+1)=r.s'/\w4 rs tm' (i+1)=eH r.tm r.o.dst r.u/\(r.mv=false->r.s'=r.s)/\(r.mv=true->r.act=true)
 |[],tm,V,K,h=>⟨[],tm,V,h,rfl,rfl,rfl,fun i r hr=>by simp at hr⟩|o::rest,tm,V,K,h=>by
  have step:∀(u:U)(ac mv:DC)(V1:Sg),RD P T aA rest (eH tm o.dst u) V1 (fun rs=>K (⟨tm,o,u,ac,mv,V,V1⟩::rs))->Good P T aA ⟨tm,o,u,ac,mv,V,V1⟩->(mv=false->V1=V)->(mv=true->ac=true)->
    ∃rs tm' V',K rs tm' V'/\rs.length=(o::rest).length/\jT rs V' 0=V/\w4 rs tm' 0=tm/\
     ∀(i:Nat)(r:eL),rs[i]? = some r->(o::rest)[i]? = some r.o/\Good P T aA r/\jT rs V' (i+1)=r.s'/\w4 rs tm' (i+1)=eH r.tm r.o.dst r.u/\(r.mv=false->r.s'=r.s)/\(r.mv=true->r.act=true):=by
   intro u ac mv V1 h hg h1 h2;obtain⟨rs,tm',V',g1,g2,g3,g4,g5⟩:=QZ rest _ _ _ h;refine⟨_,tm',V',g1,by simp[g2],rfl,rfl,fun i r hr=>?_⟩;cases i with
   |zero=>simp at hr;subst hr;refine⟨rfl,hg,?_,?_,h1,h2⟩;simp only[jT,zH];exact g3;simp only[w4,zH];exact g4|succ i=>simp only[zH]at hr;obtain⟨k1,k2,k3,k4,k5⟩:=g5 i r hr;refine⟨by simpa using k1,k2,?_,?_,k5⟩;simp only[jT,zH];exact k3;simp only[w4,zH];exact k4
  simp only[RD]at h;rcases h with⟨hw,u,h1,h2⟩|⟨hw,u,V1,h1,h2⟩|⟨hw,f,args,u,h1,h2,h3⟩|⟨hw,f,args,u,V1,h1,h2,h3⟩|⟨hw,h1⟩|⟨hw,u,h1,h3⟩|⟨hw,u1,s1,d,u,V1,h1,h2,h3,h4,h5,h6⟩;exact step u false false V h2 (.inr (.inl ⟨hw,h1,fun _=>rfl⟩)) (fun _=>rfl) qq4;exact step u true true V1 h2 (.inr (.inl ⟨hw,h1,by simp⟩)) qq4 qq4;exact step u true false V h3 (.inr (.inr (.inl ⟨hw,rfl,f,args,h1,h2⟩))) (fun _=>rfl) qq4;exact step u true true V1 h3 (.inr (.inr (.inl ⟨hw,rfl,f,args,h1,h2⟩))) qq4 qq4;exact step _ false false V h1 (.inl ⟨hw,rfl,rfl,rfl⟩) (fun _=>rfl) qq4;exact step u false false V h3 (.inr (.inr (.inr (.inl ⟨hw,rfl,rfl,h1⟩)))) (fun _=>rfl) qq4;exact step u true true V1 h6 (.inr (.inr (.inr (.inr (.inr ⟨hw,rfl,u1,s1,d,h1,h2,h3,h4,h5⟩))))) qq4 qq4
section
variable{C:PG}{T:Tb}(hT:j0 C.prog T){n0:Nat}{Q:Exit->X U->Sg->Prop}{tm:X U}{V:Sg}
include hT
def WPU.drawn{id:Nat}{aA:Nr Oper}(dC:YP aA.toList=true){rs:X eL}{tm':X U}{V':Sg}(j8:cq C.prog T aA.toList tm V rs tm' V')(P8:ChU T aA.toList rs)(hmv:∀(i:Nat)(r:eL),rs[i]? = some r->r.mv=true->r.act=true)(hQ:Q .normal tm' V'):WPU C n0 (.region id aA true) tm V Q:=fun hn F x tv m w a b0 hx st hG hd ro eZ=>by
 refine wpIn_region_any hT.mixed ?_;have eT:∀k,(Array.replicate aA.size false).getD k false=false:=fun k=>by by_cases hk:k<aA.size<;>simp[Array.getD,hk]
 have vQ:=bT.draw (w.drawn+1) st.fits;refine z8p (ro:=ro) hT aA j8 dC P8 (n0:=n0) (F:=F) (x0:=x) (m0:=m) (w0:=w) (df:=a.defers) (fun y dJ m' w' a' h1 h2 h3 h4 h5 h6=>⟨y,tm',dJ,m',h1 ▸ hQ,h2,h3,h4,h5,by rw[h6];exact hd.adv st.fits h3⟩) aA.size (Array.replicate aA.size false) a _ m 0 tm tv x qq4 qq4 ?_ (fun e r h1 h2 h3=>by have:=hmv e r h1 h3;rw[h2]at this;cases this) ?_ (Nat.zero_le _) ?_ ?_ ?_ ?_ (Ke.refl _ _) (hx ▸ hn) rfl;intro k q hk;rw[eT]at hk;cases hk;have:=qnt (rs:=rs) (tm₀:=tm);exact⟨this.len,fun k r d _ _ _ hL=>(by rw[eT]at hL;cases hL),fun k r d g1 g2 _=>this.no k r d g1 g2 (fun x=>x),this.other⟩;intro e r _ _;rw[eT];simp;rw[j8.s0];exact hx;exact⟨st.h,st.fr,st.e,(bT.draw _ st.fits).fits,st.act⟩;exact bT.draw _ st.fits
end
section
variable{K:X U->Sg->Prop}{Q:Exit->X U->Sg->Prop}{tm:X U}{V:Sg}{i j:Nat}
def Uo(h:Q .normal tm V):uD i Q (.exit i) tm V:=by simp only[uD,if_true];exact h
def Un(nY:¬ j=i)(h:Q (.exit j) tm V):uD i Q (.exit j) tm V:=by simp only[uD,nY,if_false];exact h
end
variable{C:PG}
variable{T:Tb}
variable{aA:X Oper}
variable{r:X Oper}
variable{o:Oper}
variable{tm:X U}
variable{V:Sg}
variable{f:FuncId}
variable{args:X U}
def RU.call{K:X U->Sg->Prop}{R:U->Sg->Prop}(hw:c9 aA tm o=some true)(hc:jM T tm o.op=some (f,args))(jH:aW C.prog f args V R)
  (h:∀u V',R u V'->RU C T aA r (eH tm o.dst u) V' K):RU C T aA (o::r) tm V K:=.inr (.inl ⟨hw,f,args,R,hc,jH,h⟩)
def WPU.loopG{n0:Nat}{Q:Exit->X U->Sg->Prop}{c:Code}(v09:Nat->X U->Sg->Prop)(n:Nat)(h₀:v09 n tm V)
  (round:∀n tm V,v09 n tm V->WPU C n0 c tm V (yG (fun tm' V'=>∃n' eV aU,n'<n/\v09 n' eV aU/\n0<=aU.nx/\Gh n0 tm' V' eV aU) Q)):WPU C n0 (.loop c) tm V Q:=by
 refine WPU.loop v09 n h₀ fun n tm V hI=>?_;refine WPU.after (round n tm V hI) ?_;intro e du V1 hn h;cases e with
 |normal=>obtain⟨n',eV,aU,h1,h2,h3,h4⟩:=h;exact⟨eV,aU,h3,h4,n',h1,h2⟩
 |_=>exact⟨du,V1,hn,Gh.refl _ _ _,h⟩
def Gh.to{n0 n1:Nat}{tm':X U}{V':Sg}(mask:X DC)(ht:GV mask tm=tm')(hs:(⟨Vx.cut n1 V.h,n1⟩:Sg)=V')(h1:n0<=n1)(h2:n1<=V.nx)(hb:aG n1 tm')(hh:F4 n1 V'.h):Gh n0 tm V tm' V':=by subst ht;subst hs;exact(Gh.junk n0 mask tm V).trans (Gh.cut h1 h2 hb hh)
def sJ{v12:Type}{n:Nat}(f:v12->X U)(h:∀x,aG n (f x))(l:X v12):kH n (l.map f):=by rw[Hv];intro c hc;obtain⟨x,_,rfl⟩:=List.mem_map.1 hc;exact h x
def RF(P:Zt)(T:Tb)(aA rest:X Oper)(tm:X U)(V:Sg)(fl:X (DC×DC))(K:X (DC×DC)->X U->Sg->Prop):Prop :=
 RD P T aA rest tm V (fun rs tm' V'=>K (fl++rs.map fun r=>(r.act,r.mv)) tm' V')
def RF.eq(P:Zt)(T:Tb)(aA:X Oper){f g:X eL->X U->Sg->Prop}(h:f=g){rest:X Oper}(hr:RD P T aA rest tm V f):RD P T aA rest tm V g:=h ▸ hr
def z54{K:X (DC×DC)->X U->Sg->Prop}(fl:X (DC×DC))(r:eL)(a b:DC)(h1:r.act=a)(h2:r.mv=b):
  (fun(rs:X eL) (tm:X U) (V:Sg)=>K (fl++[(a,b)]++rs.map fun r=>(r.act,r.mv)) tm V)=(fun rs=>(fun(rs:X eL) tm V=>K (fl++rs.map fun r=>(r.act,r.mv)) tm V) (r::rs)):=by subst h1;subst h2;funext rs tm V;simp
variable{u:U}
def RF.call{P:Zt}{fl:X (DC×DC)}{K:X (DC×DC)->X U->Sg->Prop}(hw:c9 aA tm o=some true)(hc:jM T tm o.op=some (f,args))(jH:aW P f args V (fun u' V'=>u'=u/\V'=V))
  (h:RF P T aA r (eH tm o.dst u) V (fl++[(true,false)]) K):RF P T aA (o::r) tm V fl K:=by simp only[RF,RD];exact .inr (.inr (.inl ⟨hw,f,args,u,hc,jH,RF.eq P T aA (z54 fl _ true false rfl rfl) h⟩))
def RU.pcall{K:X U->Sg->Prop}(hw:c9 aA tm o=some true)(hc:jM T tm o.op=some (f,args))(jH:aW C.prog f args V (fun u' V'=>u'=u/\V'=V))
  (h:RU C T aA r (eH tm o.dst u) V K):RU C T aA (o::r) tm V K:=RU.call hw hc jH (fun u' V' ⟨h1,h2⟩=>by subst h1;subst h2;exact h)
def aW.pure1{P:Zt}(h:aW P f args ⟨[],0⟩ (fun u' _=>u'=u/\aT 0 u'))(ha:aG 0 args)(V:Sg):aW P f args V (fun u' V'=>u'=u/\V'=V):=aW.pure h ha V
end Go.Vx
