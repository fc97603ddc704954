import GoSem.ClaimChange
import Derived.Test.YtmflfedkfdkipaaGreatP6
set_option linter.all false
namespace Go.Vx
open Go Go.Rx
mutual
def Rep(W:Nr):U->Value->Prop
 |.bool b,v=>v=.bool b|.int k n,v=>v=.int k n
 |.str l,v=>v=.string ⟨⟨l⟩⟩|.isl t l,v=>t=false/\((l=[]/\(v=.slice none 0 0\/∃b off p,v=.slice (some ⟨b,off,some p⟩) 0 0))\/∃b off c,v=.slice (some ⟨b,off,none⟩) l.length c/\c<cV/\l.length<=c/\
   (l=[]\/∃cs e fr sz,W.heap[b]? = some (.cells cs e fr)/\MH W sz l (cs.toList.drop off)))
 |.agg l,v=>∃vs,v=.agg ⟨vs⟩/\nG W l vs/\l.length=vs.length/\okL l=true|_,_=>False
def nG(W:Nr):X U->X Value->Prop
 |[],_=>True|u::us,vs=>match vs with
  |[]=>False|v::vs=>Rep W u v/\nG W us vs
def MH(W:Nr)(sz:Nat):X (X U)->X Value->Prop
 |[],_=>True|c::cs,vs=>c.length=sz/\okL c=true/\nG W c vs/\MH W sz cs (vs.drop sz)
end
def cx(s:S):Cx:=⟨fun _=>none,⟨[],0⟩,s⟩
def Oa(s:S):Prop:=∀i b,lk s.h i=some b->Own b=false
structure Grow(m:Nm)(s:S)(m':Nm)(s':S):Prop where
 agree:aN s.nx m m'
 nx:s.nx<=s'.nx
 rows:∀i b,lk s.h i=some b->lk s'.h i=some b
def Grow.refl(m:Nm)(s:S):Grow m s m s:=⟨aN.refl _ _,zF _,fun _ _ h=>h⟩
def Grow.trans{m m' m'':Nm}{s s' s'':S}(h:Grow m s m' s')(h':Grow m' s' m'' s''):Grow m s m'' s'':=⟨h.agree.trans h'.agree h.nx,Nat.le_trans h.nx h'.nx,fun i b hb=>h'.rows i b (h.rows i b hb)⟩
variable{m:Nm}
variable{m':Nm}
variable{s:S}
variable{s':S}
def Grow.mo(h:Grow m s m' s'):Mo 0 (cx s) (cx s'):=⟨fun k hk=>qq0,fun i row e hl=>h.rows i _ hl⟩
def Grow.rel(h:Grow m s m' s'){u:U}{v:Value}(hr:aC (cx s) u v):aC (cx s') u v:=h.mo.ke u v (aC.bel _ _ hr) hr
def Grow.relE(h:Grow m s m' s'){l:X U}{vs:X Value}(hr:bA (cx s) l vs):bA (cx s') l vs:=h.mo.ke.E hr.bel hr
def qwd(m:Nm)(n:Nat):nS m n [] []:=fun _ _=>by simp[aJ]
def z2c{n:Nat}{v cv:Value}{vs mR:X Value}(h:iY m n v cv)(h':nS m n vs mR):nS m n (v::vs) (cv::mR):=fun m' ha=>by simp[aJ,h m' ha,h' m' ha]
def qjx{x:Cx}{sz:Nat}:∀{l:X (X U)}{vs:X Value},bA x l.flatten vs->(∀c∈l,c.length=sz/\okL c=true)->gY x sz l vs
 |[],vs,h,hs=>by simp[gY]
 |c::l,vs,h,hs=>by obtain⟨h1,h2⟩:=hs c qq4;simp only[gY];rw[List.flatten_cons]at h;refine⟨h1,h2,?_,qjx (by have:=h.drop sz;rwa [List.drop_append_of_le_length qq0,List.drop_of_length_le qq0,List.nil_append]at this) fun d hd=>hs d (by simp[hd])⟩;rw[H7];intro i u hu;have aE:i<c.length:=(zG.1 hu).1;exact h.get (by rw[List.getElem?_append_left aE];exact hu)
def qwf{W:Nr}{sz:Nat}:∀{l:X (X U)}{vs:X Value},MH W sz l vs->∀c∈l,c.length=sz/\okL c=true
 |[],vs,h=>by simp
 |d::l,vs,h=>fun c hc=>by simp only[MH]at h;rcases zI.1 hc with rfl |hc;exact⟨h.1,h.2.1⟩;exact qwf h.2.2.2 c hc
def Got(W:Nr)(m:Nm)(s:S)(u:U)(cv:Value):Prop:=∃m' s' v,Grow m s m' s'/\gD m' s' W/\Oa s'/\(∀i b,lk s'.h i=some b->i<s'.nx)/\iY m' s'.nx v cv/\aC (cx s') u v
def qi(W:Nr)(m:Nm)(s:S)(us:X U)(mR:X Value):Prop:=∃m' s' vs,Grow m s m' s'/\gD m' s' W/\Oa s'/\(∀i b,lk s'.h i=some b->i<s'.nx)/\nS m' s'.nx vs mR/\bA (cx s') us vs
mutual
def XM{W:Nr}:(u:U)->(cv:Value)->Rep W u cv->∀m s,gD m s W->Oa s->(∀i b,lk s.h i=some b->i<s.nx)->Got W m s u cv
 |.bool b,cv,h,m,s,hf,hn,iE=>by simp only[Rep]at h;subst h;exact⟨m,s,.bool b,Grow.refl _ _,hf,hn,iE,NO fun _=>by simp[ren],by simp[aC]⟩
 |.int k n,cv,h,m,s,hf,hn,iE=>by simp only[Rep]at h;subst h;exact⟨m,s,.int k n,Grow.refl _ _,hf,hn,iE,NO fun _=>by simp[ren],by simp[aC]⟩
 |.str l,cv,h,m,s,hf,hn,iE=>by simp only[Rep]at h;subst h;exact⟨m,s,_,Grow.refl _ _,hf,hn,iE,NO fun _=>by simp[ren],by simp[aC]⟩
 |.agg l,cv,h,m,s,hf,hn,iE=>by simp only[Rep]at h;obtain⟨mR,rfl,h1,h2,h3⟩:=h;obtain⟨m',s',vs,g1,g2,g3,g4,g5,g6⟩:=xm l mR h1 m s hf hn iE;rw[h2,List.take_length]at g5;exact⟨m',s',.agg ⟨vs⟩,g1,g2,g3,g4,fun m'' ha=>by simp[ren,g5 m'' ha],by simp only[aC];exact⟨vs,rfl,g6.1,g6.2,h3⟩⟩
 |.isl t l,cv,h,m,s,hf,hn,iE=>by
  simp only[Rep]at h;obtain⟨rfl,h⟩:=h;rcases h with⟨rfl,rfl |⟨b,off,p,rfl⟩⟩|⟨b,off,c,rfl,hc,bc,h⟩;exact⟨m,s,.slice none 0 0,Grow.refl _ _,hf,hn,iE,NO fun _=>by simp[ren],by simp[aC]⟩;refine⟨m.set s.nx b off p,⟨s.h,s.nx+1⟩,.chan (some s.nx),⟨Nm.agree_set _ _ _ _ _,Nat.le_succ _,fun _ _ h=>h⟩,(bT.ghost hf b off p).fits,hn,fun i b hb=>Nat.lt_succ_of_lt (iE i b hb),fun m' ha=>?_,by simp[aC]⟩;obtain⟨q1,q2,q3⟩:=ha s.nx (zN _);simp[ren,q1,q2,q3,Nm.set];by_cases hl:l=[];subst hl;refine⟨m.set s.nx b off 0,⟨s.h,s.nx+1⟩,.slice (some ⟨s.nx,0,none⟩) 0 c,⟨Nm.agree_set _ _ _ _ _,Nat.le_succ _,fun _ _ h=>h⟩,(bT.ghost hf b off 0).fits,hn,fun i b hb=>Nat.lt_succ_of_lt (iE i b hb),fun m' ha=>?_,?_⟩;obtain⟨q1,q2,_⟩:=ha s.nx (zN _);simp[ren,q1,q2,Nm.set,dM,hc];simp only[aC];exact .inr ⟨s.nx,0,c,rfl,by simp,.inl trivial⟩;rcases h with h |⟨cs,e,fr,sz,hw,hr⟩;exact absurd h hl;obtain⟨m',s',vs,g1,g2,g3,g4,g5,g6⟩:=z2h l _ hr m s hf hn iE;have bY:=qwf hr;have gH:∀m'',aN (s'.nx+1) (m'.set s'.nx b off 0) m''->aN s'.nx m' m'':=fun m'' ha=>(Nm.agree_set m' s'.nx b off 0).trans ha (Nat.le_succ _)
  have zR:∀m'',aN (s'.nx+1) (m'.set s'.nx b off 0) m''->m''.blk s'.nx=b/\m''.sh s'.nx=off:=fun m'' ha=>by obtain⟨q1,q2,_⟩:=ha s'.nx (zN _);simp[Nm.set]at q1 q2;exact⟨q1,q2⟩
  refine⟨m'.set s'.nx b off 0,⟨(s'.nx,.inl (vs,0,1))::s'.h,s'.nx+1⟩,.slice (some ⟨s'.nx,0,none⟩) l.length c,g1.trans ⟨Nm.agree_set _ _ _ _ _,Nat.le_succ _,fun i b hb=>?_⟩,fun m'' ha=>⟨fun i d hd=>?_,fun i j d d' hd bH nZ ho=>?_,fun i d hd=>?_⟩,fun i d hd=>?_,fun i d hd=>?_,fun m'' ha=>?_,?_⟩;have:=g4 i b hb;simp[mL,show s'.nx≠i by omega,hb];simp only[mL]at hd;split at hd;rename_i e;subst e;cases hd;obtain⟨q1,q2⟩:=zR m'' ha;refine⟨cs,e,fr,by rw[q1];exact hw,fun k v hk=>?_,fun n hn=>absurd hn qq4⟩;have:=congrArg (fun z=>z[k]?) (g5 m'' (gH m'' ha));simp only[mD,List.getElem?_map,hk,zM,List.getElem?_take,List.getElem?_drop]at this;split at this;rw[q2];simpa using this.symm;cases this;exact(g2 m'' (gH m'' ha)).ok i d hd;simp only[mL]at hd bH;split at hd;cases hd;simp[Own]at ho;rw[g3 i d hd]at ho;cases ho;simp only[mL]at hd;split at hd;show i<s'.nx+1;omega;exact Nat.lt_succ_of_lt (g4 i d hd);simp only[mL]at hd;split at hd;cases hd;rfl;exact g3 i d hd;simp only[mL]at hd;split at hd;show i<s'.nx+1;omega;exact Nat.lt_succ_of_lt (g4 i d hd);obtain⟨q1,q2⟩:=zR m'' ha;simp[ren,q1,q2,dM,hc];have hg:Grow m' s' (m'.set s'.nx b off 0) ⟨(s'.nx,.inl (vs,0,1))::s'.h,s'.nx+1⟩:=⟨Nm.agree_set _ _ _ _ _,Nat.le_succ _,fun i b hb=>by have:=g4 i b hb;simp[mL,show s'.nx≠i by omega,hb]⟩;simp only[aC];exact .inr ⟨s'.nx,0,c,rfl,by simp,.inr ⟨vs,0,sz,by simp[cx,mL],qjx (hg.relE g6) bY,.inl ⟨hc,bc⟩⟩⟩
 |.junk,cv,h,m,s,hf,hn,iE=>by simp[Rep]at h
 |.nilp,cv,h,m,s,hf,hn,iE=>by simp[Rep]at h
 |.ptr _ _ _,cv,h,m,s,hf,hn,iE=>by simp[Rep]at h
 |.iptr _,cv,h,m,s,hf,hn,iE=>by simp[Rep]at h
 |.nils,cv,h,m,s,hf,hn,iE=>by simp[Rep]at h
 |.sl _ _ _ _,cv,h,m,s,hf,hn,iE=>by simp[Rep]at h
 |.vl _ _ _ _,cv,h,m,s,hf,hn,iE=>by simp[Rep]at h
 |.nilm,cv,h,m,s,hf,hn,iE=>by simp[Rep]at h
 |.map _,cv,h,m,s,hf,hn,iE=>by simp[Rep]at h
 |.fn _ _ _,cv,h,m,s,hf,hn,iE=>by simp[Rep]at h
 |.nilf,cv,h,m,s,hf,hn,iE=>by simp[Rep]at h
 |.nili,cv,h,m,s,hf,hn,iE=>by simp[Rep]at h
 |.tup _,cv,h,m,s,hf,hn,iE=>by simp[Rep]at h
def xm{W:Nr}:(us:X U)->(mR:X Value)->nG W us mR->∀m s,gD m s W->Oa s->(∀i b,lk s.h i=some b->i<s.nx)->qi W m s us (mR.take us.length)
 |[],mR,h,m,s,hf,hn,iE=>⟨m,s,[],Grow.refl _ _,hf,hn,iE,by simpa using qwd m s.nx,bA.nil _⟩|u::us,[],h,m,s,hf,hn,iE=>by simp[nG]at h
 |u::us,cv::mR,h,m,s,hf,hn,iE=>by simp only[nG]at h;obtain⟨m',s',v,g1,g2,g3,g4,g5,g6⟩:=XM u cv h.1 m s hf hn iE;obtain⟨m'',s'',vs,k1,k2,k3,k4,k5,k6⟩:=xm us mR h.2 m' s' g2 g3 g4;exact⟨m'',s'',v::vs,g1.trans k1,k2,k3,k4,by simpa using z2c (g5.ext k1.agree k1.nx) k5,bA.cons (k1.rel g6) k6⟩
def z2h{W:Nr}{sz:Nat}:(l:X (X U))->(mR:X Value)->MH W sz l mR->∀m s,gD m s W->Oa s->(∀i b,lk s.h i=some b->i<s.nx)->qi W m s l.flatten (mR.take (l.length*sz))
 |[],mR,h,m,s,hf,hn,iE=>⟨m,s,[],Grow.refl _ _,hf,hn,iE,by simpa using qwd m s.nx,bA.nil _⟩|c::l,mR,h,m,s,hf,hn,iE=>by
  simp only[MH]at h;obtain⟨m',s',v,g1,g2,g3,g4,g5,g6⟩:=xm c mR h.2.2.1 m s hf hn iE;obtain⟨m'',s'',vs,k1,k2,k3,k4,k5,k6⟩:=z2h l _ h.2.2.2 m' s' g2 g3 g4;refine⟨m'',s'',v++vs,g1.trans k1,k2,k3,k4,?_,by rw[List.flatten_cons];exact(k1.relE g6).append k6⟩;have e:mR.take ((c::l).length*sz)=mR.take c.length++(mR.drop sz).take (l.length*sz):=by rw[zO,Nat.succ_mul,Nat.add_comm,List.take_add,h.1]
  rw[e];exact(g5.ext k1.agree k1.nx).append k5
end
def law_calls{P:DC}{f:FuncId}{us:X U}{W:Nr}{args:X Value}(h:aW P f us ⟨[],0⟩ (fun u _=>u=.bool true))(hr:nG W us args)(hl:us.length=args.length):
  Calls P f args.toArray W fun e w'=>e=.returned (.bool true)/\RowKit.Below W.heap.size W w':=by have h0:gD ⟨id,id,id⟩ ⟨[],0⟩ W:=fun m' _=>⟨fun i b hb=>by simp[lk]at hb,fun i j b c hb=>by simp[lk]at hb,fun i b hb=>by simp[lk]at hb⟩;obtain⟨m,s,vs,g1,g2,g3,g4,g5,g6⟩:=xm us args hr ⟨id,id,id⟩ ⟨[],0⟩ h0 (fun i b hb=>by simp[lk]at hb) (fun i b hb=>by simp[lk]at hb);rw[hl,List.take_length]at g5;refine(h (fun _ _=>False) (cx s) vs m W args rfl ⟨fun k b hb=>by simp[cx,gt]at hb,fun k k' b b' i hb=>by simp[cx,gt]at hb,g4⟩ (fun _ _ O=>O.elim) g6 g2 g5).mono ?_;rintro e w' ⟨y,aL,u,v,cv,rfl,rfl,aS,iP,_,_,yW,_,_⟩;simp only[aC]at yW;subst yW;have:=iP.at;simp only[ren]at this;exact⟨by rw[<-this],aS.below fun b ⟨i,c,hc,ho,_⟩=>by rw[g3 i c hc]at ho;cases ho⟩
def OfTy(P:DC):Nat->TypeId->X U->Prop
 |0,_,_=>False|n+1,t,us=>match P.underlying t with
  |some .bool=>∃b,us=[.bool b]|some (.int k)=>∃i,us=[.int k i]/\(Lit.int k i).wf=true
  |some .string=>∃s,us=[.str s]/\s.length<=maxLen|some (.slice e)=>∃l,us=[.isl false l]/\l.length<=maxLen/\∀c∈l,OfTy P n e c
  |some (.struct fs)=>us.length=P.cellsOf t/\∀f∈fs.toList,OfTy P n f.type ((us.drop f.offset).take (P.cellsOf f.type))|some (.array k e)=>us.length=P.cellsOf t/\∀i,i<k->OfTy P n e ((us.drop (i*P.cellsOf e)).take (P.cellsOf e))
  |_=>False
end Go.Vx
namespace Go.Vx
open Go Go.Rx
variable{tm:X U}
variable{tm':X U}
def t?{l:X Xt}(h:∀t∈tmpsOf l,tm[t]? = tm'[t]?){x:Xt}(hx:x∈l):cG tm x=cG tm' x:=by cases x with|tmp t=>simp only[cG,kK];exact h t (qxo hx)|_=>rfl
def Qz{l:X Xt}(h:∀x∈l,cG tm x=cG tm' x):oC tm l=oC tm' l:=by induction l with|nil=>rfl|cons x l ih=>simp only[oC];rw[h x qq4,ih fun y hy=>h y (by simp[hy])]
def qjl{l:X (Nat×Xt)}(h:∀x∈l.map (·.2),cG tm x=cG tm' x):yM tm l=yM tm' l:=by induction l with|nil=>rfl|cons x l ih=>obtain⟨i,x⟩:=x;simp only[yM];rw[h x qq4,ih fun y hy=>h y (by simp only[zQ,zI];exact .inr hy)]
def qjk{x:V Xt}(h:∀y,x=some y->cG tm y=cG tm' y):AP tm x=AP tm' x:=by rcases x with _|y;rfl;simp only[AP];rw[h y rfl]
section
variable{T:Tb}{tm tm':X U}{Y:Sg}{op:Op}
def qtm(h:∀x∈op.operands.toList,cG tm x=cG tm' x):i4 T Y tm op=i4 T Y tm' op:=by
 cases op<;>simp only[Op.operands]at h<;>try rfl
 case move x=>simp only[i4];exact h x qq4
 case assign x=>simp only[i4];exact h x qq4
 case pick c a b=>simp only[i4];rw[h c qq4,h a qq4,h b qq4]
 case build t ps=>simp only[i4];rw[qjl (by simpa using h)]
 case nilCheck x=>simp only[i4];rw[h x qq4]
 case binOp o t x y ty=>simp only[i4];rw[h x qq4,h y qq4]
 case unOp o t x=>simp only[i4];rw[h x qq4]
 case convert a b x=>simp only[i4];rw[h x qq4]
 case makeFunc f a b=>simp only[i4];rw[Qz fun x hx=>h x (by simp at hx ⊢;exact .inl hx),Qz fun x hx=>h x (by simp at hx ⊢;exact .inr hx)]
 case slice t x lo hi mx=>
  cases mx with|some _=>rfl|none=>
  simp only[i4];rw[h x qq4,qjk (x:=lo) fun y hy=>h y (by subst hy;simp),qjk (x:=hi) fun y hy=>h y (by subst hy;simp)]
 case fieldAddr t x f=>simp only[i4];rw[h x qq4]
 case field t x f=>simp only[i4];rw[h x qq4]
 case indexAddr t x i=>simp only[i4];rw[h x qq4,h i qq4]
 case index t x i=>simp only[i4];rw[h x qq4,h i qq4]
 case extract x i=>simp only[i4];rw[h x qq4]
 case call c=>simp only[i4];rw[Qz (l:=c.args.toList) fun x hx=>h x (by simp[Call.operands]at hx ⊢;exact .inr hx)]
def qtq(h:∀x∈op.operands.toList,cG tm x=cG tm' x):qX T Y tm op=qX T Y tm' op:=by
 cases op<;>simp only[Op.operands]at h<;>try rfl
 case load t x=>simp only[qX];rw[h x qq4]
def qxb(h:∀x∈op.operands.toList,cG tm x=cG tm' x):qU T Y tm op=qU T Y tm' op:=by
 cases op<;>simp only[Op.operands]at h<;>try rfl
 case box t x=>simp only[qU];rw[h x qq4]
 case store t x y=>simp only[qU];rw[h x qq4,h y qq4]
 case buildSlice t n ps=>simp only[qU];rw[qjl (by simpa using h)]
 case makeSlice t x y=>simp only[qU];rw[h x qq4,h y qq4]
 case makeMap t r=>cases r<;>rfl
 case call c=>simp only[qU];rw[Qz (l:=c.args.toList) fun x hx=>h x (by simp[Call.operands]at hx ⊢;exact .inr hx)]
def u?(h:∀x∈op.operands.toList,cG tm x=cG tm' x):jO T tm op=jO T tm' op:=by
 cases op<;>simp only[Op.operands]at h<;>try rfl
 case call c=>
  simp only[jO];rw[Qz (l:=c.args.toList) fun x hx=>h x (by simp[Call.operands]at hx ⊢;exact .inr hx)];cases hc:c.callee with
  |value f=>simp only[];rw[h f (by simp[Call.operands,hc])]|_=>rfl
def jw(h:∀x∈op.operands.toList,cG tm x=cG tm' x):bI T Y tm op=bI T Y tm' op:=by unfold bI;rw[qtm h,qtq h,qxb h]
end
def Aa{aA:X Oper}{o:Oper}(h:∀t∈N5 aA o,tm[t]? = tm'[t]?):(∀x∈o.op.operands.toList,cG tm x=cG tm' x)/\c8 aA tm o=c8 aA tm' o:=by
 unfold N5 at h;unfold c8;cases hg:o.guard with
 |none=>simp only[hg]at h;exact⟨fun x hx=>t? h hx,rfl⟩|some g=>
  obtain⟨j,want⟩:=g;simp only[hg]at h;cases hd:AM aA j with
  |none=>simp only[hd]at h;exact⟨fun x hx=>t? h hx,by simp only[hd]⟩|some d=>simp only[hd]at h;refine⟨fun x hx=>t? (fun t ht=>h t (by simp[ht])) hx,?_⟩;simp only[hd,kK];rw[h d qq4]
variable{K:Nat}
variable{k:Nat}
def zf(h:Nat.beq k K=false)(b:B)(sz st off n:Nat):fz K b sz (.vl k st off n)=.vl k st off n:=by simp[fz,h]
def U8(h:Nat.beq k K=false)(b:B)(sz off n c:Nat):fz K b sz (.sl k off n c)=.sl k off n c:=by simp[fz,h]
def UB(h:Nat.beq k K=false)(b:B)(sz st off:Nat):fz K b sz (.ptr k st off)=.ptr k st off:=by simp[fz,h]
def U9(K:Nat)(l:X U)(e:TypeId)(sz n:Nat)(h:n*sz<=l.length):fz K (.row l e) sz (.sl K 0 n n)=.isl false (bN sz n l):=by
 have:Nat.beq n n=true:=by simp[beq_eq]
 simp[fz,beq_eq,h]
def Xs(K:Nat)(l:X U)(e:TypeId)(sz:Nat):fz K (.row l e) sz (.ptr K 0 0)=.iptr l:=by simp[fz,beq_eq]
def DL(K:Nat)(b:B)(sz:Nat)(k:IntKind)(n:Int):fz K b sz (.int k n)=.int k n:=by simp[fz]
def KY(K:Nat)(b:B)(sz:Nat)(x:PE):fz K b sz (.bool x)=.bool x:=by simp[fz]
def RM(K:Nat)(b:B)(sz:Nat)(x:X Yv):fz K b sz (.str x)=.str x:=by simp[fz]
def ND(K:Nat)(b:B)(sz:Nat):fz K b sz .nils=.nils:=by simp[fz]
def Y9(K:Nat)(b:B)(sz:Nat):fz K b sz .nilp=.nilp:=by simp[fz]
def YA(K:Nat)(b:B)(sz:Nat):fz K b sz .nilm=.nilm:=by simp[fz]
def YB(K:Nat)(b:B)(sz:Nat):fz K b sz .nilf=.nilf:=by simp[fz]
def RW(K:Nat)(b:B)(sz:Nat):fz K b sz .junk=.junk:=by simp[fz]
def H6(K:Nat)(b:B)(sz:Nat)(t:PE)(l:X (X U)):fz K b sz (.isl t l)=.isl t l:=by simp[fz]
def Y6(K:Nat)(b:B)(sz:Nat)(k:Nat):fz K b sz (.map k)=.map k:=by simp[fz]
def N8(K:Nat)(b:B)(sz:Nat)(l:X U):fz K b sz (.agg l)=.agg (gU K b sz l):=by simp[fz]
def RL(K:Nat)(b:B)(sz:Nat)(l:X U):fz K b sz (.tup l)=.tup (gU K b sz l):=by simp[fz]
def R9(K:Nat)(b:B)(sz:Nat)(f:Fn)(a c:X U):fz K b sz (.fn f a c)=.fn f (gU K b sz a) (gU K b sz c):=by simp[fz]
def vF(K:Nat)(b:B)(sz:Nat):gU K b sz []=[]:=by simp[gU]
def sZ(K:Nat)(b:B)(sz:Nat)(u:U)(l:X U):gU K b sz (u::l)=fz K b sz u::gU K b sz l:=by simp[gU]
mutual
def N7{K:Nat}(b:B)(sz:Nat):(u:U)->aT K u->fz K b sz u=u
 |.sl k _ _ _,h=>U8 (by simp only[aT]at h;simp[beq_eq];omega) _ _ _ _ _|.vl k _ _ _,h=>zf (by simp only[aT]at h;simp[beq_eq];omega) _ _ _ _ _
 |.ptr k _ _,h=>UB (by simp only[aT]at h;simp[beq_eq];omega) _ _ _ _|.agg l,h=>by simp only[aT]at h;rw[N8,tP b sz l h]
 |.tup l,h=>by simp only[aT]at h;rw[RL,tP b sz l h]
 |.fn f a c,h=>by simp only[aT]at h;rw[R9,tP b sz a h.1,tP b sz c h.2]
 |.int _ _,_=>DL _ _ _ _ _|.bool _,_=>KY _ _ _ _
 |.str _,_=>RM _ _ _ _|.nils,_=>ND _ _ _
 |.nilp,_=>Y9 _ _ _|.nilm,_=>YA _ _ _
 |.nilf,_=>YB _ _ _|.nili,_=>by simp[fz]
 |.junk,_=>RW _ _ _|.isl _ _,_=>H6 _ _ _ _ _
 |.iptr _,_=>by simp[fz]
 |.map _,_=>Y6 _ _ _ _
def tP{K:Nat}(b:B)(sz:Nat):(l:X U)->aG K l->gU K b sz l=l
 |[],_=>vF _ _ _|u::l,h=>by simp only[aG]at h;rw[sZ,N7 b sz u h.1,tP b sz l h.2]
end
variable{x:Cx}
def nO.belB{b:B}(h:nO x k b):BelB x.Y.nx b:=by
 cases b with
 |row l e=>obtain⟨_,_,_,_,_,e3⟩:=h;exact e3.bel
 |vec l e sz st=>obtain⟨_,_,h3⟩:=h;rcases h3 with⟨rfl,_⟩|⟨_,_,_,_,e3⟩;simp[BelB,aG];exact e3.bel
 |map es cl=>obtain⟨_,es',_,_,e3⟩:=h;intro e he;obtain⟨j,hj,rfl⟩:=List.getElem_of_mem he;obtain⟨v,_,q2,q3,_⟩:=e3.2 j _ (List.getElem?_eq_getElem hj);exact⟨aC.bel _ _ q2,aC.bel _ _ q3⟩
variable{n0:Nat}
variable{Y:Sg}
def Gh.same(h':X (Nat×B))(hg:∀k,gt h' k=gt Y.h k):Gh n0 tm Y tm ⟨h',Y.nx⟩:=fun F x tv hx hr hf he=>by
 subst hx;have fD:Mo x.Y.nx x ⟨x.I,⟨h',x.Y.nx⟩,x.s⟩:=⟨fun k _ h2=>⟨h2,fun b hb=>⟨b,by rw[<-hg];exact hb,zF _,fun _=>⟨rfl,fun l e sz st h=>⟨l,h⟩⟩⟩⟩,fun _ _ _ h=>h⟩;refine⟨⟨x.I,⟨h',x.Y.nx⟩,x.s⟩,fun m w hf=>bT.refl hf,rfl,⟨fun k b hb=>?_,fun k k' b b' i hb cK=>?_,hr.bd⟩,fun i b O=>?_,fD.ke.E he.bel he,fun u v hb hr=>fD.ke u v (aC.bel u v hr) hr⟩;have cK:gt x.Y.h k=some b:=by rw[<-hg];exact hb
 obtain⟨h1,h2⟩:=hr.ok k b cK;exact⟨h1,h2.mono fD rfl fun _ _ _ h=>h⟩;exact hr.inj k k' b b' i (by rw[<-hg];exact hb) (by rw[<-hg];exact cK);obtain⟨h1,h2⟩:=hf i b O;exact⟨h1,fun k c hc=>h2 k c (by rw[<-hg];exact hc)⟩
variable{T:Tb}
variable{op:Op}
def qyy{q:FuncId×X U}(h:jO T tm op=some q):bI T Y tm op=none:=by
 cases op with
 |call c=>
  simp only[jO]at h;cases hc:c.callee with
  |value f=>simp[bI,i4,qX,qU,hc]|_=>simp[hc]at h
 |_=>simp[jO]at h
def Gh.cutG{n1:Nat}(h1:n0<=n1)(h2:n1<=Y.nx)(hb:aG n1 tm)(hh:∀k b,gt (Vx.cut n1 Y.h) k=some b->BelB n1 b):Gh n0 tm Y tm ⟨Vx.cut n1 Y.h,n1⟩:=fun F x tv hx hr hf he=>by
 subst hx;have fD:Mo n1 x ⟨x.I,⟨Vx.cut n1 x.Y.h,n1⟩,x.s⟩:=by refine⟨fun k hk _=>⟨hk,fun b hb=>?_⟩,fun _ _ _ h=>h⟩;simp only[Y5,hk,if_true]at hb;exact⟨b,hb,zF _,fun _=>⟨rfl,fun l e sz st h=>⟨l,h⟩⟩⟩
 have sub:∀{k b},gt (Vx.cut n1 x.Y.h) k=some b->k<n1/\gt x.Y.h k=some b:=fun{k b} hg=>by simp only[Y5]at hg;split at hg;exact⟨by assumption,hg⟩;cases hg
 refine⟨⟨x.I,⟨Vx.cut n1 x.Y.h,n1⟩,x.s⟩,fun m w hf=>bT.refl hf,rfl,⟨fun k b hg=>?_,fun k k' b b' i g1 g2=>hr.inj k k' b b' i (sub g1).2 (sub g2).2,hr.bd⟩,fun i b O=>?_,fD.ke.E hb he,fD.ke.le h1⟩;exact⟨(sub hg).1,(hr.ok k b (sub hg).2).2.monoB (hh k b hg) fD rfl fun _ _ _ h=>h⟩;exact⟨(hf i b O).1,fun k c hc=>(hf i b O).2 k c (sub hc).2⟩
def qn4{k:Nat}(sz:Nat):∀(n:Nat)(l:X U),aG k l->kJ k (bN sz n l)
 |0,l,_=>by simp[bN,kJ]
 |n+1,l,h=>by simp only[bN,kJ];exact⟨(vG k _).2 fun u hu=>(vG k _).1 h u (List.mem_of_mem_take hu),qn4 sz n _ ((vG k _).2 fun u hu=>(vG k _).1 h u (List.mem_of_mem_drop hu))⟩
def sX(P:DC)(T:Tb)(tm:X U)(op:Op)(u:U):Prop :=
 (∃f args,jO T tm op=some (f,args)/\∀s,aW P f args s (fun u' Y=>u'=u/\Y=s))\/ (∃n sz cs e,(∀Y,bI T Y tm op=some (.sl Y.nx 0 n n,newU Y (.row cs e)))/\n*sz<=cs.length/\(∀m,(∀x∈op.operands.toList,∀u',cG tm x=some u'->aT m u')->aG m cs)/\u=.isl false (bN sz n cs))
def Gh.quiet{n sz:Nat}{cs:X U}{e:TypeId}{d:V Tmp}(h0:n0<=Y.nx)(hb:aG Y.nx tm)(hs:∀k b,gt Y.h k=some b->k<Y.nx/\BelB Y.nx b)(hl:n*sz<=cs.length)(BK:aG Y.nx cs):Gh n0 (eH tm d (.sl Y.nx 0 n n)) (newU Y (.row cs e)) (eH tm d (.isl false (bN sz n cs))) Y:=by
 have e0:gt (newU Y (.row cs e)).h Y.nx=some (.row cs e):=by simp[newU,aP]
 have et:gU Y.nx (.row cs e) sz (eH tm d (.sl Y.nx 0 n n))=eH tm d (.isl false (bN sz n cs)):=by
  rcases d with _|t;simp only[eH];exact tP _ _ _ hb;simp only[eH];have key:∀(l:X U)(t:Nat),aG Y.nx l->gU Y.nx (.row cs e) sz (l.set t (.sl Y.nx 0 n n))=l.set t (.isl false (bN sz n cs)):=by
   intro l;induction l with
   |nil=>intro t _;simp[gU]|cons u l ih=>
    intro t h;simp only[aG]at h;cases t with
    |zero=>simp only[List.set_cons_zero,sZ,tP _ _ l h.2,U9 Y.nx cs e sz n hl]|succ t=>simp only[List.set_cons_succ,sZ,N7 _ _ u h.1,ih t h.2]
  exact key tm t hb
 have bj:aG Y.nx (eH tm d (.isl false (bN sz n cs))):=by
  rcases d with _|t;simpa only[eH]using hb;simp only[eH];have key:∀(l:X U)(t:Nat),aG Y.nx l->aG Y.nx (l.set t (.isl false (bN sz n cs))):=by
   intro l;induction l with
   |nil=>intro t _;simp[aG]|cons u l ih=>
    intro t h;simp only[aG]at h;cases t with
    |zero=>simp only[List.set_cons_zero,aG];exact⟨by simp only[aT];exact qn4 sz n cs BK,h.2⟩|succ t=>simp only[List.set_cons_succ,aG];exact⟨h.1,ih t h.2⟩
  exact key tm t hb
 have eg:∀k,gt (Vx.cut Y.nx (fzH Y.nx (.row cs e) sz (newU Y (.row cs e)).h)) k=gt Y.h k:=fun k=>by
  rw[Y5];by_cases hk:k<Y.nx;rw[if_pos hk,AO,if_neg qq0];have:gt (newU Y (.row cs e)).h k=gt Y.h k:=by simp only[newU,aP];rw[if_neg qq0]
  rw[this];rcases hg:gt Y.h k with _|b;rfl;have hb:=(hs k b hg).2;simp only[zM,zA];cases b with
  |row l e=>simp only[fzB];rw[tP _ _ _ hb]|vec l e s st=>simp only[fzB];rw[tP _ _ _ hb]
  |map es cl=>
   simp only[fzB];congr 1;have:∀q∈es,({ q with val:=fz Y.nx (.row cs e) sz q.val }:_)=q:=fun q hq=>by rw[N7 _ _ _ (hb q hq).2]
   exact(List.map_congr_left this).trans (List.map_id _)
  rw[if_neg hk];rcases hg:gt Y.h k with _|b;rfl;exact absurd (hs k b hg).1 hk
 refine(Gh.freeze (n0:=n0) sz e0 qq4).trans ?_;rw[et];refine(Gh.cutG (n0:=n0) (n1:=Y.nx) h0 (by simp[newU]) bj ?_).trans ?_;intro k b hg;rw[eg]at hg;exact(hs k b hg).2;exact Gh.same (Y:=⟨Vx.cut Y.nx (fzH Y.nx (.row cs e) sz (newU Y (.row cs e)).h),Y.nx⟩) Y.h fun k=>(eg k).symm
variable{P:DC}
variable{u:U}
def sX.noop(h:sX P T tm op u)(Y:Sg):bI T Y tm op≠some (u,Y):=fun hc=>by
 rcases h with⟨f,args,h,_⟩|⟨n,sz,cs,e,h,_⟩;rw[qyy h]at hc;cases hc;rw[h Y]at hc;simp only[zA,zB]at hc;have:=congrArg Sg.nx hc.2;simp only[newU]at this;omega
def sX.congr(h:∀x∈op.operands.toList,cG tm x=cG tm' x)(hf:sX P T tm' op u):sX P T tm op u:=by rcases hf with⟨f,args,h1,h2⟩|⟨n,sz,cs,e,h1,h2,h3,h4⟩;exact .inl ⟨f,args,(u? h).trans h1,h2⟩;exact .inr ⟨n,sz,cs,e,fun Y=>(jw h).trans (h1 Y),h2,fun m hm=>h3 m fun x hx u' hu=>hm x hx u' ((h x hx).trans hu),h4⟩
def sX.nd(h:sX P T tm op u):∀c,op≠.defer c:=by rcases h with⟨f,args,h1,_⟩|⟨n,sz,cs,e,h1,_⟩;exact jp h1;exact RG (h1 ⟨[],0⟩)
variable{F:Nat->mI->Prop}
def St.free(hT:j0 P T){tv:X Value}{m:Nm}{w:Nr}{a:Act}(st:St F x tm tv m w a)(o:Oper)(h:sX P T tm o.op u){next:Act->Nr->Prop}{Q:Exit->Act->Nr->Prop}
  (hn:∀y dJ aL w₁ bD,y.Y=x.Y->St F y (eH tm o.dst u) dJ aL w₁ bD->bT m x.s w aL y.s w₁->Ke x.Y.nx x y->x.Y.nx<=y.Y.nx->bD.defers=a.defers->next bD w₁):o.wp P a w next Q:=by
 rcases h with⟨f,args,h1,h2⟩|⟨n,sz,cs,e,h1,h2,h3,rfl⟩;refine st.call hT o h1 (h2 x.Y) fun y u' dJ aL w₁ bD hR bJ cX eS nB hZ=>?_
 obtain⟨rfl,hR2⟩:=hR;exact hn y dJ aL w₁ bD hR2 bJ cX eS nB hZ;refine st.op hT o (h1 x.Y) fun y dJ aL w₁ bD e1 bJ cX eS nB hZ=>?_;obtain⟨z,g1,g2,g3,g4,g5,g6⟩:=Gh.quiet (n0:=x.Y.nx) (Y:=x.Y) (d:=o.dst) (e:=e) (zF _) st.e.bel (fun k b hg=>⟨(st.h.ok k b hg).1,(st.h.ok k b hg).2.belB⟩) h2 (h3 _ fun xo _ u' hu=>by obtain⟨v,_,hr⟩:=jF st.e hu;exact aC.bel u' v hr) F y dJ e1 bJ.h bJ.fr bJ.e;have eO:=g1 aL w₁ bJ.fits;exact hn z dJ aL w₁ bD g2 ⟨g3,g4,g5,eO.fits,bJ.act.ext eO.agree eO.nx⟩ (cX.trans eO) (eS.trans g6) (by rw[g2];exact zF _) hZ
def St.opfz(hT:j0 P T){tv:X Value}{m:Nm}{w:Nr}{a:Act}(st:St F x tm tv m w a)(o:Oper){u1:U}{s1 s':Sg}{d:Nat}(sM:bI T x.Y tm o.op=some (u1,s1))(hd:o.dst=some d)(IM:d<tm.length)
  (hg:Gh s1.nx [u1] s1 [u] s') (hn:s1.nx<=s'.nx) {next:Act->Nr->Prop} {Q:Exit->Act->Nr->Prop}
  (hk:∀y dJ aL w₁ bD,y.Y=s'->St F y (eH tm o.dst u) dJ aL w₁ bD->bT m x.s w aL y.s w₁->Ke x.Y.nx x y->x.Y.nx<=y.Y.nx->bD.defers=a.defers->next bD w₁):o.wp P a w next Q:=by
 refine st.op hT o sM fun y dJ aL w₁ bD e1 bJ cX eS nB hZ=>?_;have he:=bJ.e;rw[hd]at he hk;simp only[eH]at he hk;obtain⟨v1,hv1,hr1⟩:=he.get (List.getElem?_set_self (by simpa using IM));obtain⟨z,g1,g2,g3,g4,g5,g6⟩:=hg F y [v1] e1 bJ.h bJ.fr (bA.cons hr1 (bA.nil y));have eO:=g1 aL w₁ bJ.fits;obtain⟨v1',_,hv1',hr2,_⟩:=g5.inv;cases hv1';have hez:bA z (tm.set d u) dJ:=by refine⟨(H7 z _ _).2 fun i u' OO=>?_,by have:=he.2;simpa using this⟩;by_cases hi:d=i;subst hi;rw[List.getElem?_set_self (by simpa using IM)]at OO;cases OO;exact⟨v1,hv1,hr2⟩;rw[List.getElem?_set_ne hi]at OO;obtain⟨v,hv,hr⟩:=he.get (i:=i) (u:=u') (by rw[List.getElem?_set_ne hi];exact OO);refine⟨v,hv,g6 u' v ?_ hr⟩;have hb:=(vG y.Y.nx _).1 he.bel u' (by rw[List.mem_iff_getElem?];exact⟨i,by rw[List.getElem?_set_ne hi];exact OO⟩);rw[e1]at hb;exact hb
 exact hk z dJ aL w₁ bD g2 ⟨g3,g4,hez,eO.fits,bJ.act.ext eO.agree eO.nx⟩ (cX.trans eO) (eS.trans (g6.le (by rw[<-e1];exact nB))) (by rw[g2];rw[e1]at nB;omega) hZ
structure eM where
 tm:X U
 o:Oper
 u:U
 act:PE
 mv:PE
 s:Sg
 s':Sg
def Good(P:DC)(T:Tb)(aA:X Oper)(r:eM):Prop :=
 (c8 aA r.tm r.o=some false/\r.u=.tup []/\r.act=false/\r.s'=r.s)\/ (c8 aA r.tm r.o=some true/\bI T r.s r.tm r.o.op=some (r.u,r.s')/\(r.act=false->r.s'=r.s))\/ (c8 aA r.tm r.o=some true/\r.act=true/\∃f args,jO T r.tm r.o.op=some (f,args)/\aW P f args r.s (fun u Y=>u=r.u/\Y=r.s'))\/ (c8 aA r.tm r.o=some true/\r.act=false/\r.s'=r.s/\sX P T r.tm r.o.op r.u)\/ (r.act=false/\r.mv=true/\r.s'=r.s)\/ (c8 aA r.tm r.o=some true/\r.act=true/\∃u1 s1 d,bI T r.s r.tm r.o.op=some (u1,s1)/\r.o.dst=some d/\d<r.tm.length/\Gh s1.nx [u1] s1 [r.u] r.s'/\s1.nx<=r.s'.nx)
variable{r:eM}
def Good.quiet{aA:X Oper}(h:Good P T aA r)(ha:r.act=false):r.s'=r.s:=by rcases h with⟨_,_,_,h⟩|⟨_,_,h⟩|⟨_,h,_⟩|⟨_,_,h,_⟩|⟨_,_,h⟩|⟨_,h,_⟩;exact h;exact h ha;rw[ha]at h;cases h;exact h;exact h;rw[ha]at h;cases h
def jU(rs:X eM)(Y':Sg)(p:Nat):Sg:=match rs[p]? with
 |some r=>r.s|none=>Y'
def vZ(rs:X eM)(tm':X U)(p:Nat):X U:=match rs[p]? with
 |some r=>r.tm|none=>tm'
structure ct(P:DC)(T:Tb)(aA:X Oper)(tm₀:X U)(G2:Sg)(rs:X eM)(tm':X U)(Y':Sg):Prop where
 len:rs.length=aA.length
 s0:jU rs Y' 0=G2
 t0:vZ rs tm' 0=tm₀
 all:∀(i:Nat)(r:eM),rs[i]? = some r->aA[i]? = some r.o/\Good P T aA r/\jU rs Y' (i+1)=r.s'/\vZ rs tm' (i+1)=eH r.tm r.o.dst r.u
structure ChU(T:Tb)(aA:X Oper)(rs:X eM):Prop where
 acts:∀(i k:Nat)(r q:eM),rs[i]? = some r->rs[k]? = some q->r.act=true->q.act=true->k<i->Pre aA i k
 lo:∀(i k:Nat)(r q:eM),rs[i]? = some r->rs[k]? = some q->r.act=false->c8 aA r.tm r.o=some true->bI T r.s r.tm r.o.op=some (r.u,r.s')->q.act=true->k<i->Pre aA i k\/q.s=r.s\/bI T q.s r.tm r.o.op=some (r.u,q.s)
 hi:∀(i k:Nat)(r q:eM),rs[i]? = some r->rs[k]? = some q->r.act=false->c8 aA r.tm r.o=some true->bI T r.s r.tm r.o.op=some (r.u,r.s')->q.act=true->i<k->Pre aA k i\/q.s'=r.s\/bI T q.s' r.tm r.o.op=some (r.u,q.s')
structure N4(tm₀:X U)(rs:X eM)(L:Nat->Prop)(tm:X U):Prop where
 len:tm.length=tm₀.length
 yes:∀(k:Nat)(r:eM)(d:Nat),rs[k]? = some r->r.o.dst=some d->d<tm₀.length->L k->tm[d]? = some r.u
 no:∀(k:Nat)(r:eM)(d:Nat),rs[k]? = some r->r.o.dst=some d->¬ L k->tm[d]? = tm₀[d]?
 other:∀(t:Nat),(∀(k:Nat)(r:eM),rs[k]? = some r->r.o.dst≠some t)->tm[t]? = tm₀[t]?
section
variable{P:DC}{T:Tb}(hT:j0 P T)(aA:Zu Oper){tm₀:X U}{G2:Sg}{rs:X eM}{tm':X U}{Y':Sg}
 (j9:ct P T aA.toList tm₀ G2 rs tm' Y') (dC:YP aA.toList=true)
include j9 dC
omit dC in
def XJ{i:Nat}{o:Oper}(ho:aA.toList[i]? = some o):∃r,rs[i]? = some r/\r.o=o:=by
 have hi:i<rs.length:=by rw[j9.len];exact(zG.1 ho).1
 have hr:rs[i]? = some rs[i]:=by simp[hi]
 refine⟨_,hr,?_⟩;have:=(j9.all i _ hr).1;rw[ho]at this;exact(Option.some.inj this).symm
variable{i:Nat}
def quu{q:eM}(hr:rs[i]? = some r)(hq:rs[k]? = some q)(OV:i≠k){d:Tmp}(hd:q.o.dst=some d):r.o.dst≠some d :=
 (z2z dC (j9.all i r hr).1 (j9.all k q hq).1 OV hd).1
def qs4{L:Nat->Prop}(h:N4 tm₀ rs L tm)(hr:rs[i]? = some r):N4 tm₀ rs (fun k=>L k\/k=i) (eH tm r.o.dst r.u):=by
 cases hd:r.o.dst with
 |none=>simp only[eH];refine⟨h.len,fun k q d hq EC aE hL=>?_,fun k q d hq EC hL=>h.no k q d hq EC fun x=>hL (.inl x),h.other⟩;rcases hL with hL |rfl;exact h.yes k q d hq EC aE hL;rw[hr]at hq;cases hq;rw[hd]at EC;cases EC
 |some Ec=>
  simp only[eH];refine⟨by simp[h.len],fun k q d hq EC aE hL=>?_,fun k q d hq EC hL=>?_,fun t ht=>?_⟩;by_cases Wc:k=i;subst Wc;rw[hr]at hq;cases hq;rw[hd]at EC;cases EC;rw[List.getElem?_set_self (by rw[h.len];exact aE)];have cR:Ec≠d:=fun e=>by have:=quu aA j9 dC hr hq (fun x=>Wc x.symm) EC;exact this (by rw[hd,e])
  rw[List.getElem?_set_ne cR];rcases hL with hL |hL;exact h.yes k q d hq EC aE hL;exact absurd hL Wc;have Wc:k≠i:=fun e=>hL (.inr e)
  have cR:Ec≠d:=fun e=>by have:=quu aA j9 dC hr hq (fun x=>Wc x.symm) EC;exact this (by rw[hd,e])
  rw[List.getElem?_set_ne cR];exact h.no k q d hq EC fun x=>hL (.inl x);have cR:Ec≠t:=fun e=>ht i r hr (by rw[hd,e]);rw[List.getElem?_set_ne cR];exact h.other t ht
omit j9 dC in
def qns:N4 tm₀ rs (fun _=>False) tm₀:=⟨rfl,fun _ _ _ _ _ _ h=>h.elim,fun _ _ _ _ _ _=>rfl,fun _ _=>rfl⟩
def d_(p:Nat)(hp:p<=rs.length):N4 tm₀ rs (fun k=>k<p) (vZ rs tm' p):=by
 induction p with
 |zero=>rw[j9.t0];have:=qns (rs:=rs) (tm₀:=tm₀);refine⟨this.len,fun k r d _ _ _ hL=>qq0,fun k r d h1 h2 _=>this.no k r d h1 h2 (fun x=>x),this.other⟩|succ p ih=>
  have hr:rs[p]? = some rs[p]:=by simp[show p<rs.length by omega]
  have h5:=(j9.all p _ hr).2.2.2;have pw:=ih qq0;have e1:vZ rs tm' p=rs[p].tm:=by simp[vZ,hr]
  rw[e1]at pw;have:=qs4 aA j9 dC pw hr;rw[h5];refine⟨this.len,fun k q d a b c hL=>this.yes k q d a b c qq0,fun k q d a b hL=>this.no k q d a b qq0,this.other⟩
omit j9 dC in
def qy2{L:Nat->Prop}{a b:X U}(ha:N4 tm₀ rs L a)(hb:N4 tm₀ rs L b):a=b:=by
 apply List.ext_getElem?;intro t;by_cases ht:∀(k:Nat)(r:eM),rs[k]? = some r->r.o.dst≠some t;rw[ha.other t ht,hb.other t ht];have:∃(k:Nat)(r:eM),rs[k]? = some r/\r.o.dst=some t:=by apply Classical.byContradiction;intro hn;exact ht fun k r hr hd=>hn ⟨k,r,hr,hd⟩
 obtain⟨k,r,hr,hd⟩:=this;by_cases hL:L k;by_cases aE:t<tm₀.length;rw[ha.yes k r t hr hd aE hL,hb.yes k r t hr hd aE hL];rw[List.getElem?_eq_none (by rw[ha.len];omega),List.getElem?_eq_none (by rw[hb.len];omega)];rw[ha.no k r t hr hd hL,hb.no k r t hr hd hL]
def qtz{L:Nat->Prop}(hL:Closed aA.toList L)(h:N4 tm₀ rs L tm)(hr:rs[i]? = some r)(hi:¬ L i)
  (I9:∀o,aA.toList[i]? = some o->∀e∈o.after.toList,Region.binds .any e=true->L e.on):∀t∈N5 aA.toList r.o,tm[t]? = r.tm[t]?:=by
 have lS:i<rs.length:=(zG.1 hr).1;have zR:=d_ aA j9 dC i (Nat.le_of_lt lS);have e1:vZ rs tm' i=r.tm:=by simp[vZ,hr]
 rw[e1]at zR;intro(t:Nat) ht;by_cases eT:∀(k:Nat)(q:eM),rs[k]? = some q->q.o.dst≠some t;rw[h.other t eT,zR.other t eT];have:∃(k:Nat)(q:eM),rs[k]? = some q/\q.o.dst=some t:=by apply Classical.byContradiction;intro hn;exact eT fun k r hr hd=>hn ⟨k,r,hr,hd⟩
 obtain⟨k,q,hq,hd⟩:=this;have ho:=(j9.all i r hr).1;have hk:=(j9.all k q hq).1;by_cases OV:i=k;subst OV;rw[h.no i q t hq hd hi,zR.no i q t hq hd qq0];rcases(z2z dC ho hk OV hd).2 ht with hp |hp;have hLk:=ju dC hL I9 hp;have aE:=z86 dC i k hp;by_cases eW:t<tm₀.length;rw[h.yes k q t hq hd eW hLk,zR.yes k q t hq hd eW aE];rw[List.getElem?_eq_none (by rw[h.len];omega),List.getElem?_eq_none (by rw[zR.len];omega)];have hnk:¬ L k:=fun x=>hi (i? dC hL k i x hp)
 have aE:=z86 dC k i hp;rw[h.no k q t hq hd hnk,zR.no k q t hq hd qq0]
omit dC in
def Hh{p q:Nat}(vN:p<=q)(hq:q<=rs.length)(eT : ∀(e:Nat)(r:eM),p<=e->e<q->rs[e]? = some r->r.act=false): jU rs Y' p=jU rs Y' q:=by
  induction q with
  | zero => have : p = 0 := by omega
            rw[this]
  |succ q ih=>
    rcases Nat.lt_or_ge q p with h |h;have:p=q+1:=by omega
    rw[this];rw[ih h qq0 fun e r h1 h2 h3=> eT e r h1 qq0 h3];have hr:rs[q]? = some rs[q]:=by simp[show q<rs.length by omega]
    obtain⟨_,g2,g3,_⟩:=j9.all q _ hr;rw[g3,g2.quiet (eT q _ h (zN _) hr)];simp[jU,hr]
omit j9 dC in
def z9i{i p:Nat}(h:∃(e:Nat)(q:eM),i<e/\e<p/\rs[e]? = some q/\q.act=true):∃(e:Nat)(q:eM),i<e/\e<p/\rs[e]? = some q/\q.act=true/\∀(e':Nat)(q':eM),e<e'->e'<p->rs[e']? = some q'->q'.act=false:=by
 obtain⟨e,q,g1,g2,g3,g5⟩:=h;have:∀(n e:Nat)(q:eM),p-e=n->i<e->e<p->rs[e]? = some q->q.act=true->∃(e:Nat)(q:eM),i<e/\e<p/\rs[e]? = some q/\q.act=true/\∀(e':Nat)(q':eM),e<e'->e'<p->rs[e']? = some q'->q'.act=false:=by
  intro n;induction n using Nat.strongRecOn with
  |_ n ihn=>intro e q cR g1 g2 g3 g5;by_cases xA:∃(e':Nat)(q':eM),e<e'/\e'<p/\rs[e']? = some q'/\q'.act=true;obtain⟨e',q',k1,k2,k3,k4⟩:=xA;exact ihn (p-e') qq0 e' q' rfl qq0 k2 k3 k4;exact⟨e,q,g1,g2,g3,g5,fun e' q' k1 k2 k3=>by cases hb:q'.act with |false=>rfl |true=>exact absurd ⟨e',q',k1,k2,k3,hb⟩ xA⟩
 exact this _ e q rfl g1 g2 g3 g5
omit j9 dC in
def z51{i p:Nat}(h:∃(e:Nat)(q:eM),p<=e/\e<i/\rs[e]? = some q/\q.act=true):∃(e:Nat)(q:eM),p<=e/\e<i/\rs[e]? = some q/\q.act=true/\∀(e':Nat)(q':eM),p<=e'->e'<e->rs[e']? = some q'->q'.act=false:=by
 obtain⟨e,q,g1,g2,g3,g5⟩:=h;have:∀(e:Nat)(q:eM),p<=e->e<i->rs[e]? = some q->q.act=true->∃(e:Nat)(q:eM),p<=e/\e<i/\rs[e]? = some q/\q.act=true/\∀(e':Nat)(q':eM),p<=e'->e'<e->rs[e']? = some q'->q'.act=false:=by
  intro e;induction e using Nat.strongRecOn with
  |_ e ihn=>intro q g1 g2 g3 g5;by_cases xA:∃(e':Nat)(q':eM),p<=e'/\e'<e/\rs[e']? = some q'/\q'.act=true;obtain⟨e',q',k1,k2,k3,k4⟩:=xA;exact ihn e' k2 q' k1 qq0 k3 k4;exact⟨e,q,g1,g2,g3,g5,fun e' q' k1 k2 k3=>by cases hb:q'.act with |false=>rfl |true=>exact absurd ⟨e',q',k1,k2,k3,hb⟩ xA⟩
 exact this e q g1 g2 g3 g5
variable(P7:ChU T aA.toList rs)
include hT P7
def z8q{ro:V Nat}{x0:Cx}{m0:Nm}{w0:Nr}{E:Exit->Act->Nr->Prop}{df:X Deferred}(hQ:∀y tv m w a,y.Y=Y'->St F y tm' tv m w a->bT m0 x0.s w0 m y.s w->Ke n0 x0 y->n0<=y.Y.nx->a.defers=df->E .normal a w):
  ∀(fuel:Nat)(bE:Zu PE)(a:Act)(w:Nr)(m:Nm)(p:Nat)(tm:X U)(tv:X Value)(x:Cx),bE.size=aA.size->bE.toList.count false=fuel->
   Closed aA.toList (fun k=>bE.getD k false=true)->(∀(e:Nat)(r:eM),rs[e]? = some r->r.act=false->r.mv=true->bE.getD e false=true)->N4 tm₀ rs (fun k=>bE.getD k false=true) tm->p<=rs.length-> (∀(e:Nat)(r:eM),rs[e]? = some r->r.act=true->(bE.getD e false=true↔e<p))->x.Y=jU rs Y' p->St F x tm tv m w a->bT m0 x0.s w0 m x.s w->Ke n0 x0 x->n0<=x.Y.nx->a.defers=df->
   wpAnyIn (AD ro) 0 P .any aA E fuel bE a w:=by
 have hn:rs.length=aA.size:=by simpa using j9.len
 intro fuel;induction fuel with
 |zero=>
  intro bE a w m p tm tv x eY Wz iS hqa rH hp pI fH mY aS iH iR m8;have bY:∀k,k<aA.size->bE.getD k false=true:=fun k hk=>by
   have rN:k<bE.size:=by omega
   have:bE[k]≠false:=fun hf=>by
    have hm:false∈bE.toList:=by rw[<-hf];simp
    have:=List.count_pos_iff.2 hm;omega
   have this':bE[k]=true:=by simpa using this
   simp[Array.getD,rN,this']
  have Bp:Region.ready .any aA bE=[]:=by
   apply List.filter_eq_nil_iff.2;intro k hk;simp only[List.mem_range]at hk;have rN:k<bE.size:=by omega
   have:=bY k hk;simp[Array.getD,rN]at this;simp[Array.getD,rN,this]
  refine⟨Bp,?_⟩;have es:jU rs Y' p=Y':=by rw[Hh aA j9 hp (zF _) fun e r h1 h2 h3=>by rcases hb:r.act with _|_;rfl;have:=(pI e r h3 hb).1 (bY e qq0);omega];simp[jU]
  have et:tm=tm':=by
   have h1:=d_ aA j9 dC rs.length (zF _);have e1:vZ rs tm' rs.length=tm':=by simp[vZ]
   rw[e1]at h1;refine qy2 (L:=fun k=>k<rs.length) ⟨rH.len,fun k r d g1 g2 g3 g4=>rH.yes k r d g1 g2 g3 (bY k qq0),fun k r d g1 g2 g3=>?_,rH.other⟩ h1;have:=(zG.1 g1).1;exact absurd this g3
  rw[et]at mY;exact hQ x tv m w a (fH.trans es) mY aS iH iR m8
 |succ fuel ih=>
  intro bE a w m p tm tv x eY Wz iS hqa rH hp pI fH mY aS iH iR m8;have mem_ready:∀i,i∈Region.ready .any aA bE↔i<aA.size/\bE.getD i true=false/\∃o,aA[i]? = some o/\∀e∈o.after.toList,Region.binds .any e=true->bE.getD e.on false=true:=by
   intro i;unfold Region.ready;rw[List.mem_filter,List.mem_range];refine and_congr_right fun hi=>?_;have ho:aA[i]? = some aA[i]:=by simp[hi]
   simp only[ho,zM,Option.getD_some,Bool.and_eq_true,Bool.not_eq_true',Array.all_eq_true_iff_forall_mem,Bool.or_eq_true];refine and_congr_right fun _=>?_;constructor;intro h;refine⟨_,rfl,fun e he hb=>?_⟩;rcases h e (by simpa using he)with h1 |h1
   simp[hb]at h1;exact h1;rintro⟨o,ho',h⟩ e he;cases ho';rcases hb:Region.binds .any e with _|_;exact .inl rfl;exact .inr (h e (by simpa using he) hb)
  refine⟨fun Bx=>?_,fun i hi=>?_⟩;exfalso;have rP:∃i,i<aA.size/\bE.getD i true=false:=by
   have iQ:0<bE.toList.count false:=by omega
   obtain⟨i,hi,e⟩:=List.mem_iff_getElem.1 (List.count_pos_iff.1 iQ);simp at hi;refine⟨i,by omega,?_⟩;simp only[Array.getElem_toList]at e;simp[Array.getD,hi,e]
  have hmin:∀n,n<aA.size->bE.getD n true=false->False:=by
   intro n;induction n using Nat.strongRecOn with
   |_ n ihn=>
    intro hn1 gw;have:n∈Region.ready .any aA bE:=(mem_ready n).2 ⟨hn1,gw,aA[n],by simp[hn1],fun e he hb=>by
     have aE:=th dC (i:=n) (o:=aA[n]) (by simp[hn1]) e he hb;have rN:e.on<bE.size:=by omega
     cases hv:bE[e.on]with|true=>simp[Array.getD,rN,hv]|false=>exact(ihn e.on aE qq0 (by simp[Array.getD,rN,hv])).elim⟩
    rw[Bx]at this;cases this
  obtain⟨i,h1,h2⟩:=rP;exact hmin i h1 h2;obtain⟨hilt,lS,o,ho,Cu⟩:=(mem_ready i).1 hi;have OU:i<bE.size:=by omega
  have bm:¬ bE.getD i false=true:=by simp[Array.getD,OU]at lS ⊢;exact lS
  have BC:aA.toList[i]? = some o:=by simpa using ho
  obtain⟨r,hr,eZ⟩:=XJ aA j9 BC;subst eZ;have I9:∀q,aA.toList[i]? = some q->∀e∈q.after.toList,Region.binds .any e=true->bE.getD e.on false=true:=fun q hq=>by rw[BC]at hq;cases hq;exact Cu
  have Cd:=qtz aA j9 dC iS rH hr bm I9;obtain⟨_,Wo,E9,_⟩:=j9.all i r hr;have Kj:jU rs Y' i=r.s:=by simp[jU,hr]
  have BJ:∀k,((bE.setIfInBounds i true).getD k false=true)↔(bE.getD k false=true\/k=i):=fun k=>by by_cases hk:k=i;subst hk;simp[Array.getD,OU];by_cases xE:k<bE.size;simp[Array.getD,xE,hk,Ne.symm hk];simp[Array.getD,xE,hk]
  have Xa:Closed aA.toList (fun k=>(bE.setIfInBounds i true).getD k false=true):=fun k q hk hq e he hb=>by refine(BJ e.on).2 (.inl ?_);rcases(BJ k).1 hk with hk |rfl;exact iS k q hk hq e he hb;exact I9 q hq e he hb
  have Vm:∀(e:Nat)(r:eM),rs[e]? = some r->r.act=false->r.mv=true->(bE.setIfInBounds i true).getD e false=true:=fun e q h1 h2 h3=>(BJ e).2 (.inl (hqa e q h1 h2 h3));have I6:N4 tm₀ rs (fun k=>(bE.setIfInBounds i true).getD k false=true) (eH tm r.o.dst r.u):=by have:=qs4 aA j9 dC rH hr;exact⟨this.len,fun k q d a b c hL=>this.yes k q d a b c ((BJ k).1 hL),fun k q d a b hL=>this.no k q d a b fun x=>hL ((BJ k).2 x),this.other⟩
  have TZ:(bE.setIfInBounds i true).toList.count false=fuel:=by
   have hv:bE[i]=false:=by simpa[Array.getD,OU]using lS
   rw[Array.toList_setIfInBounds,List.count_set (by simpa using OU)];have P9:Array.count false bE=fuel+1:=by simpa using Wz
   simp[hv];omega
  obtain⟨BA,Uy⟩:=Aa Cd;have stay:r.act=false->∀y dJ aL w₁ bD,y.Y=jU rs Y' p->St F y (eH tm r.o.dst r.u) dJ aL w₁ bD->bT m0 x0.s w0 aL y.s w₁->Ke n0 x0 y->n0<=y.Y.nx->bD.defers=df->wpAnyIn (AD ro) 0 P .any aA E fuel (bE.setIfInBounds i true) bD w₁:=fun hk y dJ aL w₁ bD h1 h2 h3 h4 h5 h6=>by refine ih _ _ _ aL p _ dJ y (by simpa using eY) TZ Xa Vm I6 hp (fun e q hq Bs=>?_) h1 h2 h3 h4 h5 h6;rw[BJ];by_cases hei:e=i;subst hei;rw[hr]at hq;cases hq;rw[hk]at Bs;cases Bs;simp only[hei,or_false];exact pI e q hq Bs
  have past:r.act=true->jU rs Y' p=r.s/\∀y dJ aL w₁ bD,y.Y=r.s'->St F y (eH tm r.o.dst r.u) dJ aL w₁ bD->bT m0 x0.s w0 aL y.s w₁->Ke n0 x0 y->n0<=y.Y.nx->bD.defers=df->wpAnyIn (AD ro) 0 P .any aA E fuel (bE.setIfInBounds i true) bD w₁:=fun hk=>by
   have cJ:p<=i:=by rcases Nat.lt_or_ge i p with h |h;exact absurd ((pI i r hr hk).2 h) bm;exact h
   have hil':i<rs.length:=(zG.1 hr).1;have IP:∀(e:Nat)(q:eM),p<=e->e<i->rs[e]? = some q->q.act=false:=fun e q h1 h2 h3=>by rcases hb:q.act with _|_;rfl;have:=ju dC iS I9 (P7.acts i e r q hr h3 hk hb h2);have:=(pI e q h3 hb).1 this;omega
   refine⟨(Hh aA j9 cJ qq0 IP).trans Kj,fun y dJ aL w₁ bD h1 h2 h3 h4 h5 h6=>?_⟩;refine ih _ _ _ aL (i+1) _ dJ y (by simpa using eY) TZ Xa Vm I6 qq0 (fun e q hq Bs=>?_) (h1.trans E9.symm) h2 h3 h4 h5 h6;rw[BJ];by_cases hei:e=i;subst hei;simp;simp only[hei,or_false];constructor;intro Xh;have:=(pI e q hq Bs).1 Xh;omega;intro aE;exact ju dC iS I9 (P7.acts i e r q hr hq hk Bs qq0)
  unfold wpOpIn;simp only[ho];rw[I_ (mY.act m (aN.refl _ _)) aA r.o];rcases Wo with⟨hw,hu,ha,_⟩|⟨hw,sM,hqu⟩|⟨hw,ha,f,args,U2,jJ⟩|⟨hw,ha,_,TW⟩|⟨ha,hm,_⟩|⟨hw,ha,u1,s1,d,sM,hd,IM,Cn,yZ⟩;rw[H9 mY.e (Uy.trans hw)];simp only[Bool.false_eq_true,if_false];rw[hu]at stay;exact⟨fun _ _=>trivial,stay ha x _ m w _ fH (mY.skip r.o.dst) aS iH iR ((HC _ _ _).trans m8)⟩;rw[H9 mY.e (Uy.trans hw)];simp only[if_true];cases ha:r.act with
  |true=>
   obtain⟨nA,nL⟩:=past ha;have wW:bI T x.Y tm r.o.op=some (r.u,r.s'):=by rw[fH,nA,jw BA];exact sM
   exact wH (RG wW) (mY.op hT r.o wW fun y dJ aL w₁ bD e1 bJ cX eS nB hZ=>nL y dJ aL w₁ bD e1 bJ (aS.trans cX) (iH.trans (eS.le iR)) qq0 (hZ.trans m8))
  |false=>
   have Ki:=hqu ha;have eK:bI T (jU rs Y' p) r.tm r.o.op=some (r.u,jU rs Y' p):=by
    rcases Nat.lt_or_ge i p with hip |hip;by_cases rP:∃(e:Nat)(q:eM),i<e/\e<p/\rs[e]? = some q/\q.act=true;obtain⟨e,q,g1,g2,g3,g5,g6⟩:=z9i rP;have es:jU rs Y' (e+1)=jU rs Y' p:=Hh aA j9 qq0 hp fun e' q' k1 k2 k3=>g6 e' q' qq0 k2 k3
    have eq':jU rs Y' (e+1)=q.s':=(j9.all e q g3).2.2.1;rw[<-es,eq'];rcases P7.hi i e r q hr g3 ha hw sM g5 g1 with k4 |k4 |k4;have Xh:bE.getD e false=true:=(pI e q g3 g5).2 g2;exact absurd (i? dC iS e i Xh k4) bm;rw[k4,sM,Ki];exact k4;have es:jU rs Y' i=jU rs Y' p:=Hh aA j9 qq0 hp fun e q k1 k2 k3=>by
     rcases Nat.lt_or_ge i e with h |h;rcases hb:q.act with _|_;rfl;exact absurd ⟨e,q,h,k2,k3,hb⟩ rP;have:e=i:=by omega
     subst this;rw[hr]at k3;cases k3;exact ha
    rw[<-es,Kj,sM,Ki];by_cases rP:∃(e:Nat)(q:eM),p<=e/\e<i/\rs[e]? = some q/\q.act=true;obtain⟨e,q,g1,g2,g3,g5,g6⟩:=z51 rP;have es:jU rs Y' p=jU rs Y' e:=Hh aA j9 g1 (by have:=(zG.1 g3).1;omega) fun e' q' k1 k2 k3=>g6 e' q' k1 k2 k3;have eq':jU rs Y' e=q.s:=by simp[jU,g3]
    rw[es,eq'];rcases P7.lo i e r q hr g3 ha hw sM g5 g2 with k4 |k4 |k4;have Xh:=ju dC iS I9 k4;have:=(pI e q g3 g5).1 Xh;omega;rw[k4,sM,Ki];exact k4;have es:jU rs Y' p=jU rs Y' i:=Hh aA j9 hip (by have:=(zG.1 hr).1;omega) fun e q k1 k2 k3=>by rcases hb:q.act with _|_;rfl;exact absurd ⟨e,q,k1,k2,k3,hb⟩ rP
    rw[es,Kj,sM,Ki]
   have wW:bI T x.Y tm r.o.op=some (r.u,jU rs Y' p):=by rw[fH,jw BA];exact eK
   exact wH (RG wW) (mY.op hT r.o wW fun y dJ aL w₁ bD e1 bJ cX eS nB hZ=>stay ha y dJ aL w₁ bD e1 bJ (aS.trans cX) (iH.trans (eS.le iR)) qq0 (hZ.trans m8))
  rw[H9 mY.e (Uy.trans hw)];simp only[if_true];obtain⟨nA,nL⟩:=past ha;have hev':aW P f args x.Y (fun u Y=>u=r.u/\Y=r.s'):=by rw[fH,nA];exact jJ
  refine wH (jp ((u? BA).trans U2)) (mY.call hT r.o ((u? BA).trans U2) hev' fun y u dJ aL w₁ bD hR bJ cX eS nB hZ=>?_);obtain⟨rfl,hR2⟩:=hR;exact nL y dJ aL w₁ bD hR2 bJ (aS.trans cX) (iH.trans (eS.le iR)) qq0 (hZ.trans m8);rw[H9 mY.e (Uy.trans hw)];simp only[if_true];exact wH (TW.congr BA).nd (mY.free hT r.o (TW.congr BA) fun y dJ aL w₁ bD e1 bJ cX eS nB hZ=>stay ha y dJ aL w₁ bD (e1.trans fH) bJ (aS.trans cX) (iH.trans (eS.le iR)) qq0 (hZ.trans m8));exact absurd (hqa i r hr ha hm) bm;rw[H9 mY.e (Uy.trans hw)];simp only[if_true];obtain⟨nA,nL⟩:=past ha;have wW:bI T x.Y tm r.o.op=some (u1,s1):=by rw[fH,nA,jw BA];exact sM
  have aQ:tm.length=r.tm.length:=by
   have h1:=(d_ aA j9 dC i (Nat.le_of_lt (zG.1 hr).1)).len;have e1:vZ rs tm' i=r.tm:=by simp[vZ,hr]
   rw[e1]at h1;rw[rH.len,h1]
  exact wH (RG wW) (mY.opfz hT r.o wW hd (by rw[aQ];exact IM) Cn yZ fun y dJ aL w₁ bD e1 bJ cX eS nB hZ=>nL y dJ aL w₁ bD e1 bJ (aS.trans cX) (iH.trans (eS.le iR)) qq0 (hZ.trans m8))
end
end Go.Vx
namespace Go.Vx
open Go Go.Rx
def RD(P:DC)(T:Tb)(aA:X Oper):X Oper->X U->Sg->(X eM->X U->Sg->Prop)->Prop
 |[],tm,Y,K=>K [] tm Y|o::r,tm,Y,K=>(c8 aA tm o=some true/\∃u,bI T Y tm o.op=some (u,Y)/\RD P T aA r (eH tm o.dst u) Y (fun rs=>K (⟨tm,o,u,false,false,Y,Y⟩::rs)))\/ (c8 aA tm o=some true/\∃u Y',bI T Y tm o.op=some (u,Y')/\RD P T aA r (eH tm o.dst u) Y' (fun rs=>K (⟨tm,o,u,true,true,Y,Y'⟩::rs)))\/ (c8 aA tm o=some true/\∃f args u,jO T tm o.op=some (f,args)/\aW P f args Y (fun u' Y'=>u'=u/\Y'=Y)/\RD P T aA r (eH tm o.dst u) Y (fun rs=>K (⟨tm,o,u,true,false,Y,Y⟩::rs)))\/ (c8 aA tm o=some true/\∃f args u Y',jO T tm o.op=some (f,args)/\aW P f args Y (fun u' s'=>u'=u/\s'=Y')/\RD P T aA r (eH tm o.dst u) Y' (fun rs=>K (⟨tm,o,u,true,true,Y,Y'⟩::rs)))\/ (c8 aA tm o=some false/\RD P T aA r (eH tm o.dst (.tup [])) Y (fun rs=>K (⟨tm,o,.tup [],false,false,Y,Y⟩::rs)))\/ (c8 aA tm o=some true/\∃u,sX P T tm o.op u/\RD P T aA r (eH tm o.dst u) Y (fun rs=>K (⟨tm,o,u,false,false,Y,Y⟩::rs)))\/ (c8 aA tm o=some true/\∃u1 s1 d u Y',bI T Y tm o.op=some (u1,s1)/\o.dst=some d/\d<tm.length/\Gh s1.nx [u1] s1 [u] Y'/\s1.nx<=Y'.nx/\RD P T aA r (eH tm o.dst u) Y' (fun rs=>K (⟨tm,o,u,true,true,Y,Y'⟩::rs)))
def QX{P:DC}{T:Tb}{aA:X Oper}:∀(rest:X Oper)(tm:X U)(Y:Sg)(K:X eM->X U->Sg->Prop),RD P T aA rest tm Y K->
  ∃rs tm' Y',K rs tm' Y'/\rs.length=rest.length/\jU rs Y' 0=Y/\vZ rs tm' 0=tm/\
   ∀(i:Nat)(r:eM),rs[i]? = some r->rest[i]? = some r.o/\Good P T aA r/\jU rs Y' (i+1)=r.s'/\vZ rs tm' (i+1)=eH r.tm r.o.dst r.u/\(r.mv=false->r.s'=r.s)/\(r.mv=true->r.act=true)
 |[],tm,Y,K,h=>⟨[],tm,Y,h,rfl,rfl,rfl,fun i r hr=>by simp at hr⟩|o::rest,tm,Y,K,h=>by
  have step:∀(u:U)(ac mv:PE)(Y1:Sg),RD P T aA rest (eH tm o.dst u) Y1 (fun rs=>K (⟨tm,o,u,ac,mv,Y,Y1⟩::rs))->Good P T aA ⟨tm,o,u,ac,mv,Y,Y1⟩->(mv=false->Y1=Y)->(mv=true->ac=true)->
    ∃rs tm' Y',K rs tm' Y'/\rs.length=(o::rest).length/\jU rs Y' 0=Y/\vZ rs tm' 0=tm/\
     ∀(i:Nat)(r:eM),rs[i]? = some r->(o::rest)[i]? = some r.o/\Good P T aA r/\jU rs Y' (i+1)=r.s'/\vZ rs tm' (i+1)=eH r.tm r.o.dst r.u/\(r.mv=false->r.s'=r.s)/\(r.mv=true->r.act=true):=by
   intro u ac mv Y1 h hg h1 h2;obtain⟨rs,tm',Y',g1,g2,g3,g4,g5⟩:=QX rest _ _ _ h;refine⟨_,tm',Y',g1,by simp[g2],rfl,rfl,fun i r hr=>?_⟩;cases i with
   |zero=>simp at hr;subst hr;refine⟨rfl,hg,?_,?_,h1,h2⟩;simp only[jU,zH];exact g3;simp only[vZ,zH];exact g4|succ i=>simp only[zH]at hr;obtain⟨k1,k2,k3,k4,k5⟩:=g5 i r hr;refine⟨by simpa using k1,k2,?_,?_,k5⟩;simp only[jU,zH];exact k3;simp only[vZ,zH];exact k4
  simp only[RD]at h;rcases h with⟨hw,u,h1,h2⟩|⟨hw,u,Y1,h1,h2⟩|⟨hw,f,args,u,h1,h2,h3⟩|⟨hw,f,args,u,Y1,h1,h2,h3⟩|⟨hw,h1⟩|⟨hw,u,h1,h3⟩|⟨hw,u1,s1,d,u,Y1,h1,h2,h3,h4,h5,h6⟩;exact step u false false Y h2 (.inr (.inl ⟨hw,h1,fun _=>rfl⟩)) (fun _=>rfl) qq4;exact step u true true Y1 h2 (.inr (.inl ⟨hw,h1,by simp⟩)) qq4 qq4;exact step u true false Y h3 (.inr (.inr (.inl ⟨hw,rfl,f,args,h1,h2⟩))) (fun _=>rfl) qq4;exact step u true true Y1 h3 (.inr (.inr (.inl ⟨hw,rfl,f,args,h1,h2⟩))) qq4 qq4;exact step _ false false Y h1 (.inl ⟨hw,rfl,rfl,rfl⟩) (fun _=>rfl) qq4;exact step u false false Y h3 (.inr (.inr (.inr (.inl ⟨hw,rfl,rfl,h1⟩)))) (fun _=>rfl) qq4;exact step u true true Y1 h6 (.inr (.inr (.inr (.inr (.inr ⟨hw,rfl,u1,s1,d,h1,h2,h3,h4,h5⟩))))) qq4 qq4
section
variable{C:PG}{T:Tb}(hT:j0 C.prog T){n0:Nat}{Q:Exit->X U->Sg->Prop}{tm:X U}{Y:Sg}
include hT
def WPU.drawn{id:Nat}{aA:Zu Oper}(dC:YP aA.toList=true){rs:X eM}{tm':X U}{Y':Sg}(j9:ct C.prog T aA.toList tm Y rs tm' Y')(P7:ChU T aA.toList rs)(hmv:∀(i:Nat)(r:eM),rs[i]? = some r->r.mv=true->r.act=true)(hQ:Q .normal tm' Y'):WPU C n0 (.region id aA true) tm Y Q:=fun hn F x tv m w a b0 hx st hG hd ro eZ=>by
 refine wpIn_region_any hT.mixed ?_;have eT:∀k,(Array.replicate aA.size false).getD k false=false:=fun k=>by by_cases hk:k<aA.size<;>simp[Array.getD,hk]
 have vP:=bT.draw (w.drawn+1) st.fits;refine z8q (ro:=ro) hT aA j9 dC P7 (n0:=n0) (F:=F) (x0:=x) (m0:=m) (w0:=w) (df:=a.defers) (fun y dJ m' w' a' h1 h2 h3 h4 h5 h6=>⟨y,tm',dJ,m',h1 ▸ hQ,h2,h3,h4,h5,by rw[h6];exact hd.adv st.fits h3⟩) aA.size (Array.replicate aA.size false) a _ m 0 tm tv x qq4 qq4 ?_ (fun e r h1 h2 h3=>by have:=hmv e r h1 h3;rw[h2]at this;cases this) ?_ (Nat.zero_le _) ?_ ?_ ?_ ?_ (Ke.refl _ _) (hx ▸ hn) rfl;intro k q hk;rw[eT]at hk;cases hk;have:=qns (rs:=rs) (tm₀:=tm);exact⟨this.len,fun k r d _ _ _ hL=>(by rw[eT]at hL;cases hL),fun k r d g1 g2 _=>this.no k r d g1 g2 (fun x=>x),this.other⟩;intro e r _ _;rw[eT];simp;rw[j9.s0];exact hx;exact⟨st.h,st.fr,st.e,(bT.draw _ st.fits).fits,st.act⟩;exact bT.draw _ st.fits
end
section
variable{K:X U->Sg->Prop}{Q:Exit->X U->Sg->Prop}{tm:X U}{Y:Sg}{i j:Nat}
def Uo(h:Q .normal tm Y):uD i Q (.exit i) tm Y:=by simp only[uD,if_true];exact h
def Un(nZ:¬ j=i)(h:Q (.exit j) tm Y):uD i Q (.exit j) tm Y:=by simp only[uD,nZ,if_false];exact h
end
variable{C:PG}
variable{T:Tb}
variable{aA:X Oper}
variable{r:X Oper}
variable{o:Oper}
variable{tm:X U}
variable{Y:Sg}
variable{f:FuncId}
variable{args:X U}
def RU.call{K:X U->Sg->Prop}{R:U->Sg->Prop}(hw:c8 aA tm o=some true)(hc:jO T tm o.op=some (f,args))(jJ:aW C.prog f args Y R)
  (h:∀u Y',R u Y'->RU C T aA r (eH tm o.dst u) Y' K):RU C T aA (o::r) tm Y K:=.inr (.inl ⟨hw,f,args,R,hc,jJ,h⟩)
def WPU.loopG{n0:Nat}{Q:Exit->X U->Sg->Prop}{c:Code}(v09:Nat->X U->Sg->Prop)(n:Nat)(h₀:v09 n tm Y)
  (round:∀n tm Y,v09 n tm Y->WPU C n0 c tm Y (yF (fun tm' Y'=>∃n' eV aU,n'<n/\v09 n' eV aU/\n0<=aU.nx/\Gh n0 tm' Y' eV aU) Q)):WPU C n0 (.loop c) tm Y Q:=by
 refine WPU.loop v09 n h₀ fun n tm Y hI=>?_;refine WPU.after (round n tm Y hI) ?_;intro e dv Y1 hn h;cases e with
 |normal=>obtain⟨n',eV,aU,h1,h2,h3,h4⟩:=h;exact⟨eV,aU,h3,h4,n',h1,h2⟩
 |_=>exact⟨dv,Y1,hn,Gh.refl _ _ _,h⟩
def Gh.to{n0 n1:Nat}{tm':X U}{Y':Sg}(mask:X PE)(ht:GW mask tm=tm')(hs:(⟨Vx.cut n1 Y.h,n1⟩:Sg)=Y')(h1:n0<=n1)(h2:n1<=Y.nx)(hb:aG n1 tm')(hh:F5 n1 Y'.h):Gh n0 tm Y tm' Y':=by subst ht;subst hs;exact(Gh.junk n0 mask tm Y).trans (Gh.cut h1 h2 hb hh)
def sJ{v12:Type}{n:Nat}(f:v12->X U)(h:∀x,aG n (f x))(l:X v12):kJ n (l.map f):=by rw[Hu];intro c hc;obtain⟨x,_,rfl⟩:=List.mem_map.1 hc;exact h x
def RF(P:DC)(T:Tb)(aA rest:X Oper)(tm:X U)(Y:Sg)(fl:X (PE×PE))(K:X (PE×PE)->X U->Sg->Prop):Prop :=
 RD P T aA rest tm Y (fun rs tm' Y'=>K (fl++rs.map fun r=>(r.act,r.mv)) tm' Y')
def RF.eq(P:DC)(T:Tb)(aA:X Oper){f g:X eM->X U->Sg->Prop}(h:f=g){rest:X Oper}(hr:RD P T aA rest tm Y f):RD P T aA rest tm Y g:=h ▸ hr
def z54{K:X (PE×PE)->X U->Sg->Prop}(fl:X (PE×PE))(r:eM)(a b:PE)(h1:r.act=a)(h2:r.mv=b):
  (fun(rs:X eM) (tm:X U) (Y:Sg)=>K (fl++[(a,b)]++rs.map fun r=>(r.act,r.mv)) tm Y)=(fun rs=>(fun(rs:X eM) tm Y=>K (fl++rs.map fun r=>(r.act,r.mv)) tm Y) (r::rs)):=by subst h1;subst h2;funext rs tm Y;simp
variable{u:U}
def RF.call{P:DC}{fl:X (PE×PE)}{K:X (PE×PE)->X U->Sg->Prop}(hw:c8 aA tm o=some true)(hc:jO T tm o.op=some (f,args))(jJ:aW P f args Y (fun u' Y'=>u'=u/\Y'=Y))
  (h:RF P T aA r (eH tm o.dst u) Y (fl++[(true,false)]) K):RF P T aA (o::r) tm Y fl K:=by simp only[RF,RD];exact .inr (.inr (.inl ⟨hw,f,args,u,hc,jJ,RF.eq P T aA (z54 fl _ true false rfl rfl) h⟩))
def RU.pcall{K:X U->Sg->Prop}(hw:c8 aA tm o=some true)(hc:jO T tm o.op=some (f,args))(jJ:aW C.prog f args Y (fun u' Y'=>u'=u/\Y'=Y))
  (h:RU C T aA r (eH tm o.dst u) Y K):RU C T aA (o::r) tm Y K:=RU.call hw hc jJ (fun u' Y' ⟨h1,h2⟩=>by subst h1;subst h2;exact h)
def aW.pure1{P:DC}(h:aW P f args ⟨[],0⟩ (fun u' _=>u'=u/\aT 0 u'))(ha:aG 0 args)(Y:Sg):aW P f args Y (fun u' Y'=>u'=u/\Y'=Y):=aW.pure h ha Y
end Go.Vx
