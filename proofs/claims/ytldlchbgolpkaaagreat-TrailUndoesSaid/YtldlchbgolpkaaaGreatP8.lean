import GoSem.ClaimChange
import Derived.Test.YtldlchbgolpkaaaGreatP7
set_option linter.all false
namespace Go.Vx
open Go Go.Rx
mutual
def Rep(W:World):U->Value->Prop
 |.bool b,v=>v=.bool b|.int k n,v=>v=.int k n
 |.str l,v=>v=.string ⟨⟨l⟩⟩|.isl t l,v=>t=false/\((l=[]/\(v=.slice none 0 0\/∃b off p,v=.slice (some ⟨b,off,some p⟩) 0 0))\/∃b off c,v=.slice (some ⟨b,off,none⟩) l.length c/\c<bX/\l.length<=c/\
   (l=[]\/∃cs e fr sz,W.heap[b]? = some (.cells cs e fr)/\NM W sz l (cs.toList.drop off)))
 |.agg l,v=>∃vs,v=.agg ⟨vs⟩/\nP W l vs/\l.length=vs.length/\okL l=true|_,_=>False
def nP(W:World):List U->List Value->Prop
 |[],_=>True|u::us,vs=>match vs with
  |[]=>False|v::vs=>Rep W u v/\nP W us vs
def NM(W:World)(sz:Nat):List (List U)->List Value->Prop
 |[],_=>True|c::cs,vs=>c.length=sz/\okL c=true/\nP W c vs/\NM W sz cs (vs.drop sz)
end
def cx(s:S):Cx:=⟨fun _=>none,⟨[],0⟩,s⟩
def Lj(s:S):Prop:=∀i b,lk s.h i=some b->Own b=false
structure Grow(m:Nm)(s:S)(m':Nm)(s':S):Prop where
 agree:aM s.nx m m'
 nx:s.nx<=s'.nx
 rows:∀i b,lk s.h i=some b->lk s'.h i=some b
theorem Grow.refl(m:Nm)(s:S):Grow m s m s:=⟨aM.refl _ _,zF _,fun _ _ h=>h⟩
theorem Grow.trans{m m' m'':Nm}{s s' s'':S}(h:Grow m s m' s')(h':Grow m' s' m'' s''):Grow m s m'' s'':=⟨h.agree.trans h'.agree h.nx,Nat.le_trans h.nx h'.nx,fun i b hb=>h'.rows i b (h.rows i b hb)⟩
variable{m:Nm}
variable{m':Nm}
variable{s:S}
variable{s':S}
theorem Grow.mo(h:Grow m s m' s'):Mo 0 (cx s) (cx s'):=⟨fun k hk=>by omega,fun i row e hl=>h.rows i _ hl⟩
theorem Grow.rel(h:Grow m s m' s'){u:U}{v:Value}(hr:aD (cx s) u v):aD (cx s') u v:=h.mo.ke u v (aD.bel _ _ hr) hr
theorem Grow.relE(h:Grow m s m' s'){l:List U}{vs:List Value}(hr:bF (cx s) l vs):bF (cx s') l vs:=h.mo.ke.E hr.bel hr
theorem qz8(m:Nm)(n:Nat):nQ m n [] []:=fun _ _=>by simp[aJ]
theorem z56{n:Nat}{v cv:Value}{vs mY:List Value}(h:eZ m n v cv)(h':nQ m n vs mY):nQ m n (v::vs) (cv::mY):=fun m' ha=>by simp[aJ,h m' ha,h' m' ha]
theorem qnp{x:Cx}{sz:Nat}:∀{l:List (List U)}{vs:List Value},bF x l.flatten vs->(∀c∈l,c.length=sz/\okL c=true)->iO x sz l vs
 |[],vs,h,hs=>by simp[iO]
 |c::l,vs,h,hs=>by obtain⟨h1,h2⟩:=hs c (by simp);simp only[iO];rw[List.flatten_cons]at h;refine⟨h1,h2,?_,qnp (by have:=h.drop sz;rwa [List.drop_append_of_le_length (by omega),List.drop_of_length_le (by omega),List.nil_append]at this) fun d hd=>hs d (by simp[hd])⟩;rw[J7];intro i u hu;have aE:i<c.length:=(zG.1 hu).1;exact h.get (by rw[List.getElem?_append_left aE];exact hu)
theorem qza{W:World}{sz:Nat}:∀{l:List (List U)}{vs:List Value},NM W sz l vs->∀c∈l,c.length=sz/\okL c=true
 |[],vs,h=>by simp
 |d::l,vs,h=>fun c hc=>by simp only[NM]at h;rcases zI.1 hc with rfl |hc;exact⟨h.1,h.2.1⟩;exact qza h.2.2.2 c hc
def Got(W:World)(m:Nm)(s:S)(u:U)(cv:Value):Prop:=∃m' s' v,Grow m s m' s'/\i4 m' s' W/\Lj s'/\(∀i b,lk s'.h i=some b->i<s'.nx)/\eZ m' s'.nx v cv/\aD (cx s') u v
def qi(W:World)(m:Nm)(s:S)(us:List U)(mY:List Value):Prop:=∃m' s' vs,Grow m s m' s'/\i4 m' s' W/\Lj s'/\(∀i b,lk s'.h i=some b->i<s'.nx)/\nQ m' s'.nx vs mY/\bF (cx s') us vs
mutual
theorem XJ{W:World}:(u:U)->(cv:Value)->Rep W u cv->∀m s,i4 m s W->Lj s->(∀i b,lk s.h i=some b->i<s.nx)->Got W m s u cv
 |.bool b,cv,h,m,s,hf,hn,gO=>by simp only[Rep]at h;subst h;exact⟨m,s,.bool b,Grow.refl _ _,hf,hn,gO,BR fun _=>by simp[aI],by simp[aD]⟩
 |.int k n,cv,h,m,s,hf,hn,gO=>by simp only[Rep]at h;subst h;exact⟨m,s,.int k n,Grow.refl _ _,hf,hn,gO,BR fun _=>by simp[aI],by simp[aD]⟩
 |.str l,cv,h,m,s,hf,hn,gO=>by simp only[Rep]at h;subst h;exact⟨m,s,_,Grow.refl _ _,hf,hn,gO,BR fun _=>by simp[aI],by simp[aD]⟩
 |.agg l,cv,h,m,s,hf,hn,gO=>by simp only[Rep]at h;obtain⟨mY,rfl,h1,h2,h3⟩:=h;obtain⟨m',s',vs,g1,g2,g3,g4,g5,g6⟩:=wv l mY h1 m s hf hn gO;rw[h2,List.take_length]at g5;exact⟨m',s',.agg ⟨vs⟩,g1,g2,g3,g4,fun m'' ha=>by simp[aI,g5 m'' ha],by simp only[aD];exact⟨vs,rfl,g6.1,g6.2,h3⟩⟩
 |.isl t l,cv,h,m,s,hf,hn,gO=>by
  simp only[Rep]at h;obtain⟨rfl,h⟩:=h;rcases h with⟨rfl,rfl |⟨b,off,p,rfl⟩⟩|⟨b,off,c,rfl,hc,gi,h⟩;exact⟨m,s,.slice none 0 0,Grow.refl _ _,hf,hn,gO,BR fun _=>by simp[aI],by simp[aD]⟩;refine⟨m.set s.nx b off p,⟨s.h,s.nx+1⟩,.chan (some s.nx),⟨Nm.agree_set _ _ _ _ _,Nat.le_succ _,fun _ _ h=>h⟩,(bP.ghost hf b off p).fits,hn,fun i b hb=>Nat.lt_succ_of_lt (gO i b hb),fun m' ha=>?_,by simp[aD]⟩;obtain⟨q1,q2,q3⟩:=ha s.nx (zN _);simp[aI,q1,q2,q3,Nm.set];by_cases hl:l=[];subst hl;refine⟨m.set s.nx b off 0,⟨s.h,s.nx+1⟩,.slice (some ⟨s.nx,0,none⟩) 0 c,⟨Nm.agree_set _ _ _ _ _,Nat.le_succ _,fun _ _ h=>h⟩,(bP.ghost hf b off 0).fits,hn,fun i b hb=>Nat.lt_succ_of_lt (gO i b hb),fun m' ha=>?_,?_⟩;obtain⟨q1,q2,_⟩:=ha s.nx (zN _);simp[aI,q1,q2,Nm.set,bW,hc];simp only[aD];exact .inr ⟨s.nx,0,c,rfl,by simp,.inl trivial⟩;rcases h with h |⟨cs,e,fr,sz,hw,hr⟩;exact absurd h hl;obtain⟨m',s',vs,g1,g2,g3,g4,g5,g6⟩:=z5d l _ hr m s hf hn gO;have cP:=qza hr;have i7:∀m'',aM (s'.nx+1) (m'.set s'.nx b off 0) m''->aM s'.nx m' m'':=fun m'' ha=>(Nm.agree_set m' s'.nx b off 0).trans ha (Nat.le_succ _)
  have oU:∀m'',aM (s'.nx+1) (m'.set s'.nx b off 0) m''->m''.blk s'.nx=b/\m''.sh s'.nx=off:=fun m'' ha=>by obtain⟨q1,q2,_⟩:=ha s'.nx (zN _);simp[Nm.set]at q1 q2;exact⟨q1,q2⟩
  refine⟨m'.set s'.nx b off 0,⟨(s'.nx,.inl (vs,0,1))::s'.h,s'.nx+1⟩,.slice (some ⟨s'.nx,0,none⟩) l.length c,g1.trans ⟨Nm.agree_set _ _ _ _ _,Nat.le_succ _,fun i b hb=>?_⟩,fun m'' ha=>⟨fun i d hd=>?_,fun i j d d' hd bG lS ho=>?_,fun i d hd=>?_⟩,fun i d hd=>?_,fun i d hd=>?_,fun m'' ha=>?_,?_⟩;have:=g4 i b hb;simp[mS,show s'.nx≠i by omega,hb];simp only[mS]at hd;split at hd;rename_i e;subst e;cases hd;obtain⟨q1,q2⟩:=oU m'' ha;refine⟨cs,e,fr,by rw[q1];exact hw,fun k v hk=>?_,fun n hn=>absurd hn (by simp)⟩;have:=congrArg (fun z=>z[k]?) (g5 m'' (i7 m'' ha));simp only[mR,List.getElem?_map,hk,zM,List.getElem?_take,List.getElem?_drop]at this;split at this;rw[q2];simpa using this.symm;cases this;exact(g2 m'' (i7 m'' ha)).ok i d hd;simp only[mS]at hd bG;split at hd;cases hd;simp[Own]at ho;rw[g3 i d hd]at ho;cases ho;simp only[mS]at hd;split at hd;show i<s'.nx+1;omega;exact Nat.lt_succ_of_lt (g4 i d hd);simp only[mS]at hd;split at hd;cases hd;rfl;exact g3 i d hd;simp only[mS]at hd;split at hd;show i<s'.nx+1;omega;exact Nat.lt_succ_of_lt (g4 i d hd);obtain⟨q1,q2⟩:=oU m'' ha;simp[aI,q1,q2,bW,hc];have hg:Grow m' s' (m'.set s'.nx b off 0) ⟨(s'.nx,.inl (vs,0,1))::s'.h,s'.nx+1⟩:=⟨Nm.agree_set _ _ _ _ _,Nat.le_succ _,fun i b hb=>by have:=g4 i b hb;simp[mS,show s'.nx≠i by omega,hb]⟩;simp only[aD];exact .inr ⟨s'.nx,0,c,rfl,by simp,.inr ⟨vs,0,sz,by simp[cx,mS],qnp (hg.relE g6) cP,.inl ⟨hc,gi⟩⟩⟩
 |.junk,cv,h,m,s,hf,hn,gO=>by simp[Rep]at h
 |.nilp,cv,h,m,s,hf,hn,gO=>by simp[Rep]at h
 |.ptr _ _ _,cv,h,m,s,hf,hn,gO=>by simp[Rep]at h
 |.iptr _,cv,h,m,s,hf,hn,gO=>by simp[Rep]at h
 |.nils,cv,h,m,s,hf,hn,gO=>by simp[Rep]at h
 |.sl _ _ _ _,cv,h,m,s,hf,hn,gO=>by simp[Rep]at h
 |.vl _ _ _ _,cv,h,m,s,hf,hn,gO=>by simp[Rep]at h
 |.nilm,cv,h,m,s,hf,hn,gO=>by simp[Rep]at h
 |.map _,cv,h,m,s,hf,hn,gO=>by simp[Rep]at h
 |.fn _ _ _,cv,h,m,s,hf,hn,gO=>by simp[Rep]at h
 |.nilf,cv,h,m,s,hf,hn,gO=>by simp[Rep]at h
 |.nili,cv,h,m,s,hf,hn,gO=>by simp[Rep]at h
 |.tup _,cv,h,m,s,hf,hn,gO=>by simp[Rep]at h
theorem wv{W:World}:(us:List U)->(mY:List Value)->nP W us mY->∀m s,i4 m s W->Lj s->(∀i b,lk s.h i=some b->i<s.nx)->qi W m s us (mY.take us.length)
 |[],mY,h,m,s,hf,hn,gO=>⟨m,s,[],Grow.refl _ _,hf,hn,gO,by simpa using qz8 m s.nx,bF.nil _⟩|u::us,[],h,m,s,hf,hn,gO=>by simp[nP]at h
 |u::us,cv::mY,h,m,s,hf,hn,gO=>by simp only[nP]at h;obtain⟨m',s',v,g1,g2,g3,g4,g5,g6⟩:=XJ u cv h.1 m s hf hn gO;obtain⟨m'',s'',vs,k1,k2,k3,k4,k5,k6⟩:=wv us mY h.2 m' s' g2 g3 g4;exact⟨m'',s'',v::vs,g1.trans k1,k2,k3,k4,by simpa using z56 (g5.ext k1.agree k1.nx) k5,bF.cons (k1.rel g6) k6⟩
theorem z5d{W:World}{sz:Nat}:(l:List (List U))->(mY:List Value)->NM W sz l mY->∀m s,i4 m s W->Lj s->(∀i b,lk s.h i=some b->i<s.nx)->qi W m s l.flatten (mY.take (l.length*sz))
 |[],mY,h,m,s,hf,hn,gO=>⟨m,s,[],Grow.refl _ _,hf,hn,gO,by simpa using qz8 m s.nx,bF.nil _⟩|c::l,mY,h,m,s,hf,hn,gO=>by
  simp only[NM]at h;obtain⟨m',s',v,g1,g2,g3,g4,g5,g6⟩:=wv c mY h.2.2.1 m s hf hn gO;obtain⟨m'',s'',vs,k1,k2,k3,k4,k5,k6⟩:=z5d l _ h.2.2.2 m' s' g2 g3 g4;refine⟨m'',s'',v++vs,g1.trans k1,k2,k3,k4,?_,by rw[List.flatten_cons];exact(k1.relE g6).append k6⟩;have e:mY.take ((c::l).length*sz)=mY.take c.length++(mY.drop sz).take (l.length*sz):=by rw[zO,Nat.succ_mul,Nat.add_comm,List.take_add,h.1]
  rw[e];exact(g5.ext k1.agree k1.nx).append k5
end
theorem law_calls{P:Program}{f:FuncId}{us:List U}{W:World}{args:List Value}(h:bE P f us ⟨[],0⟩ (fun u _=>u=.bool true))(hr:nP W us args)(hl:us.length=args.length):
  Calls P f args.toArray W fun e w'=>e=.returned (.bool true)/\RowKit.Below W.heap.size W w':=by
 have h0:i4 ⟨id,id,id⟩ ⟨[],0⟩ W:=fun m' _=>⟨fun i b hb=>by simp[lk]at hb,fun i j b c hb=>by simp[lk]at hb,fun i b hb=>by simp[lk]at hb⟩;obtain⟨m,s,vs,g1,g2,g3,g4,g5,g6⟩:=wv us args hr ⟨id,id,id⟩ ⟨[],0⟩ h0 (fun i b hb=>by simp[lk]at hb) (fun i b hb=>by simp[lk]at hb);rw[hl,List.take_length]at g5;refine(h (fun _ _=>False) (cx s) vs m W args rfl ⟨fun k b hb=>by simp[cx,gt]at hb,fun k k' b b' i hb=>by simp[cx,gt]at hb,g4⟩ (fun _ _ J=>J.elim) g6 g2 g5).mono ?_;rintro e w' ⟨y,aH,u,v,cv,rfl,rfl,aT,gU,_,_,DH,_,_⟩;simp only[aD]at DH;subst DH;have:=gU.at;simp only[aI]at this;exact⟨by rw[<-this],aT.below fun b ⟨i,c,hc,ho,_⟩=>by rw[g3 i c hc]at ho;cases ho⟩
def OfTy(P:Program):Nat->TypeId->List U->Prop
 |0,_,_=>False|n+1,t,us=>match P.underlying t with
  |some .bool=>∃b,us=[.bool b]|some (.int k)=>∃i,us=[.int k i]/\(Lit.int k i).wf=true
  |some .string=>∃s,us=[.str s]/\s.length<=maxLen|some (.slice e)=>∃l,us=[.isl false l]/\l.length<=maxLen/\∀c∈l,OfTy P n e c
  |some (.struct fs)=>us.length=P.cellsOf t/\∀f∈fs.toList,OfTy P n f.type ((us.drop f.offset).take (P.cellsOf f.type))|some (.array k e)=>us.length=P.cellsOf t/\∀i,i<k->OfTy P n e ((us.drop (i*P.cellsOf e)).take (P.cellsOf e))
  |_=>False
end Go.Vx
namespace Go.Vx
open Go Go.Rx
variable{tm:List U}
variable{tm':List U}
theorem oj{l:List Operand}(h:∀t∈tmpsOf l,tm[t]? = tm'[t]?){x:Operand}(hx:x∈l):c8 tm x=c8 tm' x:=by
 cases x with|tmp t=>simp only[c8,iZ];exact h t (z0h hx)|_=>rfl
theorem Rg{l:List Operand}(h:∀x∈l,c8 tm x=c8 tm' x):mB tm l=mB tm' l:=by
 induction l with|nil=>rfl|cons x l ih=>simp only[mB];rw[h x (by simp),ih fun y hy=>h y (by simp[hy])]
theorem qnd{l:List (Nat×Operand)}(h:∀x∈l.map (·.2),c8 tm x=c8 tm' x):AS tm l=AS tm' l:=by
 induction l with|nil=>rfl|cons x l ih=>obtain⟨i,x⟩:=x;simp only[AS];rw[h x (by simp),ih fun y hy=>h y (by simp only[zQ,zI];exact .inr hy)]
theorem rf{x:Option Operand}(h:∀y,x=some y->c8 tm y=c8 tm' y):xS tm x=xS tm' x:=by
 rcases x with _|y;rfl;simp only[xS];rw[h y rfl]
section
variable{T:Tb}{tm tm':List U}{X:Sg}{op:Op}
theorem qx3(h:∀x∈op.operands.toList,c8 tm x=c8 tm' x):gG T X tm op=gG T X tm' op:=by
 cases op<;>simp only[Op.operands]at h<;>try rfl
 case move x=>simp only[gG];exact h x (by simp)
 case assign x=>simp only[gG];exact h x (by simp)
 case pick c a b=>simp only[gG];rw[h c (by simp),h a (by simp),h b (by simp)]
 case build t ps=>simp only[gG];rw[qnd (by simpa using h)]
 case nilCheck x=>simp only[gG];rw[h x (by simp)]
 case binOp o t x y ty=>simp only[gG];rw[h x (by simp),h y (by simp)]
 case unOp o t x=>simp only[gG];rw[h x (by simp)]
 case convert a b x=>simp only[gG];rw[h x (by simp)]
 case makeFunc f a b=>simp only[gG];rw[Rg fun x hx=>h x (by simp at hx ⊢;exact .inl hx),Rg fun x hx=>h x (by simp at hx ⊢;exact .inr hx)]
 case slice t x lo hi mx=>simp only[gG];rw[h x (by simp),rf (x:=lo) fun y hy=>h y (by subst hy;simp),rf (x:=hi) fun y hy=>h y (by subst hy;simp),rf (x:=mx) fun y hy=>h y (by subst hy;simp)]
 case fieldAddr t x f=>simp only[gG];rw[h x (by simp)]
 case field t x f=>simp only[gG];rw[h x (by simp)]
 case indexAddr t x i=>simp only[gG];rw[h x (by simp),h i (by simp)]
 case index t x i=>simp only[gG];rw[h x (by simp),h i (by simp)]
 case extract x i=>simp only[gG];rw[h x (by simp)]
 case call c=>simp only[gG];rw[Rg (l:=c.args.toList) fun x hx=>h x (by simp[Call.operands]at hx ⊢;exact .inr hx)]
theorem qx5(h:∀x∈op.operands.toList,c8 tm x=c8 tm' x):nC T X tm op=nC T X tm' op:=by
 cases op<;>simp only[Op.operands]at h<;>try rfl
 case load t x=>simp only[nC];rw[h x (by simp)]
 case lookup t x k ok=>simp only[nC];rw[h x (by simp),h k (by simp)]
theorem z06(h:∀x∈op.operands.toList,c8 tm x=c8 tm' x):nO T X tm op=nO T X tm' op:=by
 cases op<;>simp only[Op.operands]at h<;>try rfl
 case box t x=>simp only[nO];rw[h x (by simp)]
 case store t x y=>simp only[nO];rw[h x (by simp),h y (by simp)]
 case buildSlice t n ps=>simp only[nO];rw[qnd (by simpa using h)]
 case makeSlice t x y=>simp only[nO];rw[h x (by simp),h y (by simp)]
 case makeMap t r=>cases r<;>rfl
 case mapUpdate t x y z=>simp only[nO];rw[h x (by simp),h y (by simp),h z (by simp)]
 case insert t x y z=>simp only[nO];rw[h x (by simp),h y (by simp),h z (by simp)]
 case mapEntry t x y=>simp only[nO];rw[h x (by simp),h y (by simp)]
 case entryStore t x y z=>simp only[nO];rw[h x (by simp),h y (by simp),h z (by simp)]
 case call c=>simp only[nO];rw[Rg (l:=c.args.toList) fun x hx=>h x (by simp[Call.operands]at hx ⊢;exact .inr hx)]
theorem kw(h:∀x∈op.operands.toList,c8 tm x=c8 tm' x):k8 T tm op=k8 T tm' op:=by
 cases op<;>simp only[Op.operands]at h<;>try rfl
 case call c=>
  simp only[k8];rw[Rg (l:=c.args.toList) fun x hx=>h x (by simp[Call.operands]at hx ⊢;exact .inr hx)];cases hc:c.callee with
  |value f=>simp only[];rw[h f (by simp[Call.operands,hc])]|_=>rfl
theorem YL(h:∀x∈op.operands.toList,c8 tm x=c8 tm' x):bM T X tm op=bM T X tm' op:=by
 unfold bM;rw[qx3 h,qx5 h,z06 h]
end
theorem z9p{a9:List Oper}{o:Oper}(h:∀t∈OC a9 o,tm[t]? = tm'[t]?):(∀x∈o.op.operands.toList,c8 tm x=c8 tm' x)/\cJ a9 tm o=cJ a9 tm' o:=by
 unfold OC at h;unfold cJ;cases hg:o.guard with
 |none=>simp only[hg]at h;exact⟨fun x hx=>oj h hx,rfl⟩|some g=>
  obtain⟨j,want⟩:=g;simp only[hg]at h;cases hd:BM a9 j with
  |none=>simp only[hd]at h;exact⟨fun x hx=>oj h hx,by simp only[hd]⟩|some d=>simp only[hd]at h;refine⟨fun x hx=>oj (fun t ht=>h t (by simp[ht])) hx,?_⟩;simp only[hd,iZ];rw[h d (by simp)]
variable{K:Nat}
variable{k:Nat}
theorem Hi(h:Nat.beq k K=false)(b:B)(sz st off n:Nat):fz K b sz (.vl k st off n)=.vl k st off n:=by simp[fz,h]
theorem vi(h:Nat.beq k K=false)(b:B)(sz off n c:Nat):fz K b sz (.sl k off n c)=.sl k off n c:=by simp[fz,h]
theorem vj(h:Nat.beq k K=false)(b:B)(sz st off:Nat):fz K b sz (.ptr k st off)=.ptr k st off:=by simp[fz,h]
theorem UV(K:Nat)(l:List U)(e:TypeId)(sz n:Nat)(h:n*sz<=l.length):fz K (.row l e) sz (.sl K 0 n n)=.isl false (cD sz n l):=by
 have:Nat.beq n n=true:=by simp[beq_eq]
 simp[fz,beq_eq,h]
theorem Xs(K:Nat)(l:List U)(e:TypeId)(sz:Nat):fz K (.row l e) sz (.ptr K 0 0)=.iptr l:=by simp[fz,beq_eq]
theorem H5(K:Nat)(b:B)(sz:Nat)(k:IntKind)(n:Int):fz K b sz (.int k n)=.int k n:=by simp[fz]
theorem MA(K:Nat)(b:B)(sz:Nat)(x:Bool):fz K b sz (.bool x)=.bool x:=by simp[fz]
theorem M6(K:Nat)(b:B)(sz:Nat)(x:List UInt8):fz K b sz (.str x)=.str x:=by simp[fz]
theorem J5(K:Nat)(b:B)(sz:Nat):fz K b sz .nils=.nils:=by simp[fz]
theorem OL(K:Nat)(b:B)(sz:Nat):fz K b sz .nilp=.nilp:=by simp[fz]
theorem OM(K:Nat)(b:B)(sz:Nat):fz K b sz .nilm=.nilm:=by simp[fz]
theorem ON(K:Nat)(b:B)(sz:Nat):fz K b sz .nilf=.nilf:=by simp[fz]
theorem M9(K:Nat)(b:B)(sz:Nat):fz K b sz .junk=.junk:=by simp[fz]
theorem M7(K:Nat)(b:B)(sz:Nat)(t:Bool)(l:List (List U)):fz K b sz (.isl t l)=.isl t l:=by simp[fz]
theorem OF(K:Nat)(b:B)(sz:Nat)(k:Nat):fz K b sz (.map k)=.map k:=by simp[fz]
theorem J2(K:Nat)(b:B)(sz:Nat)(l:List U):fz K b sz (.agg l)=.agg (jT K b sz l):=by simp[fz]
theorem M5(K:Nat)(b:B)(sz:Nat)(l:List U):fz K b sz (.tup l)=.tup (jT K b sz l):=by simp[fz]
theorem M4(K:Nat)(b:B)(sz:Nat)(f:Fn)(a c:List U):fz K b sz (.fn f a c)=.fn f (jT K b sz a) (jT K b sz c):=by simp[fz]
theorem yR(K:Nat)(b:B)(sz:Nat):jT K b sz []=[]:=by simp[jT]
theorem vS(K:Nat)(b:B)(sz:Nat)(u:U)(l:List U):jT K b sz (u::l)=fz K b sz u::jT K b sz l:=by simp[jT]
mutual
theorem wg{K:Nat}(b:B)(sz:Nat):(u:U)->bB K u->fz K b sz u=u
 |.sl k _ _ _,h=>vi (by simp only[bB]at h;simp[beq_eq];omega) _ _ _ _ _|.vl k _ _ _,h=>Hi (by simp only[bB]at h;simp[beq_eq];omega) _ _ _ _ _
 |.ptr k _ _,h=>vj (by simp only[bB]at h;simp[beq_eq];omega) _ _ _ _|.agg l,h=>by simp only[bB]at h;rw[J2,sX b sz l h]
 |.tup l,h=>by simp only[bB]at h;rw[M5,sX b sz l h]
 |.fn f a c,h=>by simp only[bB]at h;rw[M4,sX b sz a h.1,sX b sz c h.2]
 |.int _ _,_=>H5 _ _ _ _ _|.bool _,_=>MA _ _ _ _
 |.str _,_=>M6 _ _ _ _|.nils,_=>J5 _ _ _
 |.nilp,_=>OL _ _ _|.nilm,_=>OM _ _ _
 |.nilf,_=>ON _ _ _|.nili,_=>by simp[fz]
 |.junk,_=>M9 _ _ _|.isl _ _,_=>M7 _ _ _ _ _
 |.iptr _,_=>by simp[fz]
 |.map _,_=>OF _ _ _ _
theorem sX{K:Nat}(b:B)(sz:Nat):(l:List U)->aL K l->jT K b sz l=l
 |[],_=>yR _ _ _|u::l,h=>by simp only[aL]at h;rw[vS,wg b sz u h.1,sX b sz l h.2]
end
variable{x:Cx}
theorem oE.belB{b:B}(h:oE x k b):BelB x.X.nx b:=by
 cases b with
 |row l e=>obtain⟨_,_,_,_,_,e3⟩:=h;exact e3.bel
 |vec l e sz st=>obtain⟨_,_,h3⟩:=h;rcases h3 with⟨rfl,_⟩|⟨_,_,_,_,e3⟩;simp[BelB,aL];exact e3.bel
 |map es cl=>obtain⟨_,es',_,_,e3⟩:=h;intro e he;obtain⟨j,hj,rfl⟩:=List.getElem_of_mem he;obtain⟨v,_,q2,q3,_⟩:=e3.2 j _ (List.getElem?_eq_getElem hj);exact⟨aD.bel _ _ q2,aD.bel _ _ q3⟩
variable{n0:Nat}
variable{X:Sg}
theorem Gh.same(h':List (Nat×B))(hg:∀k,gt h' k=gt X.h k):Gh n0 tm X tm ⟨h',X.nx⟩:=fun F x tv hx hr hf he=>by
 subst hx;have fW:Mo x.X.nx x ⟨x.Y,⟨h',x.X.nx⟩,x.s⟩:=⟨fun k _ h2=>⟨h2,fun b hb=>⟨b,by rw[<-hg];exact hb,zF _,fun _=>⟨rfl,fun l e sz st h=>⟨l,h⟩⟩⟩⟩,fun _ _ _ h=>h⟩;refine⟨⟨x.Y,⟨h',x.X.nx⟩,x.s⟩,fun m w hf=>bP.refl hf,rfl,⟨fun k b hb=>?_,fun k k' b b' i hb cU=>?_,hr.bd⟩,fun i b J=>?_,fW.ke.E he.bel he,fun u v hb hr=>fW.ke u v (aD.bel u v hr) hr⟩;have cU:gt x.X.h k=some b:=by rw[<-hg];exact hb
 obtain⟨h1,h2⟩:=hr.ok k b cU;exact⟨h1,h2.mono fW rfl fun _ _ _ h=>h⟩;exact hr.inj k k' b b' i (by rw[<-hg];exact hb) (by rw[<-hg];exact cU);obtain⟨h1,h2⟩:=hf i b J;exact⟨h1,fun k c hc=>h2 k c (by rw[<-hg];exact hc)⟩
variable{T:Tb}
variable{op:Op}
theorem qu6{q:FuncId×List U}(h:k8 T tm op=some q):bM T X tm op=none:=by
 cases op with
 |call c=>
  simp only[k8]at h;cases hc:c.callee with
  |value f=>simp[bM,gG,nC,nO,hc]|_=>simp[hc]at h
 |_=>simp[k8]at h
theorem Gh.cutG{n1:Nat}(h1:n0<=n1)(h2:n1<=X.nx)(hb:aL n1 tm)(hh:∀k b,gt (Vx.cut n1 X.h) k=some b->BelB n1 b):Gh n0 tm X tm ⟨Vx.cut n1 X.h,n1⟩:=fun F x tv hx hr hf he=>by
 subst hx;have fW:Mo n1 x ⟨x.Y,⟨Vx.cut n1 x.X.h,n1⟩,x.s⟩:=by refine⟨fun k hk _=>⟨hk,fun b hb=>?_⟩,fun _ _ _ h=>h⟩;simp only[Fu,hk,if_true]at hb;exact⟨b,hb,zF _,fun _=>⟨rfl,fun l e sz st h=>⟨l,h⟩⟩⟩
 have sub:∀{k b},gt (Vx.cut n1 x.X.h) k=some b->k<n1/\gt x.X.h k=some b:=fun{k b} hg=>by simp only[Fu]at hg;split at hg;exact⟨by assumption,hg⟩;cases hg
 refine⟨⟨x.Y,⟨Vx.cut n1 x.X.h,n1⟩,x.s⟩,fun m w hf=>bP.refl hf,rfl,⟨fun k b hg=>?_,fun k k' b b' i g1 g2=>hr.inj k k' b b' i (sub g1).2 (sub g2).2,hr.bd⟩,fun i b J=>?_,fW.ke.E hb he,fW.ke.le h1⟩;exact⟨(sub hg).1,(hr.ok k b (sub hg).2).2.monoB (hh k b hg) fW rfl fun _ _ _ h=>h⟩;exact⟨(hf i b J).1,fun k c hc=>(hf i b J).2 k c (sub hc).2⟩
theorem qqz{k:Nat}(sz:Nat):∀(n:Nat)(l:List U),aL k l->mP k (cD sz n l)
 |0,l,_=>by simp[cD,mP]
 |n+1,l,h=>by simp only[cD,mP];exact⟨(F7 k _).2 fun u hu=>(F7 k _).1 h u (List.mem_of_mem_take hu),qqz sz n _ ((F7 k _).2 fun u hu=>(F7 k _).1 h u (List.mem_of_mem_drop hu))⟩
def AQ(P:Program)(T:Tb)(tm:List U)(op:Op)(u:U):Prop :=
 (∃f args,k8 T tm op=some (f,args)/\∀s,bE P f args s (fun u' X=>u'=u/\X=s))\/ (∃n sz cs e,(∀X,bM T X tm op=some (.sl X.nx 0 n n,newU X (.row cs e)))/\n*sz<=cs.length/\aL 0 cs/\u=.isl false (cD sz n cs))
theorem Gh.quiet{n sz:Nat}{cs:List U}{e:TypeId}{d:Option Tmp}(h0:n0<=X.nx)(hb:aL X.nx tm)(hs:∀k b,gt X.h k=some b->k<X.nx/\BelB X.nx b)(hl:n*sz<=cs.length)(uI:aL 0 cs):Gh n0 (dW tm d (.sl X.nx 0 n n)) (newU X (.row cs e)) (dW tm d (.isl false (cD sz n cs))) X:=by
 have e0:gt (newU X (.row cs e)).h X.nx=some (.row cs e):=by simp[newU,dY]
 have et:jT X.nx (.row cs e) sz (dW tm d (.sl X.nx 0 n n))=dW tm d (.isl false (cD sz n cs)):=by
  rcases d with _|t;simp only[dW];exact sX _ _ _ hb;simp only[dW];have key:∀(l:List U)(t:Nat),aL X.nx l->jT X.nx (.row cs e) sz (l.set t (.sl X.nx 0 n n))=l.set t (.isl false (cD sz n cs)):=by
   intro l;induction l with
   |nil=>intro t _;simp[jT]|cons u l ih=>
    intro t h;simp only[aL]at h;cases t with
    |zero=>simp only[List.set_cons_zero,vS,sX _ _ l h.2,UV X.nx cs e sz n hl]|succ t=>simp only[List.set_cons_succ,vS,wg _ _ u h.1,ih t h.2]
  exact key tm t hb
 have hbt:aL X.nx (dW tm d (.isl false (cD sz n cs))):=by
  rcases d with _|t;simpa only[dW]using hb;simp only[dW];have key:∀(l:List U)(t:Nat),aL X.nx l->aL X.nx (l.set t (.isl false (cD sz n cs))):=by
   intro l;induction l with
   |nil=>intro t _;simp[aL]|cons u l ih=>
    intro t h;simp only[aL]at h;cases t with
    |zero=>simp only[List.set_cons_zero,aL];exact⟨by simp only[bB];exact qqz sz n cs (aL.le (Nat.zero_le _) _ uI),h.2⟩|succ t=>simp only[List.set_cons_succ,aL];exact⟨h.1,ih t h.2⟩
  exact key tm t hb
 have eg:∀k,gt (Vx.cut X.nx (fzH X.nx (.row cs e) sz (newU X (.row cs e)).h)) k=gt X.h k:=fun k=>by
  rw[Fu];by_cases hk:k<X.nx;rw[if_pos hk,Ft,if_neg (by omega)];have:gt (newU X (.row cs e)).h k=gt X.h k:=by simp only[newU,dY];rw[if_neg (by omega)]
  rw[this];rcases hg:gt X.h k with _|b;rfl;have hb:=(hs k b hg).2;simp only[zM,zA];cases b with
  |row l e=>simp only[fzB];rw[sX _ _ _ hb]|vec l e s st=>simp only[fzB];rw[sX _ _ _ hb]
  |map es cl=>
   simp only[fzB];congr 1;have:∀q∈es,({ q with val:=fz X.nx (.row cs e) sz q.val }:_)=q:=fun q hq=>by rw[wg _ _ _ (hb q hq).2]
   exact(List.map_congr_left this).trans (List.map_id _)
  rw[if_neg hk];rcases hg:gt X.h k with _|b;rfl;exact absurd (hs k b hg).1 hk
 refine(Gh.freeze (n0:=n0) sz e0 (by simp)).trans ?_;rw[et];refine(Gh.cutG (n0:=n0) (n1:=X.nx) h0 (by simp[newU]) hbt ?_).trans ?_;intro k b hg;rw[eg]at hg;exact(hs k b hg).2;exact Gh.same (X:=⟨Vx.cut X.nx (fzH X.nx (.row cs e) sz (newU X (.row cs e)).h),X.nx⟩) X.h fun k=>(eg k).symm
variable{P:Program}
variable{u:U}
theorem AQ.noop(h:AQ P T tm op u)(X:Sg):bM T X tm op≠some (u,X):=fun hc=>by
 rcases h with⟨f,args,h,_⟩|⟨n,sz,cs,e,h,_⟩;rw[qu6 h]at hc;cases hc;rw[h X]at hc;simp only[zA,zB]at hc;have:=congrArg Sg.nx hc.2;simp only[newU]at this;omega
theorem AQ.congr(h:∀x∈op.operands.toList,c8 tm x=c8 tm' x)(hf:AQ P T tm' op u):AQ P T tm op u:=by
 rcases hf with⟨f,args,h1,h2⟩|⟨n,sz,cs,e,h1,h2⟩;exact .inl ⟨f,args,(kw h).trans h1,h2⟩;exact .inr ⟨n,sz,cs,e,fun X=>(YL h).trans (h1 X),h2⟩
theorem AQ.nd(h:AQ P T tm op u):∀c,op≠.defer c:=by
 rcases h with⟨f,args,h1,_⟩|⟨n,sz,cs,e,h1,_⟩;exact Pc h1;exact O8 (h1 ⟨[],0⟩)
variable{F:Nat->lK->Prop}
theorem St.free(hT:lF P T){tv:List Value}{m:Nm}{w:World}{a:Act}(st:St F x tm tv m w a)(o:Oper)(h:AQ P T tm o.op u){next:Act->World->Prop}{Q:Exit->Act->World->Prop}
  (hn:∀y cX aH w₁ bC,y.X=x.X->St F y (dW tm o.dst u) cX aH w₁ bC->bP m x.s w aH y.s w₁->Ke x.X.nx x y->x.X.nx<=y.X.nx->bC.defers=a.defers->next bC w₁):o.wp P a w next Q:=by
 rcases h with⟨f,args,h1,h2⟩|⟨n,sz,cs,e,h1,h2,h3,rfl⟩;refine st.call hT o h1 (h2 x.X) fun y u' cX aH w₁ bC hR cR bO d7 mG fD=>?_
 obtain⟨rfl,hR2⟩:=hR;exact hn y cX aH w₁ bC hR2 cR bO d7 mG fD;refine st.op hT o (h1 x.X) fun y cX aH w₁ bC e1 cR bO d7 mG fD=>?_;obtain⟨z,g1,g2,g3,g4,g5,g6⟩:=Gh.quiet (n0:=x.X.nx) (X:=x.X) (d:=o.dst) (e:=e) (zF _) st.e.bel (fun k b hg=>⟨(st.h.ok k b hg).1,(st.h.ok k b hg).2.belB⟩) h2 h3 F y cX e1 cR.h cR.fr cR.e;have d8:=g1 aH w₁ cR.fits;exact hn z cX aH w₁ bC g2 ⟨g3,g4,g5,d8.fits,cR.act.ext d8.agree d8.nx⟩ (bO.trans d8) (d7.trans g6) (by rw[g2];exact zF _) fD
theorem St.opfz(hT:lF P T){tv:List Value}{m:Nm}{w:World}{a:Act}(st:St F x tm tv m w a)(o:Oper){u1:U}{s1 s':Sg}{d:Nat}(nV:bM T x.X tm o.op=some (u1,s1))(hd:o.dst=some d)(KF:d<tm.length)
  (hg:Gh s1.nx [u1] s1 [u] s') (hn:s1.nx<=s'.nx) {next:Act->World->Prop} {Q:Exit->Act->World->Prop}
  (hk:∀y cX aH w₁ bC,y.X=s'->St F y (dW tm o.dst u) cX aH w₁ bC->bP m x.s w aH y.s w₁->Ke x.X.nx x y->x.X.nx<=y.X.nx->bC.defers=a.defers->next bC w₁):o.wp P a w next Q:=by
 refine st.op hT o nV fun y cX aH w₁ bC e1 cR bO d7 mG fD=>?_;have he:=cR.e;rw[hd]at he hk;simp only[dW]at he hk;obtain⟨v1,S_,Kf⟩:=he.get (List.getElem?_set_self (by simpa using KF));obtain⟨z,g1,g2,g3,g4,g5,g6⟩:=hg F y [v1] e1 cR.h cR.fr (bF.cons Kf (bF.nil y));have d8:=g1 aH w₁ cR.fits;obtain⟨v1',_,R_,UD,_⟩:=g5.inv;cases R_;have hez:bF z (tm.set d u) cX:=by refine⟨(J7 z _ _).2 fun i u' B4=>?_,by have:=he.2;simpa using this⟩;by_cases hi:d=i;subst hi;rw[List.getElem?_set_self (by simpa using KF)]at B4;cases B4;exact⟨v1,S_,UD⟩;rw[List.getElem?_set_ne hi]at B4;obtain⟨v,hv,hr⟩:=he.get (i:=i) (u:=u') (by rw[List.getElem?_set_ne hi];exact B4);refine⟨v,hv,g6 u' v ?_ hr⟩;have hb:=(F7 y.X.nx _).1 he.bel u' (by rw[List.mem_iff_getElem?];exact⟨i,by rw[List.getElem?_set_ne hi];exact B4⟩);rw[e1]at hb;exact hb
 exact hk z cX aH w₁ bC g2 ⟨g3,g4,hez,d8.fits,cR.act.ext d8.agree d8.nx⟩ (bO.trans d8) (d7.trans (g6.le (by rw[<-e1];exact mG))) (by rw[g2];rw[e1]at mG;omega) fD
structure dQ where
 tm:List U
 o:Oper
 u:U
 act:Bool
 mv:Bool
 s:Sg
 s':Sg
def Good(P:Program)(T:Tb)(a9:List Oper)(r:dQ):Prop :=
 (cJ a9 r.tm r.o=some false/\r.u=.tup []/\r.act=false/\r.s'=r.s)\/ (cJ a9 r.tm r.o=some true/\bM T r.s r.tm r.o.op=some (r.u,r.s')/\(r.act=false->r.s'=r.s))\/ (cJ a9 r.tm r.o=some true/\r.act=true/\∃f args,k8 T r.tm r.o.op=some (f,args)/\bE P f args r.s (fun u X=>u=r.u/\X=r.s'))\/ (cJ a9 r.tm r.o=some true/\r.act=false/\r.s'=r.s/\AQ P T r.tm r.o.op r.u)\/ (r.act=false/\r.mv=true/\r.s'=r.s)\/ (cJ a9 r.tm r.o=some true/\r.act=true/\∃u1 s1 d,bM T r.s r.tm r.o.op=some (u1,s1)/\r.o.dst=some d/\d<r.tm.length/\Gh s1.nx [u1] s1 [r.u] r.s'/\s1.nx<=r.s'.nx)
variable{r:dQ}
theorem Good.quiet{a9:List Oper}(h:Good P T a9 r)(ha:r.act=false):r.s'=r.s:=by
 rcases h with⟨_,_,_,h⟩|⟨_,_,h⟩|⟨_,h,_⟩|⟨_,_,h,_⟩|⟨_,_,h⟩|⟨_,h,_⟩;exact h;exact h ha;rw[ha]at h;cases h;exact h;exact h;rw[ha]at h;cases h
def eV(rs:List dQ)(X':Sg)(p:Nat):Sg:=match rs[p]? with
 |some r=>r.s|none=>X'
def sF(rs:List dQ)(tm':List U)(p:Nat):List U:=match rs[p]? with
 |some r=>r.tm|none=>tm'
structure Kx(P:Program)(T:Tb)(a9:List Oper)(tm₀:List U)(HV:Sg)(rs:List dQ)(tm':List U)(X':Sg):Prop where
 len:rs.length=a9.length
 s0:eV rs X' 0=HV
 t0:sF rs tm' 0=tm₀
 all:∀(i:Nat)(r:dQ),rs[i]? = some r->a9[i]? = some r.o/\Good P T a9 r/\eV rs X' (i+1)=r.s'/\sF rs tm' (i+1)=dW r.tm r.o.dst r.u
structure qj(T:Tb)(a9:List Oper)(rs:List dQ):Prop where
 acts:∀(i k:Nat)(r q:dQ),rs[i]? = some r->rs[k]? = some q->r.act=true->q.act=true->k<i->Pre a9 i k
 lo:∀(i k:Nat)(r q:dQ),rs[i]? = some r->rs[k]? = some q->r.act=false->cJ a9 r.tm r.o=some true->bM T r.s r.tm r.o.op=some (r.u,r.s')->q.act=true->k<i->Pre a9 i k\/q.s=r.s\/bM T q.s r.tm r.o.op=some (r.u,q.s)
 hi:∀(i k:Nat)(r q:dQ),rs[i]? = some r->rs[k]? = some q->r.act=false->cJ a9 r.tm r.o=some true->bM T r.s r.tm r.o.op=some (r.u,r.s')->q.act=true->i<k->Pre a9 k i\/q.s'=r.s\/bM T q.s' r.tm r.o.op=some (r.u,q.s')
structure IY(tm₀:List U)(rs:List dQ)(L:Nat->Prop)(tm:List U):Prop where
 len:tm.length=tm₀.length
 yes:∀(k:Nat)(r:dQ)(d:Nat),rs[k]? = some r->r.o.dst=some d->d<tm₀.length->L k->tm[d]? = some r.u
 no:∀(k:Nat)(r:dQ)(d:Nat),rs[k]? = some r->r.o.dst=some d->¬ L k->tm[d]? = tm₀[d]?
 other:∀(t:Nat),(∀(k:Nat)(r:dQ),rs[k]? = some r->r.o.dst≠some t)->tm[t]? = tm₀[t]?
section
variable{P:Program}{T:Tb}(hT:lF P T)(a9:Array Oper){tm₀:List U}{HV:Sg}{rs:List dQ}{tm':List U}{X':Sg}
 (fV:Kx P T a9.toList tm₀ HV rs tm' X') (bY:MI a9.toList=true)
include fV bY
omit bY in
theorem za2{i:Nat}{o:Oper}(ho:a9.toList[i]? = some o):∃r,rs[i]? = some r/\r.o=o:=by
 have hi:i<rs.length:=by rw[fV.len];exact(zG.1 ho).1
 have hr:rs[i]? = some rs[i]:=by simp[hi]
 refine⟨_,hr,?_⟩;have:=(fV.all i _ hr).1;rw[ho]at this;exact(Option.some.inj this).symm
variable{i:Nat}
theorem qy1{q:dQ}(hr:rs[i]? = some r)(hq:rs[k]? = some q)(G5:i≠k){d:Tmp}(hd:q.o.dst=some d):r.o.dst≠some d :=
 (z5t bY (fV.all i r hr).1 (fV.all k q hq).1 G5 hd).1
theorem im{L:Nat->Prop}(h:IY tm₀ rs L tm)(hr:rs[i]? = some r):IY tm₀ rs (fun k=>L k\/k=i) (dW tm r.o.dst r.u):=by
 cases hd:r.o.dst with
 |none=>simp only[dW];refine⟨h.len,fun k q d hq FX aE hL=>?_,fun k q d hq FX hL=>h.no k q d hq FX fun x=>hL (.inl x),h.other⟩;rcases hL with hL |rfl;exact h.yes k q d hq FX aE hL;rw[hr]at hq;cases hq;rw[hd]at FX;cases FX
 |some Dn=>
  simp only[dW];refine⟨by simp[h.len],fun k q d hq FX aE hL=>?_,fun k q d hq FX hL=>?_,fun t ht=>?_⟩;by_cases Vu:k=i;subst Vu;rw[hr]at hq;cases hq;rw[hd]at FX;cases FX;rw[List.getElem?_set_self (by rw[h.len];exact aE)];have cZ:Dn≠d:=fun e=>by have:=qy1 a9 fV bY hr hq (fun x=>Vu x.symm) FX;exact this (by rw[hd,e])
  rw[List.getElem?_set_ne cZ];rcases hL with hL |hL;exact h.yes k q d hq FX aE hL;exact absurd hL Vu;have Vu:k≠i:=fun e=>hL (.inr e)
  have cZ:Dn≠d:=fun e=>by have:=qy1 a9 fV bY hr hq (fun x=>Vu x.symm) FX;exact this (by rw[hd,e])
  rw[List.getElem?_set_ne cZ];exact h.no k q d hq FX fun x=>hL (.inl x);have cZ:Dn≠t:=fun e=>ht i r hr (by rw[hd,e]);rw[List.getElem?_set_ne cZ];exact h.other t ht
omit fV bY in
theorem nl:IY tm₀ rs (fun _=>False) tm₀:=⟨rfl,fun _ _ _ _ _ _ h=>h.elim,fun _ _ _ _ _ _=>rfl,fun _ _=>rfl⟩
theorem dq(p:Nat)(hp:p<=rs.length):IY tm₀ rs (fun k=>k<p) (sF rs tm' p):=by
 induction p with
 |zero=>rw[fV.t0];have:=nl (rs:=rs) (tm₀:=tm₀);refine⟨this.len,fun k r d _ _ _ hL=>by omega,fun k r d h1 h2 _=>this.no k r d h1 h2 (fun x=>x),this.other⟩|succ p ih=>
  have hr:rs[p]? = some rs[p]:=by simp[show p<rs.length by omega]
  have h5:=(fV.all p _ hr).2.2.2;have po:=ih (by omega);have e1:sF rs tm' p=rs[p].tm:=by simp[sF,hr]
  rw[e1]at po;have:=im a9 fV bY po hr;rw[h5];refine⟨this.len,fun k q d a b c hL=>this.yes k q d a b c (by omega),fun k q d a b hL=>this.no k q d a b (by omega),this.other⟩
omit fV bY in
theorem z0s{L:Nat->Prop}{a b:List U}(ha:IY tm₀ rs L a)(hb:IY tm₀ rs L b):a=b:=by
 apply List.ext_getElem?;intro t;by_cases ht:∀(k:Nat)(r:dQ),rs[k]? = some r->r.o.dst≠some t;rw[ha.other t ht,hb.other t ht];have:∃(k:Nat)(r:dQ),rs[k]? = some r/\r.o.dst=some t:=by apply Classical.byContradiction;intro hn;exact ht fun k r hr hd=>hn ⟨k,r,hr,hd⟩
 obtain⟨k,r,hr,hd⟩:=this;by_cases hL:L k;by_cases aE:t<tm₀.length;rw[ha.yes k r t hr hd aE hL,hb.yes k r t hr hd aE hL];rw[List.getElem?_eq_none (by rw[ha.len];omega),List.getElem?_eq_none (by rw[hb.len];omega)];rw[ha.no k r t hr hd hL,hb.no k r t hr hd hL]
theorem qpv{L:Nat->Prop}(hL:Closed a9.toList L)(h:IY tm₀ rs L tm)(hr:rs[i]? = some r)(hi:¬ L i)
  (qC:∀o,a9.toList[i]? = some o->∀e∈o.after.toList,Region.binds .any e=true->L e.on):∀t∈OC a9.toList r.o,tm[t]? = r.tm[t]?:=by
 have N7:i<rs.length:=(zG.1 hr).1;have oU:=dq a9 fV bY i (Nat.le_of_lt N7);have e1:sF rs tm' i=r.tm:=by simp[sF,hr]
 rw[e1]at oU;intro(t:Nat) ht;by_cases eE:∀(k:Nat)(q:dQ),rs[k]? = some q->q.o.dst≠some t;rw[h.other t eE,oU.other t eE];have:∃(k:Nat)(q:dQ),rs[k]? = some q/\q.o.dst=some t:=by apply Classical.byContradiction;intro hn;exact eE fun k r hr hd=>hn ⟨k,r,hr,hd⟩
 obtain⟨k,q,hq,hd⟩:=this;have ho:=(fV.all i r hr).1;have hk:=(fV.all k q hq).1;by_cases G5:i=k;subst G5;rw[h.no i q t hq hd hi,oU.no i q t hq hd (by omega)];rcases(z5t bY ho hk G5 hd).2 ht with hp |hp;have hLk:=SM bY hL qC hp;have aE:=z9w bY i k hp;by_cases DF:t<tm₀.length;rw[h.yes k q t hq hd DF hLk,oU.yes k q t hq hd DF aE];rw[List.getElem?_eq_none (by rw[h.len];omega),List.getElem?_eq_none (by rw[oU.len];omega)];have hnk:¬ L k:=fun x=>hi (Hg bY hL k i x hp)
 have aE:=z9w bY k i hp;rw[h.no k q t hq hd hnk,oU.no k q t hq hd (by omega)]
omit bY in
theorem YD{p q:Nat}(HH:p<=q)(hq:q<=rs.length)(eE : ∀(e:Nat)(r:dQ),p<=e->e<q->rs[e]? = some r->r.act=false): eV rs X' p=eV rs X' q:=by
  induction q with
  | zero => have : p = 0 := by omega
            rw[this]
  |succ q ih=>
    rcases Nat.lt_or_ge q p with h |h;have:p=q+1:=by omega
    rw[this];rw[ih h (by omega) fun e r h1 h2 h3=> eE e r h1 (by omega) h3];have hr:rs[q]? = some rs[q]:=by simp[show q<rs.length by omega]
    obtain⟨_,g2,g3,_⟩:=fV.all q _ hr;rw[g3,g2.quiet (eE q _ h (zN _) hr)];simp[eV,hr]
omit fV bY in
theorem zb3{i p:Nat}(h:∃(e:Nat)(q:dQ),i<e/\e<p/\rs[e]? = some q/\q.act=true):∃(e:Nat)(q:dQ),i<e/\e<p/\rs[e]? = some q/\q.act=true/\∀(e':Nat)(q':dQ),e<e'->e'<p->rs[e']? = some q'->q'.act=false:=by
 obtain⟨e,q,g1,g2,g3,g5⟩:=h;have:∀(n e:Nat)(q:dQ),p-e=n->i<e->e<p->rs[e]? = some q->q.act=true->∃(e:Nat)(q:dQ),i<e/\e<p/\rs[e]? = some q/\q.act=true/\∀(e':Nat)(q':dQ),e<e'->e'<p->rs[e']? = some q'->q'.act=false:=by
  intro n;induction n using Nat.strongRecOn with
  |_ n ihn=>intro e q cZ g1 g2 g3 g5;by_cases qD:∃(e':Nat)(q':dQ),e<e'/\e'<p/\rs[e']? = some q'/\q'.act=true;obtain⟨e',q',k1,k2,k3,k4⟩:=qD;exact ihn (p-e') (by omega) e' q' rfl (by omega) k2 k3 k4;exact⟨e,q,g1,g2,g3,g5,fun e' q' k1 k2 k3=>by cases hb:q'.act with |false=>rfl |true=>exact absurd ⟨e',q',k1,k2,k3,hb⟩ qD⟩
 exact this _ e q rfl g1 g2 g3 g5
omit fV bY in
theorem z7d{i p:Nat}(h:∃(e:Nat)(q:dQ),p<=e/\e<i/\rs[e]? = some q/\q.act=true):∃(e:Nat)(q:dQ),p<=e/\e<i/\rs[e]? = some q/\q.act=true/\∀(e':Nat)(q':dQ),p<=e'->e'<e->rs[e']? = some q'->q'.act=false:=by
 obtain⟨e,q,g1,g2,g3,g5⟩:=h;have:∀(e:Nat)(q:dQ),p<=e->e<i->rs[e]? = some q->q.act=true->∃(e:Nat)(q:dQ),p<=e/\e<i/\rs[e]? = some q/\q.act=true/\∀(e':Nat)(q':dQ),p<=e'->e'<e->rs[e']? = some q'->q'.act=false:=by
  intro e;induction e using Nat.strongRecOn with
  |_ e ihn=>intro q g1 g2 g3 g5;by_cases qD:∃(e':Nat)(q':dQ),p<=e'/\e'<e/\rs[e']? = some q'/\q'.act=true;obtain⟨e',q',k1,k2,k3,k4⟩:=qD;exact ihn e' k2 q' k1 (by omega) k3 k4;exact⟨e,q,g1,g2,g3,g5,fun e' q' k1 k2 k3=>by cases hb:q'.act with |false=>rfl |true=>exact absurd ⟨e',q',k1,k2,k3,hb⟩ qD⟩
 exact this e q g1 g2 g3 g5
variable(DQ:qj T a9.toList rs)
include hT DQ
theorem z1p{ro:Option Nat}{x0:Cx}{m0:Nm}{w0:World}{E:Exit->Act->World->Prop}{df:List Deferred}(hQ:∀y tv m w a,y.X=X'->St F y tm' tv m w a->bP m0 x0.s w0 m y.s w->Ke n0 x0 y->n0<=y.X.nx->a.defers=df->E .normal a w):
  ∀(fuel:Nat)(aG:Array Bool)(a:Act)(w:World)(m:Nm)(p:Nat)(tm:List U)(tv:List Value)(x:Cx),aG.size=a9.size->aG.toList.count false=fuel->
   Closed a9.toList (fun k=>aG.getD k false=true)->(∀(e:Nat)(r:dQ),rs[e]? = some r->r.act=false->r.mv=true->aG.getD e false=true)->IY tm₀ rs (fun k=>aG.getD k false=true) tm->p<=rs.length->
   (∀(e:Nat)(r:dQ),rs[e]? = some r->r.act=true->(aG.getD e false=true↔e<p))->x.X=eV rs X' p->St F x tm tv m w a->bP m0 x0.s w0 m x.s w->Ke n0 x0 x->n0<=x.X.nx->a.defers=df->
   wpAnyIn (oM ro) 0 P .any a9 E fuel aG a w:=by
 have hn:rs.length=a9.size:=by simpa using fV.len
 intro fuel;induction fuel with
 |zero=>
  intro aG a w m p tm tv x dR KG eR h? iR hp iS uZ fM aT eI jM iW;have cP:∀k,k<a9.size->aG.getD k false=true:=fun k hk=>by
   have rZ:k<aG.size:=by omega
   have:aG[k]≠false:=fun hf=>by
    have hm:false∈aG.toList:=by rw[<-hf];simp
    have:=List.count_pos_iff.2 hm;omega
   have this':aG[k]=true:=by simpa using this
   simp[Array.getD,rZ,this']
  have Bf:Region.ready .any a9 aG=[]:=by
   apply List.filter_eq_nil_iff.2;intro k hk;simp only[List.mem_range]at hk;have rZ:k<aG.size:=by omega
   have:=cP k hk;simp[Array.getD,rZ]at this;simp[Array.getD,rZ,this]
  refine⟨Bf,?_⟩;have es:eV rs X' p=X':=by rw[YD a9 fV hp (zF _) fun e r h1 h2 h3=>by rcases hb:r.act with _|_;rfl;have:=(iS e r h3 hb).1 (cP e (by omega));omega];simp[eV]
  have et:tm=tm':=by
   have h1:=dq a9 fV bY rs.length (zF _);have e1:sF rs tm' rs.length=tm':=by simp[sF]
   rw[e1]at h1;refine z0s (L:=fun k=>k<rs.length) ⟨iR.len,fun k r d g1 g2 g3 g4=>iR.yes k r d g1 g2 g3 (cP k (by omega)),fun k r d g1 g2 g3=>?_,iR.other⟩ h1;have:=(zG.1 g1).1;exact absurd this g3
  rw[et]at fM;exact hQ x tv m w a (uZ.trans es) fM aT eI jM iW
 |succ fuel ih=>
  intro aG a w m p tm tv x dR KG eR h? iR hp iS uZ fM aT eI jM iW;have mem_ready:∀i,i∈Region.ready .any a9 aG↔i<a9.size/\aG.getD i true=false/\∃o,a9[i]? = some o/\∀e∈o.after.toList,Region.binds .any e=true->aG.getD e.on false=true:=by
   intro i;unfold Region.ready;rw[List.mem_filter,List.mem_range];refine and_congr_right fun hi=>?_;have ho:a9[i]? = some a9[i]:=by simp[hi]
   simp only[ho,zM,Option.getD_some,Bool.and_eq_true,Bool.not_eq_true',Array.all_eq_true_iff_forall_mem,Bool.or_eq_true];refine and_congr_right fun _=>?_;constructor;intro h;refine⟨_,rfl,fun e he hb=>?_⟩;rcases h e (by simpa using he)with h1 |h1
   simp[hb]at h1;exact h1;rintro⟨o,Bh,h⟩ e he;cases Bh;rcases hb:Region.binds .any e with _|_;exact .inl rfl;exact .inr (h e (by simpa using he) hb)
  refine⟨fun Bk=>?_,fun i hi=>?_⟩;exfalso;have A5:∃i,i<a9.size/\aG.getD i true=false:=by
   have fC:0<aG.toList.count false:=by omega
   obtain⟨i,hi,e⟩:=List.mem_iff_getElem.1 (List.count_pos_iff.1 fC);simp at hi;refine⟨i,by omega,?_⟩;simp only[Array.getElem_toList]at e;simp[Array.getD,hi,e]
  have nJ:∀n,n<a9.size->aG.getD n true=false->False:=by
   intro n;induction n using Nat.strongRecOn with
   |_ n ihn=>
    intro UF Bn;have:n∈Region.ready .any a9 aG:=(mem_ready n).2 ⟨UF,Bn,a9[n],by simp[UF],fun e he hb=>by
     have aE:=qo bY (i:=n) (o:=a9[n]) (by simp[UF]) e he hb;have rZ:e.on<aG.size:=by omega
     cases hv:aG[e.on]with|true=>simp[Array.getD,rZ,hv]|false=>exact(ihn e.on aE (by omega) (by simp[Array.getD,rZ,hv])).elim⟩
    rw[Bk]at this;cases this
  obtain⟨i,h1,h2⟩:=A5;exact nJ i h1 h2;obtain⟨D?,N7,o,ho,CC⟩:=(mem_ready i).1 hi;have wV:i<aG.size:=by omega
  have NB:¬ aG.getD i false=true:=by simp[Array.getD,wV]at N7 ⊢;exact N7
  have y3:a9.toList[i]? = some o:=by simpa using ho
  obtain⟨r,hr,kH⟩:=za2 a9 fV y3;subst kH;have qC:∀q,a9.toList[i]? = some q->∀e∈q.after.toList,Region.binds .any e=true->aG.getD e.on false=true:=fun q hq=>by rw[y3]at hq;cases hq;exact CC
  have C9:=qpv a9 fV bY eR iR hr NB qC;obtain⟨_,zP,xZ,_⟩:=fV.all i r hr;have U9:eV rs X' i=r.s:=by simp[eV,hr]
  have j4:∀k,((aG.setIfInBounds i true).getD k false=true)↔(aG.getD k false=true\/k=i):=fun k=>by by_cases hk:k=i;subst hk;simp[Array.getD,wV];by_cases qF:k<aG.size;simp[Array.getD,qF,hk,Ne.symm hk];simp[Array.getD,qF,hk]
  have CE:Closed a9.toList (fun k=>(aG.setIfInBounds i true).getD k false=true):=fun k q hk hq e he hb=>by refine(j4 e.on).2 (.inl ?_);rcases(j4 k).1 hk with hk |rfl;exact eR k q hk hq e he hb;exact qC q hq e he hb
  have Vl:∀(e:Nat)(r:dQ),rs[e]? = some r->r.act=false->r.mv=true->(aG.setIfInBounds i true).getD e false=true:=fun e q h1 h2 h3=>(j4 e).2 (.inl (h? e q h1 h2 h3));have nH:IY tm₀ rs (fun k=>(aG.setIfInBounds i true).getD k false=true) (dW tm r.o.dst r.u):=by have:=im a9 fV bY iR hr;exact⟨this.len,fun k q d a b c hL=>this.yes k q d a b c ((j4 k).1 hL),fun k q d a b hL=>this.no k q d a b fun x=>hL ((j4 k).2 x),this.other⟩
  have tK:(aG.setIfInBounds i true).toList.count false=fuel:=by
   have hv:aG[i]=false:=by simpa[Array.getD,wV]using N7
   rw[Array.toList_setIfInBounds,List.count_set (by simpa using wV)];have Cd:Array.count false aG=fuel+1:=by simpa using KG
   simp[hv];omega
  obtain⟨pL,N2⟩:=z9p C9;have stay:r.act=false->∀y cX aH w₁ bC,y.X=eV rs X' p->St F y (dW tm r.o.dst r.u) cX aH w₁ bC->bP m0 x0.s w0 aH y.s w₁->Ke n0 x0 y->n0<=y.X.nx->bC.defers=df->wpAnyIn (oM ro) 0 P .any a9 E fuel (aG.setIfInBounds i true) bC w₁:=fun hk y cX aH w₁ bC h1 h2 h3 h4 h5 h6=>by refine ih _ _ _ aH p _ cX y (by simpa using dR) tK CE Vl nH hp (fun e q hq FW=>?_) h1 h2 h3 h4 h5 h6;rw[j4];by_cases hei:e=i;subst hei;rw[hr]at hq;cases hq;rw[hk]at FW;cases FW;simp only[hei,or_false];exact iS e q hq FW
  have past:r.act=true->eV rs X' p=r.s/\∀y cX aH w₁ bC,y.X=r.s'->St F y (dW tm r.o.dst r.u) cX aH w₁ bC->bP m0 x0.s w0 aH y.s w₁->Ke n0 x0 y->n0<=y.X.nx->bC.defers=df->wpAnyIn (oM ro) 0 P .any a9 E fuel (aG.setIfInBounds i true) bC w₁:=fun hk=>by
   have Vn:p<=i:=by rcases Nat.lt_or_ge i p with h |h;exact absurd ((iS i r hr hk).2 h) NB;exact h
   have E?:i<rs.length:=(zG.1 hr).1;have tL:∀(e:Nat)(q:dQ),p<=e->e<i->rs[e]? = some q->q.act=false:=fun e q h1 h2 h3=>by rcases hb:q.act with _|_;rfl;have:=SM bY eR qC (DQ.acts i e r q hr h3 hk hb h2);have:=(iS e q h3 hb).1 this;omega
   refine⟨(YD a9 fV Vn (by omega) tL).trans U9,fun y cX aH w₁ bC h1 h2 h3 h4 h5 h6=>?_⟩;refine ih _ _ _ aH (i+1) _ cX y (by simpa using dR) tK CE Vl nH (by omega) (fun e q hq FW=>?_) (h1.trans xZ.symm) h2 h3 h4 h5 h6;rw[j4];by_cases hei:e=i;subst hei;simp;simp only[hei,or_false];constructor;intro Ch;have:=(iS e q hq FW).1 Ch;omega;intro aE;exact SM bY eR qC (DQ.acts i e r q hr hq hk FW (by omega))
  unfold wpOpIn;simp only[ho];rw[Pg (fM.act m (aM.refl _ _)) a9 r.o];rcases zP with⟨hw,hu,ha,_⟩|⟨hw,nV,hqu⟩|⟨hw,ha,f,args,A9,k9⟩|⟨hw,ha,_,zR⟩|⟨ha,hm,_⟩|⟨hw,ha,u1,s1,d,nV,hd,KF,Wd,y4⟩;rw[vT fM.e (N2.trans hw)];simp only[Bool.false_eq_true,if_false];rw[hu]at stay;exact⟨fun _ _=>trivial,stay ha x _ m w _ uZ (fM.skip r.o.dst) aT eI jM ((OZ _ _ _).trans iW)⟩;rw[vT fM.e (N2.trans hw)];simp only[if_true];cases ha:r.act with
  |true=>
   obtain⟨HI,B6⟩:=past ha;have lQ:bM T x.X tm r.o.op=some (r.u,r.s'):=by rw[uZ,HI,YL pL];exact nV
   exact AT (O8 lQ) (fM.op hT r.o lQ fun y cX aH w₁ bC e1 cR bO d7 mG fD=>B6 y cX aH w₁ bC e1 cR (aT.trans bO) (eI.trans (d7.le jM)) (by omega) (fD.trans iW))
  |false=>
   have Kd:=hqu ha;have eQ:bM T (eV rs X' p) r.tm r.o.op=some (r.u,eV rs X' p):=by
    rcases Nat.lt_or_ge i p with hip |hip;by_cases A5:∃(e:Nat)(q:dQ),i<e/\e<p/\rs[e]? = some q/\q.act=true;obtain⟨e,q,g1,g2,g3,g5,g6⟩:=zb3 A5;have es:eV rs X' (e+1)=eV rs X' p:=YD a9 fV (by omega) hp fun e' q' k1 k2 k3=>g6 e' q' (by omega) k2 k3
    have eq':eV rs X' (e+1)=q.s':=(fV.all e q g3).2.2.1;rw[<-es,eq'];rcases DQ.hi i e r q hr g3 ha hw nV g5 g1 with k4 |k4 |k4;have Ch:aG.getD e false=true:=(iS e q g3 g5).2 g2;exact absurd (Hg bY eR e i Ch k4) NB;rw[k4,nV,Kd];exact k4;have es:eV rs X' i=eV rs X' p:=YD a9 fV (by omega) hp fun e q k1 k2 k3=>by
     rcases Nat.lt_or_ge i e with h |h;rcases hb:q.act with _|_;rfl;exact absurd ⟨e,q,h,k2,k3,hb⟩ A5;have:e=i:=by omega
     subst this;rw[hr]at k3;cases k3;exact ha
    rw[<-es,U9,nV,Kd];by_cases A5:∃(e:Nat)(q:dQ),p<=e/\e<i/\rs[e]? = some q/\q.act=true;obtain⟨e,q,g1,g2,g3,g5,g6⟩:=z7d A5;have es:eV rs X' p=eV rs X' e:=YD a9 fV g1 (by have:=(zG.1 g3).1;omega) fun e' q' k1 k2 k3=>g6 e' q' k1 k2 k3;have eq':eV rs X' e=q.s:=by simp[eV,g3]
    rw[es,eq'];rcases DQ.lo i e r q hr g3 ha hw nV g5 g2 with k4 |k4 |k4;have Ch:=SM bY eR qC k4;have:=(iS e q g3 g5).1 Ch;omega;rw[k4,nV,Kd];exact k4;have es:eV rs X' p=eV rs X' i:=YD a9 fV hip (by have:=(zG.1 hr).1;omega) fun e q k1 k2 k3=>by rcases hb:q.act with _|_;rfl;exact absurd ⟨e,q,k1,k2,k3,hb⟩ A5
    rw[es,U9,nV,Kd]
   have lQ:bM T x.X tm r.o.op=some (r.u,eV rs X' p):=by rw[uZ,YL pL];exact eQ
   exact AT (O8 lQ) (fM.op hT r.o lQ fun y cX aH w₁ bC e1 cR bO d7 mG fD=>stay ha y cX aH w₁ bC e1 cR (aT.trans bO) (eI.trans (d7.le jM)) (by omega) (fD.trans iW))
  rw[vT fM.e (N2.trans hw)];simp only[if_true];obtain⟨HI,B6⟩:=past ha;have R?:bE P f args x.X (fun u X=>u=r.u/\X=r.s'):=by rw[uZ,HI];exact k9
  refine AT (Pc ((kw pL).trans A9)) (fM.call hT r.o ((kw pL).trans A9) R? fun y u cX aH w₁ bC hR cR bO d7 mG fD=>?_);obtain⟨rfl,hR2⟩:=hR;exact B6 y cX aH w₁ bC hR2 cR (aT.trans bO) (eI.trans (d7.le jM)) (by omega) (fD.trans iW);rw[vT fM.e (N2.trans hw)];simp only[if_true];exact AT (zR.congr pL).nd (fM.free hT r.o (zR.congr pL) fun y cX aH w₁ bC e1 cR bO d7 mG fD=>stay ha y cX aH w₁ bC (e1.trans uZ) cR (aT.trans bO) (eI.trans (d7.le jM)) (by omega) (fD.trans iW));exact absurd (h? i r hr ha hm) NB;rw[vT fM.e (N2.trans hw)];simp only[if_true];obtain⟨HI,B6⟩:=past ha;have lQ:bM T x.X tm r.o.op=some (u1,s1):=by rw[uZ,HI,YL pL];exact nV
  have b7:tm.length=r.tm.length:=by
   have h1:=(dq a9 fV bY i (Nat.le_of_lt (zG.1 hr).1)).len;have e1:sF rs tm' i=r.tm:=by simp[sF,hr]
   rw[e1]at h1;rw[iR.len,h1]
  exact AT (O8 lQ) (fM.opfz hT r.o lQ hd (by rw[b7];exact KF) Wd y4 fun y cX aH w₁ bC e1 cR bO d7 mG fD=>B6 y cX aH w₁ bC e1 cR (aT.trans bO) (eI.trans (d7.le jM)) (by omega) (fD.trans iW))
end
end Go.Vx
namespace Go.Vx
open Go Go.Rx
def RD(P:Program)(T:Tb)(a9:List Oper):List Oper->List U->Sg->(List dQ->List U->Sg->Prop)->Prop
 |[],tm,X,K=>K [] tm X|o::r,tm,X,K=>(cJ a9 tm o=some true/\∃u,bM T X tm o.op=some (u,X)/\RD P T a9 r (dW tm o.dst u) X (fun rs=>K (⟨tm,o,u,false,false,X,X⟩::rs)))\/ (cJ a9 tm o=some true/\∃u X',bM T X tm o.op=some (u,X')/\RD P T a9 r (dW tm o.dst u) X' (fun rs=>K (⟨tm,o,u,true,true,X,X'⟩::rs)))\/ (cJ a9 tm o=some true/\∃f args u,k8 T tm o.op=some (f,args)/\bE P f args X (fun u' X'=>u'=u/\X'=X)/\RD P T a9 r (dW tm o.dst u) X (fun rs=>K (⟨tm,o,u,true,false,X,X⟩::rs)))\/ (cJ a9 tm o=some true/\∃f args u X',k8 T tm o.op=some (f,args)/\bE P f args X (fun u' s'=>u'=u/\s'=X')/\RD P T a9 r (dW tm o.dst u) X' (fun rs=>K (⟨tm,o,u,true,true,X,X'⟩::rs)))\/ (cJ a9 tm o=some false/\RD P T a9 r (dW tm o.dst (.tup [])) X (fun rs=>K (⟨tm,o,.tup [],false,false,X,X⟩::rs)))\/ (cJ a9 tm o=some true/\∃u,AQ P T tm o.op u/\RD P T a9 r (dW tm o.dst u) X (fun rs=>K (⟨tm,o,u,false,false,X,X⟩::rs)))\/ (cJ a9 tm o=some true/\∃u1 s1 d u X',bM T X tm o.op=some (u1,s1)/\o.dst=some d/\d<tm.length/\Gh s1.nx [u1] s1 [u] X'/\s1.nx<=X'.nx/\RD P T a9 r (dW tm o.dst u) X' (fun rs=>K (⟨tm,o,u,true,true,X,X'⟩::rs)))
theorem RY{P:Program}{T:Tb}{a9:List Oper}:∀(rest:List Oper)(tm:List U)(X:Sg)(K:List dQ->List U->Sg->Prop),RD P T a9 rest tm X K->
  ∃rs tm' X',K rs tm' X'/\rs.length=rest.length/\eV rs X' 0=X/\sF rs tm' 0=tm/\
   ∀(i:Nat)(r:dQ),rs[i]? = some r->rest[i]? = some r.o/\Good P T a9 r/\eV rs X' (i+1)=r.s'/\sF rs tm' (i+1)=dW r.tm r.o.dst r.u/\(r.mv=false->r.s'=r.s)/\(r.mv=true->r.act=true)
 |[],tm,X,K,h=>⟨[],tm,X,h,rfl,rfl,rfl,fun i r hr=>by simp at hr⟩|o::rest,tm,X,K,h=>by
  have step:∀(u:U)(ac mv:Bool)(X1:Sg),RD P T a9 rest (dW tm o.dst u) X1 (fun rs=>K (⟨tm,o,u,ac,mv,X,X1⟩::rs))->Good P T a9 ⟨tm,o,u,ac,mv,X,X1⟩->(mv=false->X1=X)->(mv=true->ac=true)->
    ∃rs tm' X',K rs tm' X'/\rs.length=(o::rest).length/\eV rs X' 0=X/\sF rs tm' 0=tm/\
     ∀(i:Nat)(r:dQ),rs[i]? = some r->(o::rest)[i]? = some r.o/\Good P T a9 r/\eV rs X' (i+1)=r.s'/\sF rs tm' (i+1)=dW r.tm r.o.dst r.u/\(r.mv=false->r.s'=r.s)/\(r.mv=true->r.act=true):=by
   intro u ac mv X1 h hg h1 h2;obtain⟨rs,tm',X',g1,g2,g3,g4,g5⟩:=RY rest _ _ _ h;refine⟨_,tm',X',g1,by simp[g2],rfl,rfl,fun i r hr=>?_⟩;cases i with
   |zero=>simp at hr;subst hr;refine⟨rfl,hg,?_,?_,h1,h2⟩;simp only[eV,zH];exact g3;simp only[sF,zH];exact g4|succ i=>simp only[zH]at hr;obtain⟨k1,k2,k3,k4,k5⟩:=g5 i r hr;refine⟨by simpa using k1,k2,?_,?_,k5⟩;simp only[eV,zH];exact k3;simp only[sF,zH];exact k4
  simp only[RD]at h;rcases h with⟨hw,u,h1,h2⟩|⟨hw,u,X1,h1,h2⟩|⟨hw,f,args,u,h1,h2,h3⟩|⟨hw,f,args,u,X1,h1,h2,h3⟩|⟨hw,h1⟩|⟨hw,u,h1,h3⟩|⟨hw,u1,s1,d,u,X1,h1,h2,h3,h4,h5,h6⟩;exact step u false false X h2 (.inr (.inl ⟨hw,h1,fun _=>rfl⟩)) (fun _=>rfl) (by simp);exact step u true true X1 h2 (.inr (.inl ⟨hw,h1,by simp⟩)) (by simp) (by simp);exact step u true false X h3 (.inr (.inr (.inl ⟨hw,rfl,f,args,h1,h2⟩))) (fun _=>rfl) (by simp);exact step u true true X1 h3 (.inr (.inr (.inl ⟨hw,rfl,f,args,h1,h2⟩))) (by simp) (by simp);exact step _ false false X h1 (.inl ⟨hw,rfl,rfl,rfl⟩) (fun _=>rfl) (by simp);exact step u false false X h3 (.inr (.inr (.inr (.inl ⟨hw,rfl,rfl,h1⟩)))) (fun _=>rfl) (by simp);exact step u true true X1 h6 (.inr (.inr (.inr (.inr (.inr ⟨hw,rfl,u1,s1,d,h1,h2,h3,h4,h5⟩))))) (by simp) (by simp)
section
variable{C:PG}{T:Tb}(hT:lF C.prog T){n0:Nat}{Q:Exit->List U->Sg->Prop}{tm:List U}{X:Sg}
include hT
theorem WPU.drawn{id:Nat}{a9:Array Oper}(bY:MI a9.toList=true){rs:List dQ}{tm':List U}{X':Sg}(fV:Kx C.prog T a9.toList tm X rs tm' X')(DQ:qj T a9.toList rs)(N5:∀(i:Nat)(r:dQ),rs[i]? = some r->r.mv=true->r.act=true)(hQ:Q .normal tm' X'):WPU C n0 (.region id a9 true) tm X Q:=fun hn F x tv m w a b0 hx st hG hd ro kH=>by
 refine wpIn_region_any hT.mixed ?_;have eE:∀k,(Array.replicate a9.size false).getD k false=false:=fun k=>by by_cases hk:k<a9.size<;>simp[Array.getD,hk]
 have HK:=bP.draw (w.drawn+1) st.fits;refine z1p (ro:=ro) hT a9 fV bY DQ (n0:=n0) (F:=F) (x0:=x) (m0:=m) (w0:=w) (df:=a.defers) (fun y cX m' w' a' h1 h2 h3 h4 h5 h6=>⟨y,tm',cX,m',h1 ▸ hQ,h2,h3,h4,h5,by rw[h6];exact hd.adv st.fits h3⟩) a9.size (Array.replicate a9.size false) a _ m 0 tm tv x (by simp) (by simp) ?_ (fun e r h1 h2 h3=>by have:=N5 e r h1 h3;rw[h2]at this;cases this) ?_ (Nat.zero_le _) ?_ ?_ ?_ ?_ (Ke.refl _ _) (hx ▸ hn) rfl;intro k q hk;rw[eE]at hk;cases hk;have:=nl (rs:=rs) (tm₀:=tm);exact⟨this.len,fun k r d _ _ _ hL=>(by rw[eE]at hL;cases hL),fun k r d g1 g2 _=>this.no k r d g1 g2 (fun x=>x),this.other⟩;intro e r _ _;rw[eE];simp;rw[fV.s0];exact hx;exact⟨st.h,st.fr,st.e,(bP.draw _ st.fits).fits,st.act⟩;exact bP.draw _ st.fits
end
section
variable{K:List U->Sg->Prop}{Q:Exit->List U->Sg->Prop}{tm:List U}{X:Sg}{i j:Nat}
theorem Uv(h:Q .normal tm X):BO i Q (.exit i) tm X:=by simp only[BO,if_true];exact h
theorem Uu(lS:¬ j=i)(h:Q (.exit j) tm X):BO i Q (.exit j) tm X:=by simp only[BO,lS,if_false];exact h
end
variable{C:PG}
variable{T:Tb}
variable{a9:List Oper}
variable{r:List Oper}
variable{o:Oper}
variable{tm:List U}
variable{X:Sg}
variable{f:FuncId}
variable{args:List U}
theorem RU.call{K:List U->Sg->Prop}{R:U->Sg->Prop}(hw:cJ a9 tm o=some true)(hc:k8 T tm o.op=some (f,args))(k9:bE C.prog f args X R)
  (h:∀u X',R u X'->RU C T a9 r (dW tm o.dst u) X' K):RU C T a9 (o::r) tm X K:=.inr (.inl ⟨hw,f,args,R,hc,k9,h⟩)
theorem WPU.loopG{n0:Nat}{Q:Exit->List U->Sg->Prop}{c:Code}(I:Nat->List U->Sg->Prop)(n:Nat)(h₀:I n tm X)
  (round:∀n tm X,I n tm X->WPU C n0 c tm X (ET (fun tm' X'=>∃n' jH bZ,n'<n/\I n' jH bZ/\n0<=bZ.nx/\Gh n0 tm' X' jH bZ) Q)):WPU C n0 (.loop c) tm X Q:=by
 refine WPU.loop I n h₀ fun n tm X hI=>?_;refine WPU.after (round n tm X hI) ?_;intro e XF X1 hn h;cases e with
 |normal=>obtain⟨n',jH,bZ,h1,h2,h3,h4⟩:=h;exact⟨jH,bZ,h3,h4,n',h1,h2⟩
 |_=>exact⟨XF,X1,hn,Gh.refl _ _ _,h⟩
theorem Gh.to{n0 n1:Nat}{tm':List U}{X':Sg}(mask:List Bool)(ht:EV mask tm=tm')(hs:(⟨Vx.cut n1 X.h,n1⟩:Sg)=X')(h1:n0<=n1)(h2:n1<=X.nx)(hb:aL n1 tm')(hh:GR n1 X'.h):Gh n0 tm X tm' X':=by
 subst ht;subst hs;exact(Gh.junk n0 mask tm X).trans (Gh.cut h1 h2 hb hh)
theorem uE{O:Type}{n:Nat}(f:O->List U)(h:∀x,aL n (f x))(l:List O):mP n (l.map f):=by
 rw[qxn];intro c hc;obtain⟨x,_,rfl⟩:=List.mem_map.1 hc;exact h x
def RF(P:Program)(T:Tb)(a9 rest:List Oper)(tm:List U)(X:Sg)(fl:List (Bool×Bool))(K:List (Bool×Bool)->List U->Sg->Prop):Prop :=
 RD P T a9 rest tm X (fun rs tm' X'=>K (fl++rs.map fun r=>(r.act,r.mv)) tm' X')
theorem RF.eq(P:Program)(T:Tb)(a9:List Oper){f g:List dQ->List U->Sg->Prop}(h:f=g){rest:List Oper}(hr:RD P T a9 rest tm X f):RD P T a9 rest tm X g:=h ▸ hr
theorem z7e{K:List (Bool×Bool)->List U->Sg->Prop}(fl:List (Bool×Bool))(r:dQ)(a b:Bool)(h1:r.act=a)(h2:r.mv=b):
  (fun(rs:List dQ) (tm:List U) (X:Sg)=>K (fl++[(a,b)]++rs.map fun r=>(r.act,r.mv)) tm X)=(fun rs=>(fun(rs:List dQ) tm X=>K (fl++rs.map fun r=>(r.act,r.mv)) tm X) (r::rs)):=by
 subst h1;subst h2;funext rs tm X;simp
variable{u:U}
theorem RF.call{P:Program}{fl:List (Bool×Bool)}{K:List (Bool×Bool)->List U->Sg->Prop}(hw:cJ a9 tm o=some true)(hc:k8 T tm o.op=some (f,args))(k9:bE P f args X (fun u' X'=>u'=u/\X'=X))
  (h:RF P T a9 r (dW tm o.dst u) X (fl++[(true,false)]) K):RF P T a9 (o::r) tm X fl K:=by
 simp only[RF,RD];exact .inr (.inr (.inl ⟨hw,f,args,u,hc,k9,RF.eq P T a9 (z7e fl _ true false rfl rfl) h⟩))
theorem RU.pcall{K:List U->Sg->Prop}(hw:cJ a9 tm o=some true)(hc:k8 T tm o.op=some (f,args))(k9:bE C.prog f args X (fun u' X'=>u'=u/\X'=X))
  (h:RU C T a9 r (dW tm o.dst u) X K):RU C T a9 (o::r) tm X K:=RU.call hw hc k9 (fun u' X' ⟨h1,h2⟩=>by subst h1;subst h2;exact h)
theorem bE.pure1{P:Program}(h:bE P f args ⟨[],0⟩ (fun u' _=>u'=u/\bB 0 u'))(ha:aL 0 args)(X:Sg):bE P f args X (fun u' X'=>u'=u/\X'=X):=bE.pure h ha X
end Go.Vx
