import GoSem.ClaimChange
import Derived.Test.YtldlchbgolpkaaaGreatP7
set_option linter.all false
namespace Go.Vx
open Go Go.Rx
mutual
def Rep(W:World):U->Value->Prop
 |.bool b,v=>v=.bool b|.int k n,v=>v=.int k n
 |.str l,v=>v=.string ⟨⟨l⟩⟩|.isl t l,v=>t=false/\((l=[]/\(v=.slice none 0 0\/∃b off p,v=.slice (some ⟨b,off,some p⟩) 0 0))\/∃b off c,v=.slice (some ⟨b,off,none⟩) l.length c/\c<bS/\l.length<=c/\
   (l=[]\/∃cs e fr sz,W.heap[b]? = some (.cells cs e fr)/\KL W sz l (cs.toList.drop off)))
 |.agg l,v=>∃vs,v=.agg ⟨vs⟩/\mV W l vs/\l.length=vs.length/\okL l=true|_,_=>False
def mV(W:World):List U->List Value->Prop
 |[],_=>True|u::us,vs=>match vs with
  |[]=>False|v::vs=>Rep W u v/\mV W us vs
def KL(W:World)(sz:Nat):List (List U)->List Value->Prop
 |[],_=>True|c::cs,vs=>c.length=sz/\okL c=true/\mV W c vs/\KL W sz cs (vs.drop sz)
end
def cx(s:S):Cx:=⟨fun _=>none,⟨[],0⟩,s⟩
def Ii(s:S):Prop:=∀i b,lk s.h i=some b->Own b=false
structure Grow(m:Nm)(s:S)(m':Nm)(s':S):Prop where
 agree:aK s.nx m m'
 nx:s.nx<=s'.nx
 rows:∀i b,lk s.h i=some b->lk s'.h i=some b
theorem Grow.refl(m:Nm)(s:S):Grow m s m s:=⟨aK.refl _ _,zF _,fun _ _ h=>h⟩
theorem Grow.trans{m m' m'':Nm}{s s' s'':S}(h:Grow m s m' s')(h':Grow m' s' m'' s''):Grow m s m'' s'':=⟨h.agree.trans h'.agree h.nx,Nat.le_trans h.nx h'.nx,fun i b hb=>h'.rows i b (h.rows i b hb)⟩
variable{m:Nm}
variable{m':Nm}
variable{s:S}
variable{s':S}
theorem Grow.mo(h:Grow m s m' s'):Mo 0 (cx s) (cx s'):=⟨fun k hk=>by omega,fun i row e hl=>h.rows i _ hl⟩
theorem Grow.rel(h:Grow m s m' s'){u:U}{v:Value}(hr:aD (cx s) u v):aD (cx s') u v:=h.mo.ke u v (aD.bel _ _ hr) hr
theorem Grow.relE(h:Grow m s m' s'){l:List U}{vs:List Value}(hr:bB (cx s) l vs):bB (cx s') l vs:=h.mo.ke.E hr.bel hr
theorem qwq(m:Nm)(n:Nat):mW m n [] []:=fun _ _=>by simp[aI]
theorem z1b{n:Nat}{v cv:Value}{vs mF:List Value}(h:eN m n v cv)(h':mW m n vs mF):mW m n (v::vs) (cv::mF):=fun m' ha=>by simp[aI,h m' ha,h' m' ha]
theorem qlm{x:Cx}{sz:Nat}:∀{l:List (List U)}{vs:List Value},bB x l.flatten vs->(∀c∈l,c.length=sz/\okL c=true)->gU x sz l vs
 |[],vs,h,hs=>by simp[gU]
 |c::l,vs,h,hs=>by obtain⟨h1,h2⟩:=hs c (by simp);simp only[gU];rw[List.flatten_cons]at h;refine⟨h1,h2,?_,qlm (by have:=h.drop sz;rwa [List.drop_append_of_le_length (by omega),List.drop_of_length_le (by omega),List.nil_append]at this) fun d hd=>hs d (by simp[hd])⟩;rw[G5];intro i u hu;have aG:i<c.length:=(zG.1 hu).1;exact h.get (by rw[List.getElem?_append_left aG];exact hu)
theorem qwt{W:World}{sz:Nat}:∀{l:List (List U)}{vs:List Value},KL W sz l vs->∀c∈l,c.length=sz/\okL c=true
 |[],vs,h=>by simp
 |d::l,vs,h=>fun c hc=>by simp only[KL]at h;rcases zI.1 hc with rfl |hc;exact⟨h.1,h.2.1⟩;exact qwt h.2.2.2 c hc
def Got(W:World)(m:Nm)(s:S)(u:U)(cv:Value):Prop:=∃m' s' v,Grow m s m' s'/\gE m' s' W/\Ii s'/\(∀i b,lk s'.h i=some b->i<s'.nx)/\eN m' s'.nx v cv/\aD (cx s') u v
def Ur(W:World)(m:Nm)(s:S)(us:List U)(mF:List Value):Prop:=∃m' s' vs,Grow m s m' s'/\gE m' s' W/\Ii s'/\(∀i b,lk s'.h i=some b->i<s'.nx)/\mW m' s'.nx vs mF/\bB (cx s') us vs
mutual
theorem UF{W:World}:(u:U)->(cv:Value)->Rep W u cv->∀m s,gE m s W->Ii s->(∀i b,lk s.h i=some b->i<s.nx)->Got W m s u cv
 |.bool b,cv,h,m,s,hf,hn,gN=>by simp only[Rep]at h;subst h;exact⟨m,s,.bool b,Grow.refl _ _,hf,hn,gN,yT fun _=>by simp[aH],by simp[aD]⟩
 |.int k n,cv,h,m,s,hf,hn,gN=>by simp only[Rep]at h;subst h;exact⟨m,s,.int k n,Grow.refl _ _,hf,hn,gN,yT fun _=>by simp[aH],by simp[aD]⟩
 |.str l,cv,h,m,s,hf,hn,gN=>by simp only[Rep]at h;subst h;exact⟨m,s,_,Grow.refl _ _,hf,hn,gN,yT fun _=>by simp[aH],by simp[aD]⟩
 |.agg l,cv,h,m,s,hf,hn,gN=>by simp only[Rep]at h;obtain⟨mF,rfl,h1,h2,h3⟩:=h;obtain⟨m',s',vs,g1,g2,g3,g4,g5,g6⟩:=Wo l mF h1 m s hf hn gN;rw[h2,List.take_length]at g5;exact⟨m',s',.agg ⟨vs⟩,g1,g2,g3,g4,fun m'' ha=>by simp[aH,g5 m'' ha],by simp only[aD];exact⟨vs,rfl,g6.1,g6.2,h3⟩⟩
 |.isl t l,cv,h,m,s,hf,hn,gN=>by
  simp only[Rep]at h;obtain⟨rfl,h⟩:=h;rcases h with⟨rfl,rfl |⟨b,off,p,rfl⟩⟩|⟨b,off,c,rfl,hc,jg,h⟩;exact⟨m,s,.slice none 0 0,Grow.refl _ _,hf,hn,gN,yT fun _=>by simp[aH],by simp[aD]⟩;refine⟨m.set s.nx b off p,⟨s.h,s.nx+1⟩,.chan (some s.nx),⟨Nm.agree_set _ _ _ _ _,Nat.le_succ _,fun _ _ h=>h⟩,(bP.ghost hf b off p).fits,hn,fun i b hb=>Nat.lt_succ_of_lt (gN i b hb),fun m' ha=>?_,by simp[aD]⟩;obtain⟨q1,q2,q3⟩:=ha s.nx (zN _);simp[aH,q1,q2,q3,Nm.set];by_cases hl:l=[];subst hl;refine⟨m.set s.nx b off 0,⟨s.h,s.nx+1⟩,.slice (some ⟨s.nx,0,none⟩) 0 c,⟨Nm.agree_set _ _ _ _ _,Nat.le_succ _,fun _ _ h=>h⟩,(bP.ghost hf b off 0).fits,hn,fun i b hb=>Nat.lt_succ_of_lt (gN i b hb),fun m' ha=>?_,?_⟩;obtain⟨q1,q2,_⟩:=ha s.nx (zN _);simp[aH,q1,q2,Nm.set,bR,hc];simp only[aD];exact .inr ⟨s.nx,0,c,rfl,by simp,.inl trivial⟩;rcases h with h |⟨cs,e,fr,sz,hw,hr⟩;exact absurd h hl;obtain⟨m',s',vs,g1,g2,g3,g4,g5,g6⟩:=e? l _ hr m s hf hn gN;have cH:=qwt hr;have gY:∀m'',aK (s'.nx+1) (m'.set s'.nx b off 0) m''->aK s'.nx m' m'':=fun m'' ha=>(Nm.agree_set m' s'.nx b off 0).trans ha (Nat.le_succ _)
  have nY:∀m'',aK (s'.nx+1) (m'.set s'.nx b off 0) m''->m''.blk s'.nx=b/\m''.sh s'.nx=off:=fun m'' ha=>by obtain⟨q1,q2,_⟩:=ha s'.nx (zN _);simp[Nm.set]at q1 q2;exact⟨q1,q2⟩
  refine⟨m'.set s'.nx b off 0,⟨(s'.nx,.inl (vs,0,1))::s'.h,s'.nx+1⟩,.slice (some ⟨s'.nx,0,none⟩) l.length c,g1.trans ⟨Nm.agree_set _ _ _ _ _,Nat.le_succ _,fun i b hb=>?_⟩,fun m'' ha=>⟨fun i d hd=>?_,fun i j d d' hd bD mO ho=>?_,fun i d hd=>?_⟩,fun i d hd=>?_,fun i d hd=>?_,fun m'' ha=>?_,?_⟩;have:=g4 i b hb;simp[m5,show s'.nx≠i by omega,hb];simp only[m5]at hd;split at hd;rename_i e;subst e;cases hd;obtain⟨q1,q2⟩:=nY m'' ha;refine⟨cs,e,fr,by rw[q1];exact hw,fun k v hk=>?_,fun n hn=>absurd hn (by simp)⟩;have:=congrArg (fun z=>z[k]?) (g5 m'' (gY m'' ha));simp only[m4,List.getElem?_map,hk,zM,List.getElem?_take,List.getElem?_drop]at this;split at this;rw[q2];simpa using this.symm;cases this;exact(g2 m'' (gY m'' ha)).ok i d hd;simp only[m5]at hd bD;split at hd;cases hd;simp[Own]at ho;rw[g3 i d hd]at ho;cases ho;simp only[m5]at hd;split at hd;show i<s'.nx+1;omega;exact Nat.lt_succ_of_lt (g4 i d hd);simp only[m5]at hd;split at hd;cases hd;rfl;exact g3 i d hd;simp only[m5]at hd;split at hd;show i<s'.nx+1;omega;exact Nat.lt_succ_of_lt (g4 i d hd);obtain⟨q1,q2⟩:=nY m'' ha;simp[aH,q1,q2,bR,hc];have hg:Grow m' s' (m'.set s'.nx b off 0) ⟨(s'.nx,.inl (vs,0,1))::s'.h,s'.nx+1⟩:=⟨Nm.agree_set _ _ _ _ _,Nat.le_succ _,fun i b hb=>by have:=g4 i b hb;simp[m5,show s'.nx≠i by omega,hb]⟩;simp only[aD];exact .inr ⟨s'.nx,0,c,rfl,by simp,.inr ⟨vs,0,sz,by simp[cx,m5],qlm (hg.relE g6) cH,.inl ⟨hc,jg⟩⟩⟩
 |.junk,cv,h,m,s,hf,hn,gN=>by simp[Rep]at h
 |.nilp,cv,h,m,s,hf,hn,gN=>by simp[Rep]at h
 |.ptr _ _ _,cv,h,m,s,hf,hn,gN=>by simp[Rep]at h
 |.iptr _,cv,h,m,s,hf,hn,gN=>by simp[Rep]at h
 |.nils,cv,h,m,s,hf,hn,gN=>by simp[Rep]at h
 |.sl _ _ _ _,cv,h,m,s,hf,hn,gN=>by simp[Rep]at h
 |.vl _ _ _ _,cv,h,m,s,hf,hn,gN=>by simp[Rep]at h
 |.nilm,cv,h,m,s,hf,hn,gN=>by simp[Rep]at h
 |.map _,cv,h,m,s,hf,hn,gN=>by simp[Rep]at h
 |.fn _ _ _,cv,h,m,s,hf,hn,gN=>by simp[Rep]at h
 |.nilf,cv,h,m,s,hf,hn,gN=>by simp[Rep]at h
 |.nili,cv,h,m,s,hf,hn,gN=>by simp[Rep]at h
 |.tup _,cv,h,m,s,hf,hn,gN=>by simp[Rep]at h
theorem Wo{W:World}:(us:List U)->(mF:List Value)->mV W us mF->∀m s,gE m s W->Ii s->(∀i b,lk s.h i=some b->i<s.nx)->Ur W m s us (mF.take us.length)
 |[],mF,h,m,s,hf,hn,gN=>⟨m,s,[],Grow.refl _ _,hf,hn,gN,by simpa using qwq m s.nx,bB.nil _⟩|u::us,[],h,m,s,hf,hn,gN=>by simp[mV]at h
 |u::us,cv::mF,h,m,s,hf,hn,gN=>by simp only[mV]at h;obtain⟨m',s',v,g1,g2,g3,g4,g5,g6⟩:=UF u cv h.1 m s hf hn gN;obtain⟨m'',s'',vs,k1,k2,k3,k4,k5,k6⟩:=Wo us mF h.2 m' s' g2 g3 g4;exact⟨m'',s'',v::vs,g1.trans k1,k2,k3,k4,by simpa using z1b (g5.ext k1.agree k1.nx) k5,bB.cons (k1.rel g6) k6⟩
theorem e?{W:World}{sz:Nat}:(l:List (List U))->(mF:List Value)->KL W sz l mF->∀m s,gE m s W->Ii s->(∀i b,lk s.h i=some b->i<s.nx)->Ur W m s l.flatten (mF.take (l.length*sz))
 |[],mF,h,m,s,hf,hn,gN=>⟨m,s,[],Grow.refl _ _,hf,hn,gN,by simpa using qwq m s.nx,bB.nil _⟩|c::l,mF,h,m,s,hf,hn,gN=>by
  simp only[KL]at h;obtain⟨m',s',v,g1,g2,g3,g4,g5,g6⟩:=Wo c mF h.2.2.1 m s hf hn gN;obtain⟨m'',s'',vs,k1,k2,k3,k4,k5,k6⟩:=e? l _ h.2.2.2 m' s' g2 g3 g4;refine⟨m'',s'',v++vs,g1.trans k1,k2,k3,k4,?_,by rw[List.flatten_cons];exact(k1.relE g6).append k6⟩;have e:mF.take ((c::l).length*sz)=mF.take c.length++(mF.drop sz).take (l.length*sz):=by rw[zO,Nat.succ_mul,Nat.add_comm,List.take_add,h.1]
  rw[e];exact(g5.ext k1.agree k1.nx).append k5
end
theorem law_calls{P:Program}{f:FuncId}{us:List U}{W:World}{args:List Value}(h:bA P f us ⟨[],0⟩ (fun u _=>u=.bool true))(hr:mV W us args)(hl:us.length=args.length):
  Calls P f args.toArray W fun e w'=>e=.returned (.bool true)/\RowKit.Below W.heap.size W w':=by
 have h0:gE ⟨id,id,id⟩ ⟨[],0⟩ W:=fun m' _=>⟨fun i b hb=>by simp[lk]at hb,fun i j b c hb=>by simp[lk]at hb,fun i b hb=>by simp[lk]at hb⟩;obtain⟨m,s,vs,g1,g2,g3,g4,g5,g6⟩:=Wo us args hr ⟨id,id,id⟩ ⟨[],0⟩ h0 (fun i b hb=>by simp[lk]at hb) (fun i b hb=>by simp[lk]at hb);rw[hl,List.take_length]at g5;refine(h (fun _ _=>False) (cx s) vs m W args rfl ⟨fun k b hb=>by simp[cx,gt]at hb,fun k k' b b' i hb=>by simp[cx,gt]at hb,g4⟩ (fun _ _ J=>J.elim) g6 g2 g5).mono ?_;rintro e w' ⟨y,aJ,u,v,cv,rfl,rfl,aR,fX,_,_,B9,_,_⟩;simp only[aD]at B9;subst B9;have:=fX.at;simp only[aH]at this;exact⟨by rw[<-this],aR.below fun b ⟨i,c,hc,ho,_⟩=>by rw[g3 i c hc]at ho;cases ho⟩
def OfTy(P:Program):Nat->TypeId->List U->Prop
 |0,_,_=>False|n+1,t,us=>match P.underlying t with
  |some .bool=>∃b,us=[.bool b]|some (.int k)=>∃i,us=[.int k i]/\(Lit.int k i).wf=true
  |some .string=>∃s,us=[.str s]/\s.length<=maxLen|some (.slice e)=>∃l,us=[.isl false l]/\l.length<=maxLen/\∀c∈l,OfTy P n e c
  |some (.struct fs)=>us.length=P.cellsOf t/\∀f∈fs.toList,OfTy P n f.type ((us.drop f.offset).take (P.cellsOf f.type))|some (.array k e)=>us.length=P.cellsOf t/\∀i,i<k->OfTy P n e ((us.drop (i*P.cellsOf e)).take (P.cellsOf e))
  |_=>False
end Go.Vx
namespace Go.Vx
open Go Go.Rx
variable{tm:List U}
variable{tm':List U}
theorem gz{l:List Operand}(h:∀t∈tmpsOf l,tm[t]? = tm'[t]?){x:Operand}(hx:x∈l):c6 tm x=c6 tm' x:=by
 cases x with|tmp t=>simp only[c6,iQ];exact h t (qxt hx)|_=>rfl
theorem Lz{l:List Operand}(h:∀x∈l,c6 tm x=c6 tm' x):lZ tm l=lZ tm' l:=by
 induction l with|nil=>rfl|cons x l ih=>simp only[lZ];rw[h x (by simp),ih fun y hy=>h y (by simp[hy])]
theorem ql7{l:List (Nat×Operand)}(h:∀x∈l.map (·.2),c6 tm x=c6 tm' x):xR tm l=xR tm' l:=by
 induction l with|nil=>rfl|cons x l ih=>obtain⟨i,x⟩:=x;simp only[xR];rw[h x (by simp),ih fun y hy=>h y (by simp only[zQ,zI];exact .inr hy)]
theorem bh{x:Option Operand}(h:∀y,x=some y->c6 tm y=c6 tm' y):vI tm x=vI tm' x:=by
 rcases x with _|y;rfl;simp only[vI];rw[h y rfl]
section
variable{T:Tb}{tm tm':List U}{O:Sg}{op:Op}
theorem qum(h:∀x∈op.operands.toList,c6 tm x=c6 tm' x):i8 T O tm op=i8 T O tm' op:=by
 cases op<;>simp only[Op.operands]at h<;>try rfl
 case move x=>simp only[i8];exact h x (by simp)
 case assign x=>simp only[i8];exact h x (by simp)
 case pick c a b=>simp only[i8];rw[h c (by simp),h a (by simp),h b (by simp)]
 case build t ps=>simp only[i8];rw[ql7 (by simpa using h)]
 case nilCheck x=>simp only[i8];rw[h x (by simp)]
 case binOp o t x y ty=>simp only[i8];rw[h x (by simp),h y (by simp)]
 case unOp o t x=>simp only[i8];rw[h x (by simp)]
 case convert a b x=>simp only[i8];rw[h x (by simp)]
 case makeFunc f a b=>simp only[i8];rw[Lz fun x hx=>h x (by simp at hx ⊢;exact .inl hx),Lz fun x hx=>h x (by simp at hx ⊢;exact .inr hx)]
 case slice t x lo hi mx=>simp only[i8];rw[h x (by simp),bh (x:=lo) fun y hy=>h y (by subst hy;simp),bh (x:=hi) fun y hy=>h y (by subst hy;simp),bh (x:=mx) fun y hy=>h y (by subst hy;simp)]
 case fieldAddr t x f=>simp only[i8];rw[h x (by simp)]
 case field t x f=>simp only[i8];rw[h x (by simp)]
 case indexAddr t x i=>simp only[i8];rw[h x (by simp),h i (by simp)]
 case index t x i=>simp only[i8];rw[h x (by simp),h i (by simp)]
 case extract x i=>simp only[i8];rw[h x (by simp)]
 case call c=>simp only[i8];rw[Lz (l:=c.args.toList) fun x hx=>h x (by simp[Call.operands]at hx ⊢;exact .inr hx)]
theorem qup(h:∀x∈op.operands.toList,c6 tm x=c6 tm' x):pL T O tm op=pL T O tm' op:=by
 cases op<;>simp only[Op.operands]at h<;>try rfl
 case load t x=>simp only[pL];rw[h x (by simp)]
 case lookup t x k ok=>simp only[pL];rw[h x (by simp),h k (by simp)]
theorem qxj(h:∀x∈op.operands.toList,c6 tm x=c6 tm' x):nO T O tm op=nO T O tm' op:=by
 cases op<;>simp only[Op.operands]at h<;>try rfl
 case box t x=>simp only[nO];rw[h x (by simp)]
 case store t x y=>simp only[nO];rw[h x (by simp),h y (by simp)]
 case buildSlice t n ps=>simp only[nO];rw[ql7 (by simpa using h)]
 case makeSlice t x y=>simp only[nO];rw[h x (by simp),h y (by simp)]
 case makeMap t r=>cases r<;>rfl
 case mapUpdate t x y z=>simp only[nO];rw[h x (by simp),h y (by simp),h z (by simp)]
 case insert t x y z=>simp only[nO];rw[h x (by simp),h y (by simp),h z (by simp)]
 case mapEntry t x y=>simp only[nO];rw[h x (by simp),h y (by simp)]
 case entryStore t x y z=>simp only[nO];rw[h x (by simp),h y (by simp),h z (by simp)]
 case call c=>simp only[nO];rw[Lz (l:=c.args.toList) fun x hx=>h x (by simp[Call.operands]at hx ⊢;exact .inr hx)]
theorem bc(h:∀x∈op.operands.toList,c6 tm x=c6 tm' x):jL T tm op=jL T tm' op:=by
 cases op<;>simp only[Op.operands]at h<;>try rfl
 case call c=>
  simp only[jL];rw[Lz (l:=c.args.toList) fun x hx=>h x (by simp[Call.operands]at hx ⊢;exact .inr hx)];cases hc:c.callee with
  |value f=>simp only[];rw[h f (by simp[Call.operands,hc])]|_=>rfl
theorem Xq(h:∀x∈op.operands.toList,c6 tm x=c6 tm' x):bO T O tm op=bO T O tm' op:=by
 unfold bO;rw[qum h,qup h,qxj h]
end
theorem X4{aA:List Oper}{o:Oper}(h:∀t∈L7 aA o,tm[t]? = tm'[t]?):(∀x∈o.op.operands.toList,c6 tm x=c6 tm' x)/\cP aA tm o=cP aA tm' o:=by
 unfold L7 at h;unfold cP;cases hg:o.guard with
 |none=>simp only[hg]at h;exact⟨fun x hx=>gz h hx,rfl⟩|some g=>
  obtain⟨j,want⟩:=g;simp only[hg]at h;cases hd:yO aA j with
  |none=>simp only[hd]at h;exact⟨fun x hx=>gz h hx,by simp only[hd]⟩|some d=>simp only[hd]at h;refine⟨fun x hx=>gz (fun t ht=>h t (by simp[ht])) hx,?_⟩;simp only[hd,iQ];rw[h d (by simp)]
variable{K:Nat}
variable{k:Nat}
theorem Yx(h:Nat.beq k K=false)(b:B)(sz st off n:Nat):fz K b sz (.vl k st off n)=.vl k st off n:=by simp[fz,h]
theorem Yy(h:Nat.beq k K=false)(b:B)(sz off n c:Nat):fz K b sz (.sl k off n c)=.sl k off n c:=by simp[fz,h]
theorem Yz(h:Nat.beq k K=false)(b:B)(sz st off:Nat):fz K b sz (.ptr k st off)=.ptr k st off:=by simp[fz,h]
theorem RL(K:Nat)(l:List U)(e:TypeId)(sz n:Nat)(h:n*sz<=l.length):fz K (.row l e) sz (.sl K 0 n n)=.isl false (cA sz n l):=by
 have:Nat.beq n n=true:=by simp[beq_eq]
 simp[fz,beq_eq,h]
theorem Si(K:Nat)(l:List U)(e:TypeId)(sz:Nat):fz K (.row l e) sz (.ptr K 0 0)=.iptr l:=by simp[fz,beq_eq]
theorem P6(K:Nat)(b:B)(sz:Nat)(k:IntKind)(n:Int):fz K b sz (.int k n)=.int k n:=by simp[fz]
theorem PF(K:Nat)(b:B)(sz:Nat)(x:Bool):fz K b sz (.bool x)=.bool x:=by simp[fz]
theorem P4(K:Nat)(b:B)(sz:Nat)(x:List UInt8):fz K b sz (.str x)=.str x:=by simp[fz]
theorem PD(K:Nat)(b:B)(sz:Nat):fz K b sz .nils=.nils:=by simp[fz]
theorem V5(K:Nat)(b:B)(sz:Nat):fz K b sz .nilp=.nilp:=by simp[fz]
theorem V6(K:Nat)(b:B)(sz:Nat):fz K b sz .nilm=.nilm:=by simp[fz]
theorem V7(K:Nat)(b:B)(sz:Nat):fz K b sz .nilf=.nilf:=by simp[fz]
theorem PE(K:Nat)(b:B)(sz:Nat):fz K b sz .junk=.junk:=by simp[fz]
theorem P5(K:Nat)(b:B)(sz:Nat)(t:Bool)(l:List (List U)):fz K b sz (.isl t l)=.isl t l:=by simp[fz]
theorem UW(K:Nat)(b:B)(sz:Nat)(k:Nat):fz K b sz (.map k)=.map k:=by simp[fz]
theorem P7(K:Nat)(b:B)(sz:Nat)(l:List U):fz K b sz (.agg l)=.agg (lA K b sz l):=by simp[fz]
theorem P0(K:Nat)(b:B)(sz:Nat)(l:List U):fz K b sz (.tup l)=.tup (lA K b sz l):=by simp[fz]
theorem OV(K:Nat)(b:B)(sz:Nat)(f:Fn)(a c:List U):fz K b sz (.fn f a c)=.fn f (lA K b sz a) (lA K b sz c):=by simp[fz]
theorem PH(K:Nat)(b:B)(sz:Nat):lA K b sz []=[]:=by simp[lA]
theorem JI(K:Nat)(b:B)(sz:Nat)(u:U)(l:List U):lA K b sz (u::l)=fz K b sz u::lA K b sz l:=by simp[lA]
mutual
theorem Wa{K:Nat}(b:B)(sz:Nat):(u:U)->b7 K u->fz K b sz u=u
 |.sl k _ _ _,h=>Yy (by simp only[b7]at h;simp[beq_eq];omega) _ _ _ _ _|.vl k _ _ _,h=>Yx (by simp only[b7]at h;simp[beq_eq];omega) _ _ _ _ _
 |.ptr k _ _,h=>Yz (by simp only[b7]at h;simp[beq_eq];omega) _ _ _ _|.agg l,h=>by simp only[b7]at h;rw[P7,vK b sz l h]
 |.tup l,h=>by simp only[b7]at h;rw[P0,vK b sz l h]
 |.fn f a c,h=>by simp only[b7]at h;rw[OV,vK b sz a h.1,vK b sz c h.2]
 |.int _ _,_=>P6 _ _ _ _ _|.bool _,_=>PF _ _ _ _
 |.str _,_=>P4 _ _ _ _|.nils,_=>PD _ _ _
 |.nilp,_=>V5 _ _ _|.nilm,_=>V6 _ _ _
 |.nilf,_=>V7 _ _ _|.nili,_=>by simp[fz]
 |.junk,_=>PE _ _ _|.isl _ _,_=>P5 _ _ _ _ _
 |.iptr _,_=>by simp[fz]
 |.map _,_=>UW _ _ _ _
theorem vK{K:Nat}(b:B)(sz:Nat):(l:List U)->aN K l->lA K b sz l=l
 |[],_=>PH _ _ _|u::l,h=>by simp only[aN]at h;rw[JI,Wa b sz u h.1,vK b sz l h.2]
end
variable{x:Cx}
theorem nI.belB{b:B}(h:nI x k b):BelB x.O.nx b:=by
 cases b with
 |row l e=>obtain⟨_,_,_,_,_,e3⟩:=h;exact e3.bel
 |vec l e sz st=>obtain⟨_,_,h3⟩:=h;rcases h3 with⟨rfl,_⟩|⟨_,_,_,_,e3⟩;simp[BelB,aN];exact e3.bel
 |map es cl=>obtain⟨_,es',_,_,e3⟩:=h;intro e he;obtain⟨j,hj,rfl⟩:=List.getElem_of_mem he;obtain⟨v,_,q2,q3,_⟩:=e3.2 j _ (List.getElem?_eq_getElem hj);exact⟨aD.bel _ _ q2,aD.bel _ _ q3⟩
variable{n0:Nat}
variable{O:Sg}
theorem Gh.same(h':List (Nat×B))(hg:∀k,gt h' k=gt O.h k):Gh n0 tm O tm ⟨h',O.nx⟩:=fun F x tv hx hr hf he=>by
 subst hx;have fM:Mo x.O.nx x ⟨x.Y,⟨h',x.O.nx⟩,x.s⟩:=⟨fun k _ h2=>⟨h2,fun b hb=>⟨b,by rw[<-hg];exact hb,zF _,fun _=>⟨rfl,fun l e sz st h=>⟨l,h⟩⟩⟩⟩,fun _ _ _ h=>h⟩;refine⟨⟨x.Y,⟨h',x.O.nx⟩,x.s⟩,fun m w hf=>bP.refl hf,rfl,⟨fun k b hb=>?_,fun k k' b b' i hb cQ=>?_,hr.bd⟩,fun i b J=>?_,fM.ke.E he.bel he,fun u v hb hr=>fM.ke u v (aD.bel u v hr) hr⟩;have cQ:gt x.O.h k=some b:=by rw[<-hg];exact hb
 obtain⟨h1,h2⟩:=hr.ok k b cQ;exact⟨h1,h2.mono fM rfl fun _ _ _ h=>h⟩;exact hr.inj k k' b b' i (by rw[<-hg];exact hb) (by rw[<-hg];exact cQ);obtain⟨h1,h2⟩:=hf i b J;exact⟨h1,fun k c hc=>h2 k c (by rw[<-hg];exact hc)⟩
variable{T:Tb}
variable{op:Op}
theorem qyt{q:FuncId×List U}(h:jL T tm op=some q):bO T O tm op=none:=by
 cases op with
 |call c=>
  simp only[jL]at h;cases hc:c.callee with
  |value f=>simp[bO,i8,pL,nO,hc]|_=>simp[hc]at h
 |_=>simp[jL]at h
theorem Gh.cutG{n1:Nat}(h1:n0<=n1)(h2:n1<=O.nx)(hb:aN n1 tm)(hh:∀k b,gt (Vx.cut n1 O.h) k=some b->BelB n1 b):Gh n0 tm O tm ⟨Vx.cut n1 O.h,n1⟩:=fun F x tv hx hr hf he=>by
 subst hx;have fM:Mo n1 x ⟨x.Y,⟨Vx.cut n1 x.O.h,n1⟩,x.s⟩:=by refine⟨fun k hk _=>⟨hk,fun b hb=>?_⟩,fun _ _ _ h=>h⟩;simp only[Is,hk,if_true]at hb;exact⟨b,hb,zF _,fun _=>⟨rfl,fun l e sz st h=>⟨l,h⟩⟩⟩
 have sub:∀{k b},gt (Vx.cut n1 x.O.h) k=some b->k<n1/\gt x.O.h k=some b:=fun{k b} hg=>by simp only[Is]at hg;split at hg;exact⟨by assumption,hg⟩;cases hg
 refine⟨⟨x.Y,⟨Vx.cut n1 x.O.h,n1⟩,x.s⟩,fun m w hf=>bP.refl hf,rfl,⟨fun k b hg=>?_,fun k k' b b' i g1 g2=>hr.inj k k' b b' i (sub g1).2 (sub g2).2,hr.bd⟩,fun i b J=>?_,fM.ke.E hb he,fM.ke.le h1⟩;exact⟨(sub hg).1,(hr.ok k b (sub hg).2).2.monoB (hh k b hg) fM rfl fun _ _ _ h=>h⟩;exact⟨(hf i b J).1,fun k c hc=>(hf i b J).2 k c (sub hc).2⟩
theorem qox{k:Nat}(sz:Nat):∀(n:Nat)(l:List U),aN k l->lX k (cA sz n l)
 |0,l,_=>by simp[cA,lX]
 |n+1,l,h=>by simp only[cA,lX];exact⟨(PN k _).2 fun u hu=>(PN k _).1 h u (List.mem_of_mem_take hu),qox sz n _ ((PN k _).2 fun u hu=>(PN k _).1 h u (List.mem_of_mem_drop hu))⟩
def EE(P:Program)(T:Tb)(tm:List U)(op:Op)(u:U):Prop :=
 (∃f args,jL T tm op=some (f,args)/\∀s,bA P f args s (fun u' O=>u'=u/\O=s))\/ (∃n sz cs e,(∀O,bO T O tm op=some (.sl O.nx 0 n n,newU O (.row cs e)))/\n*sz<=cs.length/\aN 0 cs/\u=.isl false (cA sz n cs))
theorem Gh.quiet{n sz:Nat}{cs:List U}{e:TypeId}{d:Option Tmp}(h0:n0<=O.nx)(hb:aN O.nx tm)(hs:∀k b,gt O.h k=some b->k<O.nx/\BelB O.nx b)(hl:n*sz<=cs.length)(u7:aN 0 cs):Gh n0 (eH tm d (.sl O.nx 0 n n)) (newU O (.row cs e)) (eH tm d (.isl false (cA sz n cs))) O:=by
 have e0:gt (newU O (.row cs e)).h O.nx=some (.row cs e):=by simp[newU,lG]
 have et:lA O.nx (.row cs e) sz (eH tm d (.sl O.nx 0 n n))=eH tm d (.isl false (cA sz n cs)):=by
  rcases d with _|t;simp only[eH];exact vK _ _ _ hb;simp only[eH];have key:∀(l:List U)(t:Nat),aN O.nx l->lA O.nx (.row cs e) sz (l.set t (.sl O.nx 0 n n))=l.set t (.isl false (cA sz n cs)):=by
   intro l;induction l with
   |nil=>intro t _;simp[lA]|cons u l ih=>
    intro t h;simp only[aN]at h;cases t with
    |zero=>simp only[List.set_cons_zero,JI,vK _ _ l h.2,RL O.nx cs e sz n hl]|succ t=>simp only[List.set_cons_succ,JI,Wa _ _ u h.1,ih t h.2]
  exact key tm t hb
 have hbt:aN O.nx (eH tm d (.isl false (cA sz n cs))):=by
  rcases d with _|t;simpa only[eH]using hb;simp only[eH];have key:∀(l:List U)(t:Nat),aN O.nx l->aN O.nx (l.set t (.isl false (cA sz n cs))):=by
   intro l;induction l with
   |nil=>intro t _;simp[aN]|cons u l ih=>
    intro t h;simp only[aN]at h;cases t with
    |zero=>simp only[List.set_cons_zero,aN];exact⟨by simp only[b7];exact qox sz n cs (aN.le (Nat.zero_le _) _ u7),h.2⟩|succ t=>simp only[List.set_cons_succ,aN];exact⟨h.1,ih t h.2⟩
  exact key tm t hb
 have eg:∀k,gt (Vx.cut O.nx (fzH O.nx (.row cs e) sz (newU O (.row cs e)).h)) k=gt O.h k:=fun k=>by
  rw[Is];by_cases hk:k<O.nx;rw[if_pos hk,v_,if_neg (by omega)];have:gt (newU O (.row cs e)).h k=gt O.h k:=by simp only[newU,lG];rw[if_neg (by omega)]
  rw[this];rcases hg:gt O.h k with _|b;rfl;have hb:=(hs k b hg).2;simp only[zM,zA];cases b with
  |row l e=>simp only[fzB];rw[vK _ _ _ hb]|vec l e s st=>simp only[fzB];rw[vK _ _ _ hb]
  |map es cl=>
   simp only[fzB];congr 1;have:∀q∈es,({ q with val:=fz O.nx (.row cs e) sz q.val }:_)=q:=fun q hq=>by rw[Wa _ _ _ (hb q hq).2]
   exact(List.map_congr_left this).trans (List.map_id _)
  rw[if_neg hk];rcases hg:gt O.h k with _|b;rfl;exact absurd (hs k b hg).1 hk
 refine(Gh.freeze (n0:=n0) sz e0 (by simp)).trans ?_;rw[et];refine(Gh.cutG (n0:=n0) (n1:=O.nx) h0 (by simp[newU]) hbt ?_).trans ?_;intro k b hg;rw[eg]at hg;exact(hs k b hg).2;exact Gh.same (O:=⟨Vx.cut O.nx (fzH O.nx (.row cs e) sz (newU O (.row cs e)).h),O.nx⟩) O.h fun k=>(eg k).symm
variable{P:Program}
variable{u:U}
theorem EE.noop(h:EE P T tm op u)(O:Sg):bO T O tm op≠some (u,O):=fun hc=>by
 rcases h with⟨f,args,h,_⟩|⟨n,sz,cs,e,h,_⟩;rw[qyt h]at hc;cases hc;rw[h O]at hc;simp only[zA,zB]at hc;have:=congrArg Sg.nx hc.2;simp only[newU]at this;omega
theorem EE.congr(h:∀x∈op.operands.toList,c6 tm x=c6 tm' x)(hf:EE P T tm' op u):EE P T tm op u:=by
 rcases hf with⟨f,args,h1,h2⟩|⟨n,sz,cs,e,h1,h2⟩;exact .inl ⟨f,args,(bc h).trans h1,h2⟩;exact .inr ⟨n,sz,cs,e,fun O=>(Xq h).trans (h1 O),h2⟩
theorem EE.nd(h:EE P T tm op u):∀c,op≠.defer c:=by
 rcases h with⟨f,args,h1,_⟩|⟨n,sz,cs,e,h1,_⟩;exact Xj h1;exact Bo (h1 ⟨[],0⟩)
variable{F:Nat->lB->Prop}
theorem St.free(hT:kS P T){tv:List Value}{m:Nm}{w:World}{a:Act}(st:St F x tm tv m w a)(o:Oper)(h:EE P T tm o.op u){next:Act->World->Prop}{Q:Exit->Act->World->Prop}
  (hn:∀y dM aJ w₁ bJ,y.O=x.O->St F y (eH tm o.dst u) dM aJ w₁ bJ->bP m x.s w aJ y.s w₁->Ke x.O.nx x y->x.O.nx<=y.O.nx->bJ.defers=a.defers->next bJ w₁):o.wp P a w next Q:=by
 rcases h with⟨f,args,h1,h2⟩|⟨n,sz,cs,e,h1,h2,h3,rfl⟩;refine st.call hT o h1 (h2 x.O) fun y u' dM aJ w₁ bJ hR cT bW dO pO iA=>?_
 obtain⟨rfl,ib⟩:=hR;exact hn y dM aJ w₁ bJ ib cT bW dO pO iA;refine st.op hT o (h1 x.O) fun y dM aJ w₁ bJ e1 cT bW dO pO iA=>?_;obtain⟨z,g1,g2,g3,g4,g5,g6⟩:=Gh.quiet (n0:=x.O.nx) (O:=x.O) (d:=o.dst) (e:=e) (zF _) st.e.bel (fun k b hg=>⟨(st.h.ok k b hg).1,(st.h.ok k b hg).2.belB⟩) h2 h3 F y dM e1 cT.h cT.fr cT.e;have dA:=g1 aJ w₁ cT.fits;exact hn z dM aJ w₁ bJ g2 ⟨g3,g4,g5,dA.fits,cT.act.ext dA.agree dA.nx⟩ (bW.trans dA) (dO.trans g6) (by rw[g2];exact zF _) iA
theorem St.opfz(hT:kS P T){tv:List Value}{m:Nm}{w:World}{a:Act}(st:St F x tm tv m w a)(o:Oper){u1:U}{s1 s':Sg}{d:Nat}(sF:bO T x.O tm o.op=some (u1,s1))(hd:o.dst=some d)(HF:d<tm.length)
  (hg:Gh s1.nx [u1] s1 [u] s') (hn:s1.nx<=s'.nx) {next:Act->World->Prop} {Q:Exit->Act->World->Prop}
  (hk:∀y dM aJ w₁ bJ,y.O=s'->St F y (eH tm o.dst u) dM aJ w₁ bJ->bP m x.s w aJ y.s w₁->Ke x.O.nx x y->x.O.nx<=y.O.nx->bJ.defers=a.defers->next bJ w₁):o.wp P a w next Q:=by
 refine st.op hT o sF fun y dM aJ w₁ bJ e1 cT bW dO pO iA=>?_;have he:=cT.e;rw[hd]at he hk;simp only[eH]at he hk;obtain⟨v1,f',Qc⟩:=he.get (List.getElem?_set_self (by simpa using HF));obtain⟨z,g1,g2,g3,g4,g5,g6⟩:=hg F y [v1] e1 cT.h cT.fr (bB.cons Qc (bB.nil y));have dA:=g1 aJ w₁ cT.fits;obtain⟨v1',_,tz,R0,_⟩:=g5.inv;cases tz;have hez:bB z (tm.set d u) dM:=by refine⟨(G5 z _ _).2 fun i u' EV=>?_,by have:=he.2;simpa using this⟩;by_cases hi:d=i;subst hi;rw[List.getElem?_set_self (by simpa using HF)]at EV;cases EV;exact⟨v1,f',R0⟩;rw[List.getElem?_set_ne hi]at EV;obtain⟨v,hv,hr⟩:=he.get (i:=i) (u:=u') (by rw[List.getElem?_set_ne hi];exact EV);refine⟨v,hv,g6 u' v ?_ hr⟩;have hb:=(PN y.O.nx _).1 he.bel u' (by rw[List.mem_iff_getElem?];exact⟨i,by rw[List.getElem?_set_ne hi];exact EV⟩);rw[e1]at hb;exact hb
 exact hk z dM aJ w₁ bJ g2 ⟨g3,g4,hez,dA.fits,cT.act.ext dA.agree dA.nx⟩ (bW.trans dA) (dO.trans (g6.le (by rw[<-e1];exact pO))) (by rw[g2];rw[e1]at pO;omega) iA
structure eI where
 tm:List U
 o:Oper
 u:U
 act:Bool
 mv:Bool
 s:Sg
 s':Sg
def Good(P:Program)(T:Tb)(aA:List Oper)(r:eI):Prop :=
 (cP aA r.tm r.o=some false/\r.u=.tup []/\r.act=false/\r.s'=r.s)\/ (cP aA r.tm r.o=some true/\bO T r.s r.tm r.o.op=some (r.u,r.s')/\(r.act=false->r.s'=r.s))\/ (cP aA r.tm r.o=some true/\r.act=true/\∃f args,jL T r.tm r.o.op=some (f,args)/\bA P f args r.s (fun u O=>u=r.u/\O=r.s'))\/ (cP aA r.tm r.o=some true/\r.act=false/\r.s'=r.s/\EE P T r.tm r.o.op r.u)\/ (r.act=false/\r.mv=true/\r.s'=r.s)\/ (cP aA r.tm r.o=some true/\r.act=true/\∃u1 s1 d,bO T r.s r.tm r.o.op=some (u1,s1)/\r.o.dst=some d/\d<r.tm.length/\Gh s1.nx [u1] s1 [r.u] r.s'/\s1.nx<=r.s'.nx)
variable{r:eI}
theorem Good.quiet{aA:List Oper}(h:Good P T aA r)(ha:r.act=false):r.s'=r.s:=by
 rcases h with⟨_,_,_,h⟩|⟨_,_,h⟩|⟨_,h,_⟩|⟨_,_,h,_⟩|⟨_,_,h⟩|⟨_,h,_⟩;exact h;exact h ha;rw[ha]at h;cases h;exact h;exact h;rw[ha]at h;cases h
def jE(rs:List eI)(O':Sg)(p:Nat):Sg:=match rs[p]? with
 |some r=>r.s|none=>O'
def vW(rs:List eI)(tm':List U)(p:Nat):List U:=match rs[p]? with
 |some r=>r.tm|none=>tm'
structure kj(P:Program)(T:Tb)(aA:List Oper)(tm₀:List U)(F6:Sg)(rs:List eI)(tm':List U)(O':Sg):Prop where
 len:rs.length=aA.length
 s0:jE rs O' 0=F6
 t0:vW rs tm' 0=tm₀
 all:∀(i:Nat)(r:eI),rs[i]? = some r->aA[i]? = some r.o/\Good P T aA r/\jE rs O' (i+1)=r.s'/\vW rs tm' (i+1)=eH r.tm r.o.dst r.u
structure rf(T:Tb)(aA:List Oper)(rs:List eI):Prop where
 acts:∀(i k:Nat)(r q:eI),rs[i]? = some r->rs[k]? = some q->r.act=true->q.act=true->k<i->Pre aA i k
 lo:∀(i k:Nat)(r q:eI),rs[i]? = some r->rs[k]? = some q->r.act=false->cP aA r.tm r.o=some true->bO T r.s r.tm r.o.op=some (r.u,r.s')->q.act=true->k<i->Pre aA i k\/q.s=r.s\/bO T q.s r.tm r.o.op=some (r.u,q.s)
 hi:∀(i k:Nat)(r q:eI),rs[i]? = some r->rs[k]? = some q->r.act=false->cP aA r.tm r.o=some true->bO T r.s r.tm r.o.op=some (r.u,r.s')->q.act=true->i<k->Pre aA k i\/q.s'=r.s\/bO T q.s' r.tm r.o.op=some (r.u,q.s')
structure L4(tm₀:List U)(rs:List eI)(L:Nat->Prop)(tm:List U):Prop where
 len:tm.length=tm₀.length
 yes:∀(k:Nat)(r:eI)(d:Nat),rs[k]? = some r->r.o.dst=some d->d<tm₀.length->L k->tm[d]? = some r.u
 no:∀(k:Nat)(r:eI)(d:Nat),rs[k]? = some r->r.o.dst=some d->¬ L k->tm[d]? = tm₀[d]?
 other:∀(t:Nat),(∀(k:Nat)(r:eI),rs[k]? = some r->r.o.dst≠some t)->tm[t]? = tm₀[t]?
section
variable{P:Program}{T:Tb}(hT:kS P T)(aA:Array Oper){tm₀:List U}{F6:Sg}{rs:List eI}{tm':List U}{O':Sg}
 (iY:kj P T aA.toList tm₀ F6 rs tm' O') (c8:VJ aA.toList=true)
include iY c8
omit c8 in
theorem UE{i:Nat}{o:Oper}(ho:aA.toList[i]? = some o):∃r,rs[i]? = some r/\r.o=o:=by
 have hi:i<rs.length:=by rw[iY.len];exact(zG.1 ho).1
 have hr:rs[i]? = some rs[i]:=by simp[hi]
 refine⟨_,hr,?_⟩;have:=(iY.all i _ hr).1;rw[ho]at this;exact(Option.some.inj this).symm
variable{i:Nat}
theorem qvj{q:eI}(hr:rs[i]? = some r)(hq:rs[k]? = some q)(D9:i≠k){d:Tmp}(hd:q.o.dst=some d):r.o.dst≠some d :=
 (X_ c8 (iY.all i r hr).1 (iY.all k q hq).1 D9 hd).1
theorem qtg{L:Nat->Prop}(h:L4 tm₀ rs L tm)(hr:rs[i]? = some r):L4 tm₀ rs (fun k=>L k\/k=i) (eH tm r.o.dst r.u):=by
 cases hd:r.o.dst with
 |none=>simp only[eH];refine⟨h.len,fun k q d hq D5 aG hL=>?_,fun k q d hq D5 hL=>h.no k q d hq D5 fun x=>hL (.inl x),h.other⟩;rcases hL with hL |rfl;exact h.yes k q d hq D5 aG hL;rw[hr]at hq;cases hq;rw[hd]at D5;cases D5
 |some ZN=>
  simp only[eH];refine⟨by simp[h.len],fun k q d hq D5 aG hL=>?_,fun k q d hq D5 hL=>?_,fun t ht=>?_⟩;by_cases Qn:k=i;subst Qn;rw[hr]at hq;cases hq;rw[hd]at D5;cases D5;rw[List.getElem?_set_self (by rw[h.len];exact aG)];have cW:ZN≠d:=fun e=>by have:=qvj aA iY c8 hr hq (fun x=>Qn x.symm) D5;exact this (by rw[hd,e])
  rw[List.getElem?_set_ne cW];rcases hL with hL |hL;exact h.yes k q d hq D5 aG hL;exact absurd hL Qn;have Qn:k≠i:=fun e=>hL (.inr e)
  have cW:ZN≠d:=fun e=>by have:=qvj aA iY c8 hr hq (fun x=>Qn x.symm) D5;exact this (by rw[hd,e])
  rw[List.getElem?_set_ne cW];exact h.no k q d hq D5 fun x=>hL (.inl x);have cW:ZN≠t:=fun e=>ht i r hr (by rw[hd,e]);rw[List.getElem?_set_ne cW];exact h.other t ht
omit iY c8 in
theorem qpd:L4 tm₀ rs (fun _=>False) tm₀:=⟨rfl,fun _ _ _ _ _ _ h=>h.elim,fun _ _ _ _ _ _=>rfl,fun _ _=>rfl⟩
theorem ul(p:Nat)(hp:p<=rs.length):L4 tm₀ rs (fun k=>k<p) (vW rs tm' p):=by
 induction p with
 |zero=>rw[iY.t0];have:=qpd (rs:=rs) (tm₀:=tm₀);refine⟨this.len,fun k r d _ _ _ hL=>by omega,fun k r d h1 h2 _=>this.no k r d h1 h2 (fun x=>x),this.other⟩|succ p ih=>
  have hr:rs[p]? = some rs[p]:=by simp[show p<rs.length by omega]
  have h5:=(iY.all p _ hr).2.2.2;have Fa:=ih (by omega);have e1:vW rs tm' p=rs[p].tm:=by simp[vW,hr]
  rw[e1]at Fa;have:=qtg aA iY c8 Fa hr;rw[h5];refine⟨this.len,fun k q d a b c hL=>this.yes k q d a b c (by omega),fun k q d a b hL=>this.no k q d a b (by omega),this.other⟩
omit iY c8 in
theorem qy2{L:Nat->Prop}{a b:List U}(ha:L4 tm₀ rs L a)(hb:L4 tm₀ rs L b):a=b:=by
 apply List.ext_getElem?;intro t;by_cases ht:∀(k:Nat)(r:eI),rs[k]? = some r->r.o.dst≠some t;rw[ha.other t ht,hb.other t ht];have:∃(k:Nat)(r:eI),rs[k]? = some r/\r.o.dst=some t:=by apply Classical.byContradiction;intro hn;exact ht fun k r hr hd=>hn ⟨k,r,hr,hd⟩
 obtain⟨k,r,hr,hd⟩:=this;by_cases hL:L k;by_cases aG:t<tm₀.length;rw[ha.yes k r t hr hd aG hL,hb.yes k r t hr hd aG hL];rw[List.getElem?_eq_none (by rw[ha.len];omega),List.getElem?_eq_none (by rw[hb.len];omega)];rw[ha.no k r t hr hd hL,hb.no k r t hr hd hL]
theorem qut{L:Nat->Prop}(hL:Closed aA.toList L)(h:L4 tm₀ rs L tm)(hr:rs[i]? = some r)(hi:¬ L i)
  (qS:∀o,aA.toList[i]? = some o->∀e∈o.after.toList,Region.binds .any e=true->L e.on):∀t∈L7 aA.toList r.o,tm[t]? = r.tm[t]?:=by
 have Fm:i<rs.length:=(zG.1 hr).1;have nY:=ul aA iY c8 i (Nat.le_of_lt Fm);have e1:vW rs tm' i=r.tm:=by simp[vW,hr]
 rw[e1]at nY;intro(t:Nat) ht;by_cases hJ:∀(k:Nat)(q:eI),rs[k]? = some q->q.o.dst≠some t;rw[h.other t hJ,nY.other t hJ];have:∃(k:Nat)(q:eI),rs[k]? = some q/\q.o.dst=some t:=by apply Classical.byContradiction;intro hn;exact hJ fun k r hr hd=>hn ⟨k,r,hr,hd⟩
 obtain⟨k,q,hq,hd⟩:=this;have ho:=(iY.all i r hr).1;have hk:=(iY.all k q hq).1;by_cases D9:i=k;subst D9;rw[h.no i q t hq hd hi,nY.no i q t hq hd (by omega)];rcases(X_ c8 ho hk D9 hd).2 ht with hp |hp;have hLk:=Xp c8 hL qS hp;have aG:=e_ c8 i k hp;by_cases MV:t<tm₀.length;rw[h.yes k q t hq hd MV hLk,nY.yes k q t hq hd MV aG];rw[List.getElem?_eq_none (by rw[h.len];omega),List.getElem?_eq_none (by rw[nY.len];omega)];have hnk:¬ L k:=fun x=>hi (gi c8 hL k i x hp)
 have aG:=e_ c8 k i hp;rw[h.no k q t hq hd hnk,nY.no k q t hq hd (by omega)]
omit c8 in
theorem Cc{p q:Nat}(R1:p<=q)(hq:q<=rs.length)(hJ : ∀(e:Nat)(r:eI),p<=e->e<q->rs[e]? = some r->r.act=false): jE rs O' p=jE rs O' q:=by
  induction q with
  | zero => have : p = 0 := by omega
            rw[this]
  |succ q ih=>
    rcases Nat.lt_or_ge q p with h |h;have:p=q+1:=by omega
    rw[this];rw[ih h (by omega) fun e r h1 h2 h3=> hJ e r h1 (by omega) h3];have hr:rs[q]? = some rs[q]:=by simp[show q<rs.length by omega]
    obtain⟨_,g2,g3,_⟩:=iY.all q _ hr;rw[g3,g2.quiet (hJ q _ h (zN _) hr)];simp[jE,hr]
omit iY c8 in
theorem z72{i p:Nat}(h:∃(e:Nat)(q:eI),i<e/\e<p/\rs[e]? = some q/\q.act=true):∃(e:Nat)(q:eI),i<e/\e<p/\rs[e]? = some q/\q.act=true/\∀(e':Nat)(q':eI),e<e'->e'<p->rs[e']? = some q'->q'.act=false:=by
 obtain⟨e,q,g1,g2,g3,g5⟩:=h;have:∀(n e:Nat)(q:eI),p-e=n->i<e->e<p->rs[e]? = some q->q.act=true->∃(e:Nat)(q:eI),i<e/\e<p/\rs[e]? = some q/\q.act=true/\∀(e':Nat)(q':eI),e<e'->e'<p->rs[e']? = some q'->q'.act=false:=by
  intro n;induction n using Nat.strongRecOn with
  |_ n ihn=>intro e q cW g1 g2 g3 g5;by_cases wO:∃(e':Nat)(q':eI),e<e'/\e'<p/\rs[e']? = some q'/\q'.act=true;obtain⟨e',q',k1,k2,k3,k4⟩:=wO;exact ihn (p-e') (by omega) e' q' rfl (by omega) k2 k3 k4;exact⟨e,q,g1,g2,g3,g5,fun e' q' k1 k2 k3=>by cases hb:q'.act with |false=>rfl |true=>exact absurd ⟨e',q',k1,k2,k3,hb⟩ wO⟩
 exact this _ e q rfl g1 g2 g3 g5
omit iY c8 in
theorem z3k{i p:Nat}(h:∃(e:Nat)(q:eI),p<=e/\e<i/\rs[e]? = some q/\q.act=true):∃(e:Nat)(q:eI),p<=e/\e<i/\rs[e]? = some q/\q.act=true/\∀(e':Nat)(q':eI),p<=e'->e'<e->rs[e']? = some q'->q'.act=false:=by
 obtain⟨e,q,g1,g2,g3,g5⟩:=h;have:∀(e:Nat)(q:eI),p<=e->e<i->rs[e]? = some q->q.act=true->∃(e:Nat)(q:eI),p<=e/\e<i/\rs[e]? = some q/\q.act=true/\∀(e':Nat)(q':eI),p<=e'->e'<e->rs[e']? = some q'->q'.act=false:=by
  intro e;induction e using Nat.strongRecOn with
  |_ e ihn=>intro q g1 g2 g3 g5;by_cases wO:∃(e':Nat)(q':eI),p<=e'/\e'<e/\rs[e']? = some q'/\q'.act=true;obtain⟨e',q',k1,k2,k3,k4⟩:=wO;exact ihn e' k2 q' k1 (by omega) k3 k4;exact⟨e,q,g1,g2,g3,g5,fun e' q' k1 k2 k3=>by cases hb:q'.act with |false=>rfl |true=>exact absurd ⟨e',q',k1,k2,k3,hb⟩ wO⟩
 exact this e q g1 g2 g3 g5
variable(NA:rf T aA.toList rs)
include hT NA
theorem z6d{ro:Option Nat}{x0:Cx}{m0:Nm}{w0:World}{E:Exit->Act->World->Prop}{df:List Deferred}(hQ:∀y tv m w a,y.O=O'->St F y tm' tv m w a->bP m0 x0.s w0 m y.s w->Ke n0 x0 y->n0<=y.O.nx->a.defers=df->E .normal a w):
  ∀(fuel:Nat)(bC:Array Bool)(a:Act)(w:World)(m:Nm)(p:Nat)(tm:List U)(tv:List Value)(x:Cx),bC.size=aA.size->bC.toList.count false=fuel->
   Closed aA.toList (fun k=>bC.getD k false=true)->(∀(e:Nat)(r:eI),rs[e]? = some r->r.act=false->r.mv=true->bC.getD e false=true)->L4 tm₀ rs (fun k=>bC.getD k false=true) tm->p<=rs.length->
   (∀(e:Nat)(r:eI),rs[e]? = some r->r.act=true->(bC.getD e false=true↔e<p))->x.O=jE rs O' p->St F x tm tv m w a->bP m0 x0.s w0 m x.s w->Ke n0 x0 x->n0<=x.O.nx->a.defers=df->
   wpAnyIn (oN ro) 0 P .any aA E fuel bC a w:=by
 have hn:rs.length=aA.size:=by simpa using iY.len
 intro fuel;induction fuel with
 |zero=>
  intro bC a w m p tm tv x dS Rn fF X' qR hp oV sX mM aR eS m8 jQ;have cH:∀k,k<aA.size->bC.getD k false=true:=fun k hk=>by
   have wP:k<bC.size:=by omega
   have:bC[k]≠false:=fun hf=>by
    have hm:false∈bC.toList:=by rw[<-hf];simp
    have:=List.count_pos_iff.2 hm;omega
   have this':bC[k]=true:=by simpa using this
   simp[Array.getD,wP,this']
  have Y1:Region.ready .any aA bC=[]:=by
   apply List.filter_eq_nil_iff.2;intro k hk;simp only[List.mem_range]at hk;have wP:k<bC.size:=by omega
   have:=cH k hk;simp[Array.getD,wP]at this;simp[Array.getD,wP,this]
  refine⟨Y1,?_⟩;have es:jE rs O' p=O':=by rw[Cc aA iY hp (zF _) fun e r h1 h2 h3=>by rcases hb:r.act with _|_;rfl;have:=(oV e r h3 hb).1 (cH e (by omega));omega];simp[jE]
  have et:tm=tm':=by
   have h1:=ul aA iY c8 rs.length (zF _);have e1:vW rs tm' rs.length=tm':=by simp[vW]
   rw[e1]at h1;refine qy2 (L:=fun k=>k<rs.length) ⟨qR.len,fun k r d g1 g2 g3 g4=>qR.yes k r d g1 g2 g3 (cH k (by omega)),fun k r d g1 g2 g3=>?_,qR.other⟩ h1;have:=(zG.1 g1).1;exact absurd this g3
  rw[et]at mM;exact hQ x tv m w a (sX.trans es) mM aR eS m8 jQ
 |succ fuel ih=>
  intro bC a w m p tm tv x dS Rn fF X' qR hp oV sX mM aR eS m8 jQ;have mem_ready:∀i,i∈Region.ready .any aA bC↔i<aA.size/\bC.getD i true=false/\∃o,aA[i]? = some o/\∀e∈o.after.toList,Region.binds .any e=true->bC.getD e.on false=true:=by
   intro i;unfold Region.ready;rw[List.mem_filter,List.mem_range];refine and_congr_right fun hi=>?_;have ho:aA[i]? = some aA[i]:=by simp[hi]
   simp only[ho,zM,Option.getD_some,Bool.and_eq_true,Bool.not_eq_true',Array.all_eq_true_iff_forall_mem,Bool.or_eq_true];refine and_congr_right fun _=>?_;constructor;intro h;refine⟨_,rfl,fun e he hb=>?_⟩;rcases h e (by simpa using he)with h1 |h1
   simp[hb]at h1;exact h1;rintro⟨o,af,h⟩ e he;cases af;rcases hb:Region.binds .any e with _|_;exact .inl rfl;exact .inr (h e (by simpa using he) hb)
  refine⟨fun ai=>?_,fun i hi=>?_⟩;exfalso;have y4:∃i,i<aA.size/\bC.getD i true=false:=by
   have fC:0<bC.toList.count false:=by omega
   obtain⟨i,hi,e⟩:=List.mem_iff_getElem.1 (List.count_pos_iff.1 fC);simp at hi;refine⟨i,by omega,?_⟩;simp only[Array.getElem_toList]at e;simp[Array.getD,hi,e]
  have oH:∀n,n<aA.size->bC.getD n true=false->False:=by
   intro n;induction n using Nat.strongRecOn with
   |_ n ihn=>
    intro jf Qj;have:n∈Region.ready .any aA bC:=(mem_ready n).2 ⟨jf,Qj,aA[n],by simp[jf],fun e he hb=>by
     have aG:=vf c8 (i:=n) (o:=aA[n]) (by simp[jf]) e he hb;have wP:e.on<bC.size:=by omega
     cases hv:bC[e.on]with|true=>simp[Array.getD,wP,hv]|false=>exact(ihn e.on aG (by omega) (by simp[Array.getD,wP,hv])).elim⟩
    rw[ai]at this;cases this
  obtain⟨i,h1,h2⟩:=y4;exact oH i h1 h2;obtain⟨hilt,Fm,o,ho,YI⟩:=(mem_ready i).1 hi;have N0:i<bC.size:=by omega
  have ju:¬ bC.getD i false=true:=by simp[Array.getD,N0]at Fm ⊢;exact Fm
  have H5:aA.toList[i]? = some o:=by simpa using ho
  obtain⟨r,hr,jC⟩:=UE aA iY H5;subst jC;have qS:∀q,aA.toList[i]? = some q->∀e∈q.after.toList,Region.binds .any e=true->bC.getD e.on false=true:=fun q hq=>by rw[H5]at hq;cases hq;exact YI
  have Y6:=qut aA iY c8 fF qR hr ju qS;obtain⟨_,Qx,uN,_⟩:=iY.all i r hr;have Fi:jE rs O' i=r.s:=by simp[jE,hr]
  have qZ:∀k,((bC.setIfInBounds i true).getD k false=true)↔(bC.getD k false=true\/k=i):=fun k=>by by_cases hk:k=i;subst hk;simp[Array.getD,N0];by_cases qW:k<bC.size;simp[Array.getD,qW,hk,Ne.symm hk];simp[Array.getD,qW,hk]
  have HG:Closed aA.toList (fun k=>(bC.setIfInBounds i true).getD k false=true):=fun k q hk hq e he hb=>by refine(qZ e.on).2 (.inl ?_);rcases(qZ k).1 hk with hk |rfl;exact fF k q hk hq e he hb;exact qS q hq e he hb
  have Qe:∀(e:Nat)(r:eI),rs[e]? = some r->r.act=false->r.mv=true->(bC.setIfInBounds i true).getD e false=true:=fun e q h1 h2 h3=>(qZ e).2 (.inl (X' e q h1 h2 h3));have GZ:L4 tm₀ rs (fun k=>(bC.setIfInBounds i true).getD k false=true) (eH tm r.o.dst r.u):=by have:=qtg aA iY c8 qR hr;exact⟨this.len,fun k q d a b c hL=>this.yes k q d a b c ((qZ k).1 hL),fun k q d a b hL=>this.no k q d a b fun x=>hL ((qZ k).2 x),this.other⟩
  have R8:(bC.setIfInBounds i true).toList.count false=fuel:=by
   have hv:bC[i]=false:=by simpa[Array.getD,N0]using Fm
   rw[Array.toList_setIfInBounds,List.count_set (by simpa using N0)];have y6:Array.count false bC=fuel+1:=by simpa using Rn
   simp[hv];omega
  obtain⟨zR,Ps⟩:=X4 Y6;have stay:r.act=false->∀y dM aJ w₁ bJ,y.O=jE rs O' p->St F y (eH tm r.o.dst r.u) dM aJ w₁ bJ->bP m0 x0.s w0 aJ y.s w₁->Ke n0 x0 y->n0<=y.O.nx->bJ.defers=df->wpAnyIn (oN ro) 0 P .any aA E fuel (bC.setIfInBounds i true) bJ w₁:=fun hk y dM aJ w₁ bJ h1 h2 h3 h4 h5 h6=>by refine ih _ _ _ aJ p _ dM y (by simpa using dS) R8 HG Qe GZ hp (fun e q hq Fk=>?_) h1 h2 h3 h4 h5 h6;rw[qZ];by_cases hei:e=i;subst hei;rw[hr]at hq;cases hq;rw[hk]at Fk;cases Fk;simp only[hei,or_false];exact oV e q hq Fk
  have past:r.act=true->jE rs O' p=r.s/\∀y dM aJ w₁ bJ,y.O=r.s'->St F y (eH tm r.o.dst r.u) dM aJ w₁ bJ->bP m0 x0.s w0 aJ y.s w₁->Ke n0 x0 y->n0<=y.O.nx->bJ.defers=df->wpAnyIn (oN ro) 0 P .any aA E fuel (bC.setIfInBounds i true) bJ w₁:=fun hk=>by
   have hpi:p<=i:=by rcases Nat.lt_or_ge i p with h |h;exact absurd ((oV i r hr hk).2 h) ju;exact h
   have hil':i<rs.length:=(zG.1 hr).1;have HJ:∀(e:Nat)(q:eI),p<=e->e<i->rs[e]? = some q->q.act=false:=fun e q h1 h2 h3=>by rcases hb:q.act with _|_;rfl;have:=Xp c8 fF qS (NA.acts i e r q hr h3 hk hb h2);have:=(oV e q h3 hb).1 this;omega
   refine⟨(Cc aA iY hpi (by omega) HJ).trans Fi,fun y dM aJ w₁ bJ h1 h2 h3 h4 h5 h6=>?_⟩;refine ih _ _ _ aJ (i+1) _ dM y (by simpa using dS) R8 HG Qe GZ (by omega) (fun e q hq Fk=>?_) (h1.trans uN.symm) h2 h3 h4 h5 h6;rw[qZ];by_cases hei:e=i;subst hei;simp;simp only[hei,or_false];constructor;intro Ry;have:=(oV e q hq Fk).1 Ry;omega;intro aG;exact Xp c8 fF qS (NA.acts i e r q hr hq hk Fk (by omega))
  unfold wpOpIn;simp only[ho];rw[sr (mM.act m (aK.refl _ _)) aA r.o];rcases Qx with⟨hw,hu,ha,_⟩|⟨hw,sF,hqu⟩|⟨hw,ha,f,args,BJ,kE⟩|⟨hw,ha,_,R7⟩|⟨ha,hm,_⟩|⟨hw,ha,u1,s1,d,sF,hd,HF,Qy,uQ⟩;rw[yV mM.e (Ps.trans hw)];simp only[Bool.false_eq_true,if_false];rw[hu]at stay;exact⟨fun _ _=>trivial,stay ha x _ m w _ sX (mM.skip r.o.dst) aR eS m8 ((PT _ _ _).trans jQ)⟩;rw[yV mM.e (Ps.trans hw)];simp only[if_true];cases ha:r.act with
  |true=>
   obtain⟨BD,xY⟩:=past ha;have wM:bO T x.O tm r.o.op=some (r.u,r.s'):=by rw[sX,BD,Xq zR];exact sF
   exact EI (Bo wM) (mM.op hT r.o wM fun y dM aJ w₁ bJ e1 cT bW dO pO iA=>xY y dM aJ w₁ bJ e1 cT (aR.trans bW) (eS.trans (dO.le m8)) (by omega) (iA.trans jQ))
  |false=>
   have Fg:=hqu ha;have eC:bO T (jE rs O' p) r.tm r.o.op=some (r.u,jE rs O' p):=by
    rcases Nat.lt_or_ge i p with hip |hip;by_cases y4:∃(e:Nat)(q:eI),i<e/\e<p/\rs[e]? = some q/\q.act=true;obtain⟨e,q,g1,g2,g3,g5,g6⟩:=z72 y4;have es:jE rs O' (e+1)=jE rs O' p:=Cc aA iY (by omega) hp fun e' q' k1 k2 k3=>g6 e' q' (by omega) k2 k3
    have eq':jE rs O' (e+1)=q.s':=(iY.all e q g3).2.2.1;rw[<-es,eq'];rcases NA.hi i e r q hr g3 ha hw sF g5 g1 with k4 |k4 |k4;have Ry:bC.getD e false=true:=(oV e q g3 g5).2 g2;exact absurd (gi c8 fF e i Ry k4) ju;rw[k4,sF,Fg];exact k4;have es:jE rs O' i=jE rs O' p:=Cc aA iY (by omega) hp fun e q k1 k2 k3=>by
     rcases Nat.lt_or_ge i e with h |h;rcases hb:q.act with _|_;rfl;exact absurd ⟨e,q,h,k2,k3,hb⟩ y4;have:e=i:=by omega
     subst this;rw[hr]at k3;cases k3;exact ha
    rw[<-es,Fi,sF,Fg];by_cases y4:∃(e:Nat)(q:eI),p<=e/\e<i/\rs[e]? = some q/\q.act=true;obtain⟨e,q,g1,g2,g3,g5,g6⟩:=z3k y4;have es:jE rs O' p=jE rs O' e:=Cc aA iY g1 (by have:=(zG.1 g3).1;omega) fun e' q' k1 k2 k3=>g6 e' q' k1 k2 k3;have eq':jE rs O' e=q.s:=by simp[jE,g3]
    rw[es,eq'];rcases NA.lo i e r q hr g3 ha hw sF g5 g2 with k4 |k4 |k4;have Ry:=Xp c8 fF qS k4;have:=(oV e q g3 g5).1 Ry;omega;rw[k4,sF,Fg];exact k4;have es:jE rs O' p=jE rs O' i:=Cc aA iY hip (by have:=(zG.1 hr).1;omega) fun e q k1 k2 k3=>by rcases hb:q.act with _|_;rfl;exact absurd ⟨e,q,k1,k2,k3,hb⟩ y4
    rw[es,Fi,sF,Fg]
   have wM:bO T x.O tm r.o.op=some (r.u,jE rs O' p):=by rw[sX,Xq zR];exact eC
   exact EI (Bo wM) (mM.op hT r.o wM fun y dM aJ w₁ bJ e1 cT bW dO pO iA=>stay ha y dM aJ w₁ bJ e1 cT (aR.trans bW) (eS.trans (dO.le m8)) (by omega) (iA.trans jQ))
  rw[yV mM.e (Ps.trans hw)];simp only[if_true];obtain⟨BD,xY⟩:=past ha;have dt:bA P f args x.O (fun u O=>u=r.u/\O=r.s'):=by rw[sX,BD];exact kE
  refine EI (Xj ((bc zR).trans BJ)) (mM.call hT r.o ((bc zR).trans BJ) dt fun y u dM aJ w₁ bJ hR cT bW dO pO iA=>?_);obtain⟨rfl,ib⟩:=hR;exact xY y dM aJ w₁ bJ ib cT (aR.trans bW) (eS.trans (dO.le m8)) (by omega) (iA.trans jQ);rw[yV mM.e (Ps.trans hw)];simp only[if_true];exact EI (R7.congr zR).nd (mM.free hT r.o (R7.congr zR) fun y dM aJ w₁ bJ e1 cT bW dO pO iA=>stay ha y dM aJ w₁ bJ (e1.trans sX) cT (aR.trans bW) (eS.trans (dO.le m8)) (by omega) (iA.trans jQ));exact absurd (X' i r hr ha hm) ju;rw[yV mM.e (Ps.trans hw)];simp only[if_true];obtain⟨BD,xY⟩:=past ha;have wM:bO T x.O tm r.o.op=some (u1,s1):=by rw[sX,BD,Xq zR];exact sF
  have aU:tm.length=r.tm.length:=by
   have h1:=(ul aA iY c8 i (Nat.le_of_lt (zG.1 hr).1)).len;have e1:vW rs tm' i=r.tm:=by simp[vW,hr]
   rw[e1]at h1;rw[qR.len,h1]
  exact EI (Bo wM) (mM.opfz hT r.o wM hd (by rw[aU];exact HF) Qy uQ fun y dM aJ w₁ bJ e1 cT bW dO pO iA=>xY y dM aJ w₁ bJ e1 cT (aR.trans bW) (eS.trans (dO.le m8)) (by omega) (iA.trans jQ))
end
end Go.Vx
namespace Go.Vx
open Go Go.Rx
def RD(P:Program)(T:Tb)(aA:List Oper):List Oper->List U->Sg->(List eI->List U->Sg->Prop)->Prop
 |[],tm,O,K=>K [] tm O|o::r,tm,O,K=>(cP aA tm o=some true/\∃u,bO T O tm o.op=some (u,O)/\RD P T aA r (eH tm o.dst u) O (fun rs=>K (⟨tm,o,u,false,false,O,O⟩::rs)))\/ (cP aA tm o=some true/\∃u O',bO T O tm o.op=some (u,O')/\RD P T aA r (eH tm o.dst u) O' (fun rs=>K (⟨tm,o,u,true,true,O,O'⟩::rs)))\/ (cP aA tm o=some true/\∃f args u,jL T tm o.op=some (f,args)/\bA P f args O (fun u' O'=>u'=u/\O'=O)/\RD P T aA r (eH tm o.dst u) O (fun rs=>K (⟨tm,o,u,true,false,O,O⟩::rs)))\/ (cP aA tm o=some true/\∃f args u O',jL T tm o.op=some (f,args)/\bA P f args O (fun u' s'=>u'=u/\s'=O')/\RD P T aA r (eH tm o.dst u) O' (fun rs=>K (⟨tm,o,u,true,true,O,O'⟩::rs)))\/ (cP aA tm o=some false/\RD P T aA r (eH tm o.dst (.tup [])) O (fun rs=>K (⟨tm,o,.tup [],false,false,O,O⟩::rs)))\/ (cP aA tm o=some true/\∃u,EE P T tm o.op u/\RD P T aA r (eH tm o.dst u) O (fun rs=>K (⟨tm,o,u,false,false,O,O⟩::rs)))\/ (cP aA tm o=some true/\∃u1 s1 d u O',bO T O tm o.op=some (u1,s1)/\o.dst=some d/\d<tm.length/\Gh s1.nx [u1] s1 [u] O'/\s1.nx<=O'.nx/\RD P T aA r (eH tm o.dst u) O' (fun rs=>K (⟨tm,o,u,true,true,O,O'⟩::rs)))
theorem OK{P:Program}{T:Tb}{aA:List Oper}:∀(rest:List Oper)(tm:List U)(O:Sg)(K:List eI->List U->Sg->Prop),RD P T aA rest tm O K->
  ∃rs tm' O',K rs tm' O'/\rs.length=rest.length/\jE rs O' 0=O/\vW rs tm' 0=tm/\
   ∀(i:Nat)(r:eI),rs[i]? = some r->rest[i]? = some r.o/\Good P T aA r/\jE rs O' (i+1)=r.s'/\vW rs tm' (i+1)=eH r.tm r.o.dst r.u/\(r.mv=false->r.s'=r.s)/\(r.mv=true->r.act=true)
 |[],tm,O,K,h=>⟨[],tm,O,h,rfl,rfl,rfl,fun i r hr=>by simp at hr⟩|o::rest,tm,O,K,h=>by
  have step:∀(u:U)(ac mv:Bool)(O1:Sg),RD P T aA rest (eH tm o.dst u) O1 (fun rs=>K (⟨tm,o,u,ac,mv,O,O1⟩::rs))->Good P T aA ⟨tm,o,u,ac,mv,O,O1⟩->(mv=false->O1=O)->(mv=true->ac=true)->
    ∃rs tm' O',K rs tm' O'/\rs.length=(o::rest).length/\jE rs O' 0=O/\vW rs tm' 0=tm/\
     ∀(i:Nat)(r:eI),rs[i]? = some r->(o::rest)[i]? = some r.o/\Good P T aA r/\jE rs O' (i+1)=r.s'/\vW rs tm' (i+1)=eH r.tm r.o.dst r.u/\(r.mv=false->r.s'=r.s)/\(r.mv=true->r.act=true):=by
   intro u ac mv O1 h hg h1 h2;obtain⟨rs,tm',O',g1,g2,g3,g4,g5⟩:=OK rest _ _ _ h;refine⟨_,tm',O',g1,by simp[g2],rfl,rfl,fun i r hr=>?_⟩;cases i with
   |zero=>simp at hr;subst hr;refine⟨rfl,hg,?_,?_,h1,h2⟩;simp only[jE,zH];exact g3;simp only[vW,zH];exact g4|succ i=>simp only[zH]at hr;obtain⟨k1,k2,k3,k4,k5⟩:=g5 i r hr;refine⟨by simpa using k1,k2,?_,?_,k5⟩;simp only[jE,zH];exact k3;simp only[vW,zH];exact k4
  simp only[RD]at h;rcases h with⟨hw,u,h1,h2⟩|⟨hw,u,O1,h1,h2⟩|⟨hw,f,args,u,h1,h2,h3⟩|⟨hw,f,args,u,O1,h1,h2,h3⟩|⟨hw,h1⟩|⟨hw,u,h1,h3⟩|⟨hw,u1,s1,d,u,O1,h1,h2,h3,h4,h5,h6⟩;exact step u false false O h2 (.inr (.inl ⟨hw,h1,fun _=>rfl⟩)) (fun _=>rfl) (by simp);exact step u true true O1 h2 (.inr (.inl ⟨hw,h1,by simp⟩)) (by simp) (by simp);exact step u true false O h3 (.inr (.inr (.inl ⟨hw,rfl,f,args,h1,h2⟩))) (fun _=>rfl) (by simp);exact step u true true O1 h3 (.inr (.inr (.inl ⟨hw,rfl,f,args,h1,h2⟩))) (by simp) (by simp);exact step _ false false O h1 (.inl ⟨hw,rfl,rfl,rfl⟩) (fun _=>rfl) (by simp);exact step u false false O h3 (.inr (.inr (.inr (.inl ⟨hw,rfl,rfl,h1⟩)))) (fun _=>rfl) (by simp);exact step u true true O1 h6 (.inr (.inr (.inr (.inr (.inr ⟨hw,rfl,u1,s1,d,h1,h2,h3,h4,h5⟩))))) (by simp) (by simp)
section
variable{C:PG}{T:Tb}(hT:kS C.prog T){n0:Nat}{Q:Exit->List U->Sg->Prop}{tm:List U}{O:Sg}
include hT
theorem WPU.drawn{id:Nat}{aA:Array Oper}(c8:VJ aA.toList=true){rs:List eI}{tm':List U}{O':Sg}(iY:kj C.prog T aA.toList tm O rs tm' O')(NA:rf T aA.toList rs)(hmv:∀(i:Nat)(r:eI),rs[i]? = some r->r.mv=true->r.act=true)(hQ:Q .normal tm' O'):WPU C n0 (.region id aA true) tm O Q:=fun hn F x tv m w a b0 hx st hG hd ro jC=>by
 refine wpIn_region_any hT.mixed ?_;have hJ:∀k,(Array.replicate aA.size false).getD k false=false:=fun k=>by by_cases hk:k<aA.size<;>simp[Array.getD,hk]
 have K8:=bP.draw (w.drawn+1) st.fits;refine z6d (ro:=ro) hT aA iY c8 NA (n0:=n0) (F:=F) (x0:=x) (m0:=m) (w0:=w) (df:=a.defers) (fun y dM m' w' a' h1 h2 h3 h4 h5 h6=>⟨y,tm',dM,m',h1 ▸ hQ,h2,h3,h4,h5,by rw[h6];exact hd.adv st.fits h3⟩) aA.size (Array.replicate aA.size false) a _ m 0 tm tv x (by simp) (by simp) ?_ (fun e r h1 h2 h3=>by have:=hmv e r h1 h3;rw[h2]at this;cases this) ?_ (Nat.zero_le _) ?_ ?_ ?_ ?_ (Ke.refl _ _) (hx ▸ hn) rfl;intro k q hk;rw[hJ]at hk;cases hk;have:=qpd (rs:=rs) (tm₀:=tm);exact⟨this.len,fun k r d _ _ _ hL=>(by rw[hJ]at hL;cases hL),fun k r d g1 g2 _=>this.no k r d g1 g2 (fun x=>x),this.other⟩;intro e r _ _;rw[hJ];simp;rw[iY.s0];exact hx;exact⟨st.h,st.fr,st.e,(bP.draw _ st.fits).fits,st.act⟩;exact bP.draw _ st.fits
end
section
variable{K:List U->Sg->Prop}{Q:Exit->List U->Sg->Prop}{tm:List U}{O:Sg}{i j:Nat}
theorem Pj(h:Q .normal tm O):yQ i Q (.exit i) tm O:=by simp only[yQ,if_true];exact h
theorem Pi(mO:¬ j=i)(h:Q (.exit j) tm O):yQ i Q (.exit j) tm O:=by simp only[yQ,mO,if_false];exact h
end
variable{C:PG}
variable{T:Tb}
variable{aA:List Oper}
variable{r:List Oper}
variable{o:Oper}
variable{tm:List U}
variable{O:Sg}
variable{f:FuncId}
variable{args:List U}
theorem RU.call{K:List U->Sg->Prop}{R:U->Sg->Prop}(hw:cP aA tm o=some true)(hc:jL T tm o.op=some (f,args))(kE:bA C.prog f args O R)
  (h:∀u O',R u O'->RU C T aA r (eH tm o.dst u) O' K):RU C T aA (o::r) tm O K:=.inr (.inl ⟨hw,f,args,R,hc,kE,h⟩)
theorem WPU.loopG{n0:Nat}{Q:Exit->List U->Sg->Prop}{c:Code}(I:Nat->List U->Sg->Prop)(n:Nat)(h₀:I n tm O)
  (round:∀n tm O,I n tm O->WPU C n0 c tm O (CG (fun tm' O'=>∃n' iL bT,n'<n/\I n' iL bT/\n0<=bT.nx/\Gh n0 tm' O' iL bT) Q)):WPU C n0 (.loop c) tm O Q:=by
 refine WPU.loop I n h₀ fun n tm O hI=>?_;refine WPU.after (round n tm O hI) ?_;intro e UB O1 hn h;cases e with
 |normal=>obtain⟨n',iL,bT,h1,h2,h3,h4⟩:=h;exact⟨iL,bT,h3,h4,n',h1,h2⟩
 |_=>exact⟨UB,O1,hn,Gh.refl _ _ _,h⟩
theorem Gh.to{n0 n1:Nat}{tm':List U}{O':Sg}(mask:List Bool)(ht:FX mask tm=tm')(hs:(⟨Vx.cut n1 O.h,n1⟩:Sg)=O')(h1:n0<=n1)(h2:n1<=O.nx)(hb:aN n1 tm')(hh:E9 n1 O'.h):Gh n0 tm O tm' O':=by
 subst ht;subst hs;exact(Gh.junk n0 mask tm O).trans (Gh.cut h1 h2 hb hh)
theorem yR{X:Type}{n:Nat}(f:X->List U)(h:∀x,aN n (f x))(l:List X):lX n (l.map f):=by
 rw[qv6];intro c hc;obtain⟨x,_,rfl⟩:=List.mem_map.1 hc;exact h x
def RF(P:Program)(T:Tb)(aA rest:List Oper)(tm:List U)(O:Sg)(fl:List (Bool×Bool))(K:List (Bool×Bool)->List U->Sg->Prop):Prop :=
 RD P T aA rest tm O (fun rs tm' O'=>K (fl++rs.map fun r=>(r.act,r.mv)) tm' O')
theorem RF.eq(P:Program)(T:Tb)(aA:List Oper){f g:List eI->List U->Sg->Prop}(h:f=g){rest:List Oper}(hr:RD P T aA rest tm O f):RD P T aA rest tm O g:=h ▸ hr
theorem z3l{K:List (Bool×Bool)->List U->Sg->Prop}(fl:List (Bool×Bool))(r:eI)(a b:Bool)(h1:r.act=a)(h2:r.mv=b):
  (fun(rs:List eI) (tm:List U) (O:Sg)=>K (fl++[(a,b)]++rs.map fun r=>(r.act,r.mv)) tm O)=(fun rs=>(fun(rs:List eI) tm O=>K (fl++rs.map fun r=>(r.act,r.mv)) tm O) (r::rs)):=by
 subst h1;subst h2;funext rs tm O;simp
variable{u:U}
theorem RF.call{P:Program}{fl:List (Bool×Bool)}{K:List (Bool×Bool)->List U->Sg->Prop}(hw:cP aA tm o=some true)(hc:jL T tm o.op=some (f,args))(kE:bA P f args O (fun u' O'=>u'=u/\O'=O))
  (h:RF P T aA r (eH tm o.dst u) O (fl++[(true,false)]) K):RF P T aA (o::r) tm O fl K:=by
 simp only[RF,RD];exact .inr (.inr (.inl ⟨hw,f,args,u,hc,kE,RF.eq P T aA (z3l fl _ true false rfl rfl) h⟩))
theorem RU.pcall{K:List U->Sg->Prop}(hw:cP aA tm o=some true)(hc:jL T tm o.op=some (f,args))(kE:bA C.prog f args O (fun u' O'=>u'=u/\O'=O))
  (h:RU C T aA r (eH tm o.dst u) O K):RU C T aA (o::r) tm O K:=RU.call hw hc kE (fun u' O' ⟨h1,h2⟩=>by subst h1;subst h2;exact h)
theorem bA.pure1{P:Program}(h:bA P f args ⟨[],0⟩ (fun u' _=>u'=u/\b7 0 u'))(ha:aN 0 args)(O:Sg):bA P f args O (fun u' O'=>u'=u/\O'=O):=bA.pure h ha O
end Go.Vx
