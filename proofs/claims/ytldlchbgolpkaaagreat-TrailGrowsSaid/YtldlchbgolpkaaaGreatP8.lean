import GoSem.ClaimChange
import Derived.Test.YtldlchbgolpkaaaGreatP7
set_option linter.all false
namespace Go.Vx
open Go Go.Rx
mutual
def Rep(W:World):U->M->Prop
 |.bool b,v=>v=.bool b|.int k n,v=>v=.int k n
 |.str l,v=>v=.string ⟨⟨l⟩⟩|.isl t l,v=>t=false/\((l=[]/\(v=.slice none 0 0\/∃b off p,v=.slice (some ⟨b,off,some p⟩) 0 0))\/∃b off c,v=.slice (some ⟨b,off,none⟩) l.length c/\c<bY/\l.length<=c/\
   (l=[]\/∃cs e fr sz,W.heap[b]? = some (.cells cs e fr)/\NS W sz l (cs.toList.drop off)))
 |.agg l,v=>∃vs,v=.agg ⟨vs⟩/\nY W l vs/\l.length=vs.length/\okL l=true|_,_=>False
def nY(W:World):I U->I M->Prop
 |[],_=>True|u::us,vs=>match vs with
  |[]=>False|v::vs=>Rep W u v/\nY W us vs
def NS(W:World)(sz:Nat):I (I U)->I M->Prop
 |[],_=>True|c::cs,vs=>c.length=sz/\okL c=true/\nY W c vs/\NS W sz cs (vs.drop sz)
end
def cx(s:S):Cx:=⟨fun _=>none,⟨[],0⟩,s⟩
def Ly(s:S):Prop:=∀i b,lk s.h i=some b->Own b=false
structure Grow(m:Nm)(s:S)(m':Nm)(s':S):Prop where
 agree:aN s.nx m m'
 nx:s.nx<=s'.nx
 rows:∀i b,lk s.h i=some b->lk s'.h i=some b
def Grow.refl(m:Nm)(s:S):Grow m s m s:=⟨aN.refl _ _,zF _,fun _ _ h=>h⟩
def Grow.trans{m m' m'':Nm}{s s' s'':S}(h:Grow m s m' s')(h':Grow m' s' m'' s''):Grow m s m'' s'':=⟨h.agree.trans h'.agree h.nx,Nat.le_trans h.nx h'.nx,fun i b hb=>h'.rows i b (h.rows i b hb)⟩
variable{m:Nm}
variable{m':Nm}
variable{s:S}
variable{s':S}
def Grow.mo(h:Grow m s m' s'):Mo 0 (cx s) (cx s'):=⟨fun k hk=>by omega,fun i row e hl=>h.rows i _ hl⟩
def Grow.rel(h:Grow m s m' s'){u:U}{v:M}(hr:aD (cx s) u v):aD (cx s') u v:=h.mo.ke u v (aD.bel _ _ hr) hr
def Grow.relE(h:Grow m s m' s'){l:I U}{vs:I M}(hr:bF (cx s) l vs):bF (cx s') l vs:=h.mo.ke.E hr.bel hr
def qzu(m:Nm)(n:Nat):nZ m n [] []:=fun _ _=>by simp[aJ]
def z5m{n:Nat}{v cv:M}{vs nD:I M}(h:fI m n v cv)(h':nZ m n vs nD):nZ m n (v::vs) (cv::nD):=fun m' ha=>by simp[aJ,h m' ha,h' m' ha]
def qo4{x:Cx}{sz:Nat}:∀{l:I (I U)}{vs:I M},bF x l.flatten vs->(∀c∈l,c.length=sz/\okL c=true)->iV x sz l vs
 |[],vs,h,hs=>by simp[iV]
 |c::l,vs,h,hs=>by have⟨h1,h2⟩:=hs c (by simp);simp[iV];rw[List.flatten_cons]at h;refine⟨h1,h2,?_,qo4 (by have:=h.drop sz;rwa [List.drop_append_of_le_length (by omega),List.drop_of_length_le (by omega),List.nil_append]at this) fun d hd=>hs d (by simp[hd])⟩;rw[J8];intro i u hu;have aE:i<c.length:=(zG.1 hu).1;exact h.get (by rw[List.getElem?_append_left aE];exact hu)
def qzw{W:World}{sz:Nat}:∀{l:I (I U)}{vs:I M},NS W sz l vs->∀c∈l,c.length=sz/\okL c=true
 |[],vs,h=>by simp
 |d::l,vs,h=>fun c hc=>by simp[NS]at h;rcases zI.1 hc with rfl |hc;exact⟨h.1,h.2.1⟩;exact qzw h.2.2.2 c hc
def Got(W:World)(m:Nm)(s:S)(u:U)(cv:M):Prop:=∃m' s' v,Grow m s m' s'/\iA m' s' W/\Ly s'/\(∀i b,lk s'.h i=some b->i<s'.nx)/\fI m' s'.nx v cv/\aD (cx s') u v
def zk(W:World)(m:Nm)(s:S)(us:I U)(nD:I M):Prop:=∃m' s' vs,Grow m s m' s'/\iA m' s' W/\Ly s'/\(∀i b,lk s'.h i=some b->i<s'.nx)/\nZ m' s'.nx vs nD/\bF (cx s') us vs
mutual
def XV{W:World}:(u:U)->(cv:M)->Rep W u cv->∀m s,iA m s W->Ly s->(∀i b,lk s.h i=some b->i<s.nx)->Got W m s u cv
 |.bool b,cv,h,m,s,hf,hn,gX=>by simp only[Rep]at h;subst h;exact⟨m,s,.bool b,Grow.refl _ _,hf,hn,gX,BV fun _=>by simp[aI],by simp[aD]⟩
 |.int k n,cv,h,m,s,hf,hn,gX=>by simp only[Rep]at h;subst h;exact⟨m,s,.int k n,Grow.refl _ _,hf,hn,gX,BV fun _=>by simp[aI],by simp[aD]⟩
 |.str l,cv,h,m,s,hf,hn,gX=>by simp only[Rep]at h;subst h;exact⟨m,s,_,Grow.refl _ _,hf,hn,gX,BV fun _=>by simp[aI],by simp[aD]⟩
 |.agg l,cv,h,m,s,hf,hn,gX=>by simp only[Rep]at h;obtain⟨nD,rfl,h1,h2,h3⟩:=h;obtain⟨m',s',vs,g1,g2,g3,g4,g5,g6⟩:=xu l nD h1 m s hf hn gX;rw[h2,List.take_length]at g5;exact⟨m',s',.agg ⟨vs⟩,g1,g2,g3,g4,fun m'' ha=>by simp[aI,g5 m'' ha],by simp only[aD];exact⟨vs,rfl,g6.1,g6.2,h3⟩⟩
 |.isl t l,cv,h,m,s,hf,hn,gX=>by
  simp only[Rep]at h;obtain⟨rfl,h⟩:=h;rcases h with⟨rfl,rfl |⟨b,off,p,rfl⟩⟩|⟨b,off,c,rfl,hc,cg,h⟩;exact⟨m,s,.slice none 0 0,Grow.refl _ _,hf,hn,gX,BV fun _=>by simp[aI],by simp[aD]⟩;refine⟨m.set s.nx b off p,⟨s.h,s.nx+1⟩,.chan (some s.nx),⟨Nm.agree_set _ _ _ _ _,Nat.le_succ _,fun _ _ h=>h⟩,(bQ.ghost hf b off p).fits,hn,fun i b hb=>Nat.lt_succ_of_lt (gX i b hb),fun m' ha=>?_,by simp[aD]⟩;obtain⟨q1,q2,q3⟩:=ha s.nx (zN _);simp[aI,q1,q2,q3,Nm.set];by_cases hl:l=[];subst hl;refine⟨m.set s.nx b off 0,⟨s.h,s.nx+1⟩,.slice (some ⟨s.nx,0,none⟩) 0 c,⟨Nm.agree_set _ _ _ _ _,Nat.le_succ _,fun _ _ h=>h⟩,(bQ.ghost hf b off 0).fits,hn,fun i b hb=>Nat.lt_succ_of_lt (gX i b hb),fun m' ha=>?_,?_⟩;obtain⟨q1,q2,_⟩:=ha s.nx (zN _);simp[aI,q1,q2,Nm.set,bX,hc];simp only[aD];exact .inr ⟨s.nx,0,c,rfl,by simp,.inl trivial⟩;rcases h with h |⟨cs,e,fr,sz,hw,hr⟩;exact absurd h hl;obtain⟨m',s',vs,g1,g2,g3,g4,g5,g6⟩:=z5t l _ hr m s hf hn gX;have cR:=qzw hr;have iB:∀m'',aN (s'.nx+1) (m'.set s'.nx b off 0) m''->aN s'.nx m' m'':=fun m'' ha=>(Nm.agree_set m' s'.nx b off 0).trans ha (Nat.le_succ _)
  have pJ:∀m'',aN (s'.nx+1) (m'.set s'.nx b off 0) m''->m''.blk s'.nx=b/\m''.sh s'.nx=off:=fun m'' ha=>by obtain⟨q1,q2,_⟩:=ha s'.nx (zN _);simp[Nm.set]at q1 q2;exact⟨q1,q2⟩
  refine⟨m'.set s'.nx b off 0,⟨(s'.nx,.inl (vs,0,1))::s'.h,s'.nx+1⟩,.slice (some ⟨s'.nx,0,none⟩) l.length c,g1.trans ⟨Nm.agree_set _ _ _ _ _,Nat.le_succ _,fun i b hb=>?_⟩,fun m'' ha=>⟨fun i d hd=>?_,fun i j d d' hd bG m7 ho=>?_,fun i d hd=>?_⟩,fun i d hd=>?_,fun i d hd=>?_,fun m'' ha=>?_,?_⟩;have:=g4 i b hb;simp[mZ,show s'.nx≠i by omega,hb];simp only[mZ]at hd;split at hd;rename_i e;subst e;cases hd;obtain⟨q1,q2⟩:=pJ m'' ha;refine⟨cs,e,fr,by rw[q1];exact hw,fun k v hk=>?_,fun n hn=>absurd hn (by simp)⟩;have:=congrArg (fun z=>z[k]?) (g5 m'' (iB m'' ha));simp only[mY,List.getElem?_map,hk,zM,List.getElem?_take,List.getElem?_drop]at this;split at this;rw[q2];simpa using this.symm;cases this;exact(g2 m'' (iB m'' ha)).ok i d hd;simp only[mZ]at hd bG;split at hd;cases hd;simp[Own]at ho;rw[g3 i d hd]at ho;cases ho;simp only[mZ]at hd;split at hd;show i<s'.nx+1;omega;exact Nat.lt_succ_of_lt (g4 i d hd);simp only[mZ]at hd;split at hd;cases hd;rfl;exact g3 i d hd;simp only[mZ]at hd;split at hd;show i<s'.nx+1;omega;exact Nat.lt_succ_of_lt (g4 i d hd);obtain⟨q1,q2⟩:=pJ m'' ha;simp[aI,q1,q2,bX,hc];have hg:Grow m' s' (m'.set s'.nx b off 0) ⟨(s'.nx,.inl (vs,0,1))::s'.h,s'.nx+1⟩:=⟨Nm.agree_set _ _ _ _ _,Nat.le_succ _,fun i b hb=>by have:=g4 i b hb;simp[mZ,show s'.nx≠i by omega,hb]⟩;simp only[aD];exact .inr ⟨s'.nx,0,c,rfl,by simp,.inr ⟨vs,0,sz,by simp[cx,mZ],qo4 (hg.relE g6) cR,.inl ⟨hc,cg⟩⟩⟩
 |.junk,cv,h,m,s,hf,hn,gX=>by simp[Rep]at h
 |.nilp,cv,h,m,s,hf,hn,gX=>by simp[Rep]at h
 |.ptr _ _ _,cv,h,m,s,hf,hn,gX=>by simp[Rep]at h
 |.iptr _,cv,h,m,s,hf,hn,gX=>by simp[Rep]at h
 |.nils,cv,h,m,s,hf,hn,gX=>by simp[Rep]at h
 |.sl _ _ _ _,cv,h,m,s,hf,hn,gX=>by simp[Rep]at h
 |.vl _ _ _ _,cv,h,m,s,hf,hn,gX=>by simp[Rep]at h
 |.nilm,cv,h,m,s,hf,hn,gX=>by simp[Rep]at h
 |.map _,cv,h,m,s,hf,hn,gX=>by simp[Rep]at h
 |.fn _ _ _,cv,h,m,s,hf,hn,gX=>by simp[Rep]at h
 |.nilf,cv,h,m,s,hf,hn,gX=>by simp[Rep]at h
 |.nili,cv,h,m,s,hf,hn,gX=>by simp[Rep]at h
 |.tup _,cv,h,m,s,hf,hn,gX=>by simp[Rep]at h
def xu{W:World}:(us:I U)->(nD:I M)->nY W us nD->∀m s,iA m s W->Ly s->(∀i b,lk s.h i=some b->i<s.nx)->zk W m s us (nD.take us.length)
 |[],nD,h,m,s,hf,hn,gX=>⟨m,s,[],Grow.refl _ _,hf,hn,gX,by simpa using qzu m s.nx,bF.nil _⟩|u::us,[],h,m,s,hf,hn,gX=>by simp[nY]at h
 |u::us,cv::nD,h,m,s,hf,hn,gX=>by simp[nY]at h;have⟨m',s',v,g1,g2,g3,g4,g5,g6⟩:=XV u cv h.1 m s hf hn gX;have⟨m'',s'',vs,k1,k2,k3,k4,k5,k6⟩:=xu us nD h.2 m' s' g2 g3 g4;exact⟨m'',s'',v::vs,g1.trans k1,k2,k3,k4,by simpa using z5m (g5.ext k1.agree k1.nx) k5,bF.cons (k1.rel g6) k6⟩
def z5t{W:World}{sz:Nat}:(l:I (I U))->(nD:I M)->NS W sz l nD->∀m s,iA m s W->Ly s->(∀i b,lk s.h i=some b->i<s.nx)->zk W m s l.flatten (nD.take (l.length*sz))
 |[],nD,h,m,s,hf,hn,gX=>⟨m,s,[],Grow.refl _ _,hf,hn,gX,by simpa using qzu m s.nx,bF.nil _⟩|c::l,nD,h,m,s,hf,hn,gX=>by
  simp[NS]at h;have⟨m',s',v,g1,g2,g3,g4,g5,g6⟩:=xu c nD h.2.2.1 m s hf hn gX;have⟨m'',s'',vs,k1,k2,k3,k4,k5,k6⟩:=z5t l _ h.2.2.2 m' s' g2 g3 g4;refine⟨m'',s'',v++vs,g1.trans k1,k2,k3,k4,?_,by rw[List.flatten_cons];exact(k1.relE g6).append k6⟩;have e:nD.take ((c::l).length*sz)=nD.take c.length++(nD.drop sz).take (l.length*sz):=by rw[zO,Nat.succ_mul,Nat.add_comm,List.take_add,h.1]
  rw[e];exact(g5.ext k1.agree k1.nx).append k5
end
def law_calls{P:Program}{f:FuncId}{us:I U}{W:World}{args:I M}(h:bE P f us ⟨[],0⟩ (fun u _=>u=.bool true))(hr:nY W us args)(hl:us.length=args.length):
  Calls P f args.toArray W fun e w'=>e=.returned (.bool true)/\RowKit.Below W.heap.size W w':=by have h0:iA ⟨id,id,id⟩ ⟨[],0⟩ W:=fun m' _=>⟨fun i b hb=>by simp[lk]at hb,fun i j b c hb=>by simp[lk]at hb,fun i b hb=>by simp[lk]at hb⟩;have⟨m,s,vs,g1,g2,g3,g4,g5,g6⟩:=xu us args hr ⟨id,id,id⟩ ⟨[],0⟩ h0 (fun i b hb=>by simp[lk]at hb) (fun i b hb=>by simp[lk]at hb);rw[hl,List.take_length]at g5;refine(h (fun _ _=>False) (cx s) vs m W args rfl ⟨fun k b hb=>by simp[cx,gt]at hb,fun k k' b b' i hb=>by simp[cx,gt]at hb,g4⟩ (fun _ _ J=>J.elim) g6 g2 g5).mono ?_;rintro e w' ⟨y,aH,u,v,cv,rfl,rfl,aS,hO,_,_,DH,_,_⟩;simp[aD]at DH;subst DH;have:=hO.at;simp[aI]at this;exact⟨by rw[<-this],aS.below fun b ⟨i,c,hc,ho,_⟩=>by rw[g3 i c hc]at ho;cases ho⟩
def OfTy(P:Program):Nat->X->I U->Prop
 |0,_,_=>False|n+1,t,us=>match P.underlying t with
  |some .bool=>∃b,us=[.bool b]|some (.int k)=>∃i,us=[.int k i]/\(Lit.int k i).wf=true
  |some .string=>∃s,us=[.str s]/\s.length<=maxLen|some (.slice e)=>∃l,us=[.isl false l]/\l.length<=maxLen/\∀c∈l,OfTy P n e c
  |some (.struct fs)=>us.length=P.cellsOf t/\∀f∈fs.toList,OfTy P n f.type ((us.drop f.offset).take (P.cellsOf f.type))|some (.array k e)=>us.length=P.cellsOf t/\∀i,i<k->OfTy P n e ((us.drop (i*P.cellsOf e)).take (P.cellsOf e))
  |_=>False
end Go.Vx
namespace Go.Vx
open Go Go.Rx
variable{tm:I U}
variable{tm':I U}
def z_{l:I Operand}(h:∀t∈tmpsOf l,tm[t]? = tm'[t]?){x:Operand}(hx:x∈l):c9 tm x=c9 tm' x:=by cases x with|tmp t=>simp[c9,jA];exact h t (z1b hx)|_=>rfl
def Sb{l:I Operand}(h:∀x∈l,c9 tm x=c9 tm' x):mM tm l=mM tm' l:=by induction l with|nil=>rfl|cons x l ih=>simp[mM];rw[h x (by simp),ih fun y hy=>h y (by simp[hy])]
def qnt{l:I (Nat×Operand)}(h:∀x∈l.map (·.2),c9 tm x=c9 tm' x):AN tm l=AN tm' l:=by induction l with|nil=>rfl|cons x l ih=>have⟨i,x⟩:=x;simp[AN];rw[h x (by simp),ih fun y hy=>h y (by simp only[zQ,zI];exact .inr hy)]
def G_{x:V Operand}(h:∀y,x=some y->c9 tm y=c9 tm' y):xK tm x=xK tm' x:=by rcases x with _|y;rfl;simp[xK];rw[h y rfl]
section
variable{T:Tb}{tm tm':I U}{O:Sg}{op:Op}
def qxu(h:∀x∈op.operands.toList,c9 tm x=c9 tm' x):gQ T O tm op=gQ T O tm' op:=by
 cases op<;>simp only[Op.operands]at h<;>try rfl
 case move x=>simp only[gQ];exact h x (by simp)
 case assign x=>simp only[gQ];exact h x (by simp)
 case pick c a b=>simp only[gQ];rw[h c (by simp),h a (by simp),h b (by simp)]
 case build t ps=>simp only[gQ];rw[qnt (by simpa using h)]
 case nilCheck x=>simp only[gQ];rw[h x (by simp)]
 case binOp o t x y ty=>simp only[gQ];rw[h x (by simp),h y (by simp)]
 case unOp o t x=>simp only[gQ];rw[h x (by simp)]
 case convert a b x=>simp only[gQ];rw[h x (by simp)]
 case makeFunc f a b=>simp only[gQ];rw[Sb fun x hx=>h x (by simp at hx ⊢;exact .inl hx),Sb fun x hx=>h x (by simp at hx ⊢;exact .inr hx)]
 case slice t x lo hi mx=>simp only[gQ];rw[h x (by simp),G_ (x:=lo) fun y hy=>h y (by subst hy;simp),G_ (x:=hi) fun y hy=>h y (by subst hy;simp),G_ (x:=mx) fun y hy=>h y (by subst hy;simp)]
 case fieldAddr t x f=>simp only[gQ];rw[h x (by simp)]
 case field t x f=>simp only[gQ];rw[h x (by simp)]
 case indexAddr t x i=>simp only[gQ];rw[h x (by simp),h i (by simp)]
 case index t x i=>simp only[gQ];rw[h x (by simp),h i (by simp)]
 case extract x i=>simp only[gQ];rw[h x (by simp)]
 case call c=>simp[gQ];rw[Sb (l:=c.args.toList) fun x hx=>h x (by simp[Call.operands]at hx ⊢;exact .inr hx)]
def qxw(h:∀x∈op.operands.toList,c9 tm x=c9 tm' x):nI T O tm op=nI T O tm' op:=by
 cases op<;>simp only[Op.operands]at h<;>try rfl
 case load t x=>simp only[nI];rw[h x (by simp)]
 case lookup t x k ok=>simp only[nI];rw[h x (by simp),h k (by simp)]
def z0r(h:∀x∈op.operands.toList,c9 tm x=c9 tm' x):nX T O tm op=nX T O tm' op:=by
 cases op<;>simp only[Op.operands]at h<;>try rfl
 case box t x=>simp only[nX];rw[h x (by simp)]
 case store t x y=>simp only[nX];rw[h x (by simp),h y (by simp)]
 case buildSlice t n ps=>simp only[nX];rw[qnt (by simpa using h)]
 case makeSlice t x y=>simp only[nX];rw[h x (by simp),h y (by simp)]
 case makeMap t r=>cases r<;>rfl
 case mapUpdate t x y z=>simp only[nX];rw[h x (by simp),h y (by simp),h z (by simp)]
 case insert t x y z=>simp only[nX];rw[h x (by simp),h y (by simp),h z (by simp)]
 case mapEntry t x y=>simp only[nX];rw[h x (by simp),h y (by simp)]
 case entryStore t x y z=>simp only[nX];rw[h x (by simp),h y (by simp),h z (by simp)]
 case call c=>simp[nX];rw[Sb (l:=c.args.toList) fun x hx=>h x (by simp[Call.operands]at hx ⊢;exact .inr hx)]
def yi(h:∀x∈op.operands.toList,c9 tm x=c9 tm' x):kH T tm op=kH T tm' op:=by
 cases op<;>simp[Op.operands]at h<;>try rfl
 case call c=>
  simp[kH];rw[Sb (l:=c.args.toList) fun x hx=>h x (by simp[Call.operands]at hx ⊢;exact .inr hx)];cases hc:c.callee with
  |value f=>simp[];rw[h f (by simp[Call.operands,hc])]|_=>rfl
def YX(h:∀x∈op.operands.toList,c9 tm x=c9 tm' x):bM T O tm op=bM T O tm' op:=by unfold bM;rw[qxu h,qxw h,z0r h]
end
def za9{a9:I Oper}{o:Oper}(h:∀t∈OI a9 o,tm[t]? = tm'[t]?):(∀x∈o.op.operands.toList,c9 tm x=c9 tm' x)/\cM a9 tm o=cM a9 tm' o:=by
 unfold OI at h;unfold cM;cases hg:o.guard with
 |none=>simp[hg]at h;exact⟨fun x hx=>z_ h hx,rfl⟩|some g=>
  have⟨j,want⟩:=g;simp[hg]at h;cases hd:BP a9 j with
  |none=>simp[hd]at h;exact⟨fun x hx=>z_ h hx,by simp[hd]⟩|some d=>simp only[hd]at h;refine⟨fun x hx=>z_ (fun t ht=>h t (by simp[ht])) hx,?_⟩;simp only[hd,jA];rw[h d (by simp)]
variable{K:Nat}
variable{k:Nat}
def Hw(h:Nat.beq k K=false)(b:B)(sz st off n:Nat):fz K b sz (.vl k st off n)=.vl k st off n:=by simp[fz,h]
def yt(h:Nat.beq k K=false)(b:B)(sz off n c:Nat):fz K b sz (.sl k off n c)=.sl k off n c:=by simp[fz,h]
def yu(h:Nat.beq k K=false)(b:B)(sz st off:Nat):fz K b sz (.ptr k st off)=.ptr k st off:=by simp[fz,h]
def V3(K:Nat)(l:I U)(e:X)(sz n:Nat)(h:n*sz<=l.length):fz K (.row l e) sz (.sl K 0 n n)=.isl false (cD sz n l):=by
 have:Nat.beq n n=true:=by simp[beq_eq]
 simp[fz,beq_eq,h]
def Yi(K:Nat)(l:I U)(e:X)(sz:Nat):fz K (.row l e) sz (.ptr K 0 0)=.iptr l:=by simp[fz,beq_eq]
def D7(K:Nat)(b:B)(sz:Nat)(k:IntKind)(n:Int):fz K b sz (.int k n)=.int k n:=by simp[fz]
def H5(K:Nat)(b:B)(sz:Nat)(x:Bool):fz K b sz (.bool x)=.bool x:=by simp[fz]
def GW(K:Nat)(b:B)(sz:Nat)(x:I UInt8):fz K b sz (.str x)=.str x:=by simp[fz]
def ET(K:Nat)(b:B)(sz:Nat):fz K b sz .nils=.nils:=by simp[fz]
def J4(K:Nat)(b:B)(sz:Nat):fz K b sz .nilp=.nilp:=by simp[fz]
def J5(K:Nat)(b:B)(sz:Nat):fz K b sz .nilm=.nilm:=by simp[fz]
def J6(K:Nat)(b:B)(sz:Nat):fz K b sz .nilf=.nilf:=by simp[fz]
def H4(K:Nat)(b:B)(sz:Nat):fz K b sz .junk=.junk:=by simp[fz]
def GX(K:Nat)(b:B)(sz:Nat)(t:Bool)(l:I (I U)):fz K b sz (.isl t l)=.isl t l:=by simp[fz]
def J2(K:Nat)(b:B)(sz:Nat)(k:Nat):fz K b sz (.map k)=.map k:=by simp[fz]
def EP(K:Nat)(b:B)(sz:Nat)(l:I U):fz K b sz (.agg l)=.agg (k7 K b sz l):=by simp[fz]
def GV(K:Nat)(b:B)(sz:Nat)(l:I U):fz K b sz (.tup l)=.tup (k7 K b sz l):=by simp[fz]
def GR(K:Nat)(b:B)(sz:Nat)(f:Fn)(a c:I U):fz K b sz (.fn f a c)=.fn f (k7 K b sz a) (k7 K b sz c):=by simp[fz]
def wL(K:Nat)(b:B)(sz:Nat):k7 K b sz []=[]:=by simp[k7]
def uI(K:Nat)(b:B)(sz:Nat)(u:U)(l:I U):k7 K b sz (u::l)=fz K b sz u::k7 K b sz l:=by simp[k7]
mutual
def xi{K:Nat}(b:B)(sz:Nat):(u:U)->bC K u->fz K b sz u=u
 |.sl k _ _ _,h=>yt (by simp[bC]at h;simp[beq_eq];omega) _ _ _ _ _|.vl k _ _ _,h=>Hw (by simp[bC]at h;simp[beq_eq];omega) _ _ _ _ _
 |.ptr k _ _,h=>yu (by simp[bC]at h;simp[beq_eq];omega) _ _ _ _|.agg l,h=>by simp[bC]at h;rw[EP,tE b sz l h]
 |.tup l,h=>by simp[bC]at h;rw[GV,tE b sz l h]
 |.fn f a c,h=>by simp[bC]at h;rw[GR,tE b sz a h.1,tE b sz c h.2]
 |.int _ _,_=>D7 _ _ _ _ _|.bool _,_=>H5 _ _ _ _
 |.str _,_=>GW _ _ _ _|.nils,_=>ET _ _ _
 |.nilp,_=>J4 _ _ _|.nilm,_=>J5 _ _ _
 |.nilf,_=>J6 _ _ _|.nili,_=>by simp[fz]
 |.junk,_=>H4 _ _ _|.isl _ _,_=>GX _ _ _ _ _
 |.iptr _,_=>by simp[fz]
 |.map _,_=>J2 _ _ _ _
def tE{K:Nat}(b:B)(sz:Nat):(l:I U)->aL K l->k7 K b sz l=l
 |[],_=>wL _ _ _|u::l,h=>by simp[aL]at h;rw[uI,xi b sz u h.1,tE b sz l h.2]
end
variable{x:Cx}
def oS.belB{b:B}(h:oS x k b):BelB x.O.nx b:=by
 cases b with
 |row l e=>have⟨_,_,_,_,_,e3⟩:=h;exact e3.bel
 |vec l e sz st=>have⟨_,_,h3⟩:=h;rcases h3 with⟨rfl,_⟩|⟨_,_,_,_,e3⟩;simp[BelB,aL];exact e3.bel
 |map es cl=>have⟨_,es',_,_,e3⟩:=h;intro e he;obtain⟨j,hj,rfl⟩:=List.getElem_of_mem he;obtain⟨v,_,q2,q3,_⟩:=e3.2 j _ (List.getElem?_eq_getElem hj);exact⟨aD.bel _ _ q2,aD.bel _ _ q3⟩
variable{n0:Nat}
variable{O:Sg}
def Gh.same(h':I (Nat×B))(hg:∀k,gt h' k=gt O.h k):Gh n0 tm O tm ⟨h',O.nx⟩:=fun F x tv hx hr hf he=>by
 subst hx;have gD:Mo x.O.nx x ⟨x.Y,⟨h',x.O.nx⟩,x.s⟩:=⟨fun k _ h2=>⟨h2,fun b hb=>⟨b,by rw[<-hg];exact hb,zF _,fun _=>⟨rfl,fun l e sz st h=>⟨l,h⟩⟩⟩⟩,fun _ _ _ h=>h⟩;refine⟨⟨x.Y,⟨h',x.O.nx⟩,x.s⟩,fun m w hf=>bQ.refl hf,rfl,⟨fun k b hb=>?_,fun k k' b b' i hb cV=>?_,hr.bd⟩,fun i b J=>?_,gD.ke.E he.bel he,fun u v hb hr=>gD.ke u v (aD.bel u v hr) hr⟩;have cV:gt x.O.h k=some b:=by rw[<-hg];exact hb
 have⟨h1,h2⟩:=hr.ok k b cV;exact⟨h1,h2.mono gD rfl fun _ _ _ h=>h⟩;exact hr.inj k k' b b' i (by rw[<-hg];exact hb) (by rw[<-hg];exact cV);have⟨h1,h2⟩:=hf i b J;exact⟨h1,fun k c hc=>h2 k c (by rw[<-hg];exact hc)⟩
variable{T:Tb}
variable{op:Op}
def quu{q:FuncId×I U}(h:kH T tm op=some q):bM T O tm op=none:=by
 cases op with
 |call c=>
  simp[kH]at h;cases hc:c.callee with
  |value f=>simp[bM,gQ,nI,nX,hc]|_=>simp[hc]at h
 |_=>simp[kH]at h
def Gh.cutG{n1:Nat}(h1:n0<=n1)(h2:n1<=O.nx)(hb:aL n1 tm)(hh:∀k b,gt (Vx.cut n1 O.h) k=some b->BelB n1 b):Gh n0 tm O tm ⟨Vx.cut n1 O.h,n1⟩:=fun F x tv hx hr hf he=>by
 subst hx;have gD:Mo n1 x ⟨x.Y,⟨Vx.cut n1 x.O.h,n1⟩,x.s⟩:=by refine⟨fun k hk _=>⟨hk,fun b hb=>?_⟩,fun _ _ _ h=>h⟩;simp[Gg,hk,if_true]at hb;exact⟨b,hb,zF _,fun _=>⟨rfl,fun l e sz st h=>⟨l,h⟩⟩⟩
 have sub:∀{k b},gt (Vx.cut n1 x.O.h) k=some b->k<n1/\gt x.O.h k=some b:=fun{k b} hg=>by simp only[Gg]at hg;split at hg;exact⟨by assumption,hg⟩;cases hg
 refine⟨⟨x.Y,⟨Vx.cut n1 x.O.h,n1⟩,x.s⟩,fun m w hf=>bQ.refl hf,rfl,⟨fun k b hg=>?_,fun k k' b b' i g1 g2=>hr.inj k k' b b' i (sub g1).2 (sub g2).2,hr.bd⟩,fun i b J=>?_,gD.ke.E hb he,gD.ke.le h1⟩;exact⟨(sub hg).1,(hr.ok k b (sub hg).2).2.monoB (hh k b hg) gD rfl fun _ _ _ h=>h⟩;exact⟨(hf i b J).1,fun k c hc=>(hf i b J).2 k c (sub hc).2⟩
def qrg{k:Nat}(sz:Nat):∀(n:Nat)(l:I U),aL k l->mV k (cD sz n l)
 |0,l,_=>by simp[cD,mV]
 |n+1,l,h=>by simp[cD,mV];exact⟨(EV k _).2 fun u hu=>(EV k _).1 h u (List.mem_of_mem_take hu),qrg sz n _ ((EV k _).2 fun u hu=>(EV k _).1 h u (List.mem_of_mem_drop hu))⟩
def AL(P:Program)(T:Tb)(tm:I U)(op:Op)(u:U):Prop :=
 (∃f args,kH T tm op=some (f,args)/\∀s,bE P f args s (fun u' O=>u'=u/\O=s))\/ (∃n sz cs e,(∀O,bM T O tm op=some (.sl O.nx 0 n n,newU O (.row cs e)))/\n*sz<=cs.length/\aL 0 cs/\u=.isl false (cD sz n cs))
def Gh.quiet{n sz:Nat}{cs:I U}{e:X}{d:V Tmp}(h0:n0<=O.nx)(hb:aL O.nx tm)(hs:∀k b,gt O.h k=some b->k<O.nx/\BelB O.nx b)(hl:n*sz<=cs.length)(uP:aL 0 cs):Gh n0 (dZ tm d (.sl O.nx 0 n n)) (newU O (.row cs e)) (dZ tm d (.isl false (cD sz n cs))) O:=by
 have e0:gt (newU O (.row cs e)).h O.nx=some (.row cs e):=by simp[newU,eA]
 have et:k7 O.nx (.row cs e) sz (dZ tm d (.sl O.nx 0 n n))=dZ tm d (.isl false (cD sz n cs)):=by
  rcases d with _|t;simp[dZ];exact tE _ _ _ hb;simp[dZ];have key:∀(l:I U)(t:Nat),aL O.nx l->k7 O.nx (.row cs e) sz (l.set t (.sl O.nx 0 n n))=l.set t (.isl false (cD sz n cs)):=by
   intro l;induction l with
   |nil=>intro t _;simp[k7]|cons u l ih=>
    intro t h;simp[aL]at h;cases t with
    |zero=>simp[List.set_cons_zero,uI,tE _ _ l h.2,V3 O.nx cs e sz n hl]|succ t=>simp[List.set_cons_succ,uI,xi _ _ u h.1,ih t h.2]
  exact key tm t hb
 have ef:aL O.nx (dZ tm d (.isl false (cD sz n cs))):=by
  rcases d with _|t;simpa only[dZ]using hb;simp[dZ];have key:∀(l:I U)(t:Nat),aL O.nx l->aL O.nx (l.set t (.isl false (cD sz n cs))):=by
   intro l;induction l with
   |nil=>intro t _;simp[aL]|cons u l ih=>
    intro t h;simp[aL]at h;cases t with
    |zero=>simp[List.set_cons_zero,aL];exact⟨by simp[bC];exact qrg sz n cs (aL.le (Nat.zero_le _) _ uP),h.2⟩|succ t=>simp[List.set_cons_succ,aL];exact⟨h.1,ih t h.2⟩
  exact key tm t hb
 have eg:∀k,gt (Vx.cut O.nx (fzH O.nx (.row cs e) sz (newU O (.row cs e)).h)) k=gt O.h k:=fun k=>by
  rw[Gg];by_cases hk:k<O.nx;rw[if_pos hk,Gf,if_neg (by omega)];have:gt (newU O (.row cs e)).h k=gt O.h k:=by simp only[newU,eA];rw[if_neg (by omega)]
  rw[this];rcases hg:gt O.h k with _|b;rfl;have hb:=(hs k b hg).2;simp[zM,zA];cases b with
  |row l e=>simp[fzB];rw[tE _ _ _ hb]|vec l e s st=>simp[fzB];rw[tE _ _ _ hb]
  |map es cl=>
   simp[fzB];congr 1;have:∀q∈es,({ q with val:=fz O.nx (.row cs e) sz q.val }:_)=q:=fun q hq=>by rw[xi _ _ _ (hb q hq).2]
   exact(List.map_congr_left this).trans (List.map_id _)
  rw[if_neg hk];rcases hg:gt O.h k with _|b;rfl;exact absurd (hs k b hg).1 hk
 refine(Gh.freeze (n0:=n0) sz e0 (by simp)).trans ?_;rw[et];refine(Gh.cutG (n0:=n0) (n1:=O.nx) h0 (by simp[newU]) ef ?_).trans ?_;intro k b hg;rw[eg]at hg;exact(hs k b hg).2;exact Gh.same (O:=⟨Vx.cut O.nx (fzH O.nx (.row cs e) sz (newU O (.row cs e)).h),O.nx⟩) O.h fun k=>(eg k).symm
variable{P:Program}
variable{u:U}
def AL.noop(h:AL P T tm op u)(O:Sg):bM T O tm op≠some (u,O):=fun hc=>by
 rcases h with⟨f,args,h,_⟩|⟨n,sz,cs,e,h,_⟩;rw[quu h]at hc;cases hc;rw[h O]at hc;simp[zA,zB]at hc;have:=congrArg Sg.nx hc.2;simp only[newU]at this;omega
def AL.congr(h:∀x∈op.operands.toList,c9 tm x=c9 tm' x)(hf:AL P T tm' op u):AL P T tm op u:=by rcases hf with⟨f,args,h1,h2⟩|⟨n,sz,cs,e,h1,h2⟩;exact .inl ⟨f,args,(yi h).trans h1,h2⟩;exact .inr ⟨n,sz,cs,e,fun O=>(YX h).trans (h1 O),h2⟩
def AL.nd(h:AL P T tm op u):∀c,op≠.defer c:=by rcases h with⟨f,args,h1,_⟩|⟨n,sz,cs,e,h1,_⟩;exact Px h1;exact OE (h1 ⟨[],0⟩)
variable{F:Nat->lU->Prop}
def St.free(hT:lP P T){tv:I M}{m:Nm}{w:World}{a:Act}(st:St F x tm tv m w a)(o:Oper)(h:AL P T tm o.op u){next:Act->World->Prop}{Q:Exit->Act->World->Prop}
  (hn:∀y cZ aH w₁ bB,y.O=x.O->St F y (dZ tm o.dst u) cZ aH w₁ bB->bQ m x.s w aH y.s w₁->Ke x.O.nx x y->x.O.nx<=y.O.nx->bB.defers=a.defers->next bB w₁):o.wp P a w next Q:=by
 rcases h with⟨f,args,h1,h2⟩|⟨n,sz,cs,e,h1,h2,h3,rfl⟩;refine st.call hT o h1 (h2 x.O) fun y u' cZ aH w₁ bB hR cT bO d8 mP fL=>?_
 have⟨rfl,hR2⟩:=hR;exact hn y cZ aH w₁ bB hR2 cT bO d8 mP fL;refine st.op hT o (h1 x.O) fun y cZ aH w₁ bB e1 cT bO d8 mP fL=>?_;have⟨z,g1,g2,g3,g4,g5,g6⟩:=Gh.quiet (n0:=x.O.nx) (O:=x.O) (d:=o.dst) (e:=e) (zF _) st.e.bel (fun k b hg=>⟨(st.h.ok k b hg).1,(st.h.ok k b hg).2.belB⟩) h2 h3 F y cZ e1 cT.h cT.fr cT.e;have d9:=g1 aH w₁ cT.fits;exact hn z cZ aH w₁ bB g2 ⟨g3,g4,g5,d9.fits,cT.act.ext d9.agree d9.nx⟩ (bO.trans d9) (d8.trans g6) (by rw[g2];exact zF _) fL
def St.opfz(hT:lP P T){tv:I M}{m:Nm}{w:World}{a:Act}(st:St F x tm tv m w a)(o:Oper){u1:U}{s1 s':Sg}{d:Nat}(pY:bM T x.O tm o.op=some (u1,s1))(hd:o.dst=some d)(KL:d<tm.length)
  (hg:Gh s1.nx [u1] s1 [u] s') (hn:s1.nx<=s'.nx) {next:Act->World->Prop} {Q:Exit->Act->World->Prop}
  (hk:∀y cZ aH w₁ bB,y.O=s'->St F y (dZ tm o.dst u) cZ aH w₁ bB->bQ m x.s w aH y.s w₁->Ke x.O.nx x y->x.O.nx<=y.O.nx->bB.defers=a.defers->next bB w₁):o.wp P a w next Q:=by
 refine st.op hT o pY fun y cZ aH w₁ bB e1 cT bO d8 mP fL=>?_;have he:=cT.e;rw[hd]at he hk;simp[dZ]at he hk;have⟨v1,O?,Kr⟩:=he.get (List.getElem?_set_self (by simpa using KL));have⟨z,g1,g2,g3,g4,g5,g6⟩:=hg F y [v1] e1 cT.h cT.fr (bF.cons Kr (bF.nil y));have d9:=g1 aH w₁ cT.fits;have⟨v1',_,N?,UM,_⟩:=g5.inv;cases N?;have hez:bF z (tm.set d u) cZ:=by refine⟨(J8 z _ _).2 fun i u' B0=>?_,by have:=he.2;simpa using this⟩;by_cases hi:d=i;subst hi;rw[List.getElem?_set_self (by simpa using KL)]at B0;cases B0;exact⟨v1,O?,UM⟩;rw[List.getElem?_set_ne hi]at B0;have⟨v,hv,hr⟩:=he.get (i:=i) (u:=u') (by rw[List.getElem?_set_ne hi];exact B0);refine⟨v,hv,g6 u' v ?_ hr⟩;have hb:=(EV y.O.nx _).1 he.bel u' (by rw[List.mem_iff_getElem?];exact⟨i,by rw[List.getElem?_set_ne hi];exact B0⟩);rw[e1]at hb;exact hb
 exact hk z cZ aH w₁ bB g2 ⟨g3,g4,hez,d9.fits,cT.act.ext d9.agree d9.nx⟩ (bO.trans d9) (d8.trans (g6.le (by rw[<-e1];exact mP))) (by rw[g2];rw[e1]at mP;omega) fL
structure dR where
 tm:I U
 o:Oper
 u:U
 act:Bool
 mv:Bool
 s:Sg
 s':Sg
def Good(P:Program)(T:Tb)(a9:I Oper)(r:dR):Prop :=
 (cM a9 r.tm r.o=some false/\r.u=.tup []/\r.act=false/\r.s'=r.s)\/ (cM a9 r.tm r.o=some true/\bM T r.s r.tm r.o.op=some (r.u,r.s')/\(r.act=false->r.s'=r.s))\/ (cM a9 r.tm r.o=some true/\r.act=true/\∃f args,kH T r.tm r.o.op=some (f,args)/\bE P f args r.s (fun u O=>u=r.u/\O=r.s'))\/ (cM a9 r.tm r.o=some true/\r.act=false/\r.s'=r.s/\AL P T r.tm r.o.op r.u)\/ (r.act=false/\r.mv=true/\r.s'=r.s)\/ (cM a9 r.tm r.o=some true/\r.act=true/\∃u1 s1 d,bM T r.s r.tm r.o.op=some (u1,s1)/\r.o.dst=some d/\d<r.tm.length/\Gh s1.nx [u1] s1 [r.u] r.s'/\s1.nx<=r.s'.nx)
variable{r:dR}
def Good.quiet{a9:I Oper}(h:Good P T a9 r)(ha:r.act=false):r.s'=r.s:=by rcases h with⟨_,_,_,h⟩|⟨_,_,h⟩|⟨_,h,_⟩|⟨_,_,h,_⟩|⟨_,_,h⟩|⟨_,h,_⟩;exact h;exact h ha;rw[ha]at h;cases h;exact h;exact h;rw[ha]at h;cases h
def fC(rs:I dR)(O':Sg)(p:Nat):Sg:=match rs[p]? with
 |some r=>r.s|none=>O'
def sN(rs:I dR)(tm':I U)(p:Nat):I U:=match rs[p]? with
 |some r=>r.tm|none=>tm'
structure Lm(P:Program)(T:Tb)(a9:I Oper)(tm₀:I U)(HU:Sg)(rs:I dR)(tm':I U)(O':Sg):Prop where
 len:rs.length=a9.length
 s0:fC rs O' 0=HU
 t0:sN rs tm' 0=tm₀
 all:∀(i:Nat)(r:dR),rs[i]? = some r->a9[i]? = some r.o/\Good P T a9 r/\fC rs O' (i+1)=r.s'/\sN rs tm' (i+1)=dZ r.tm r.o.dst r.u
structure zl(T:Tb)(a9:I Oper)(rs:I dR):Prop where
 acts:∀(i k:Nat)(r q:dR),rs[i]? = some r->rs[k]? = some q->r.act=true->q.act=true->k<i->Pre a9 i k
 lo:∀(i k:Nat)(r q:dR),rs[i]? = some r->rs[k]? = some q->r.act=false->cM a9 r.tm r.o=some true->bM T r.s r.tm r.o.op=some (r.u,r.s')->q.act=true->k<i->Pre a9 i k\/q.s=r.s\/bM T q.s r.tm r.o.op=some (r.u,q.s)
 hi:∀(i k:Nat)(r q:dR),rs[i]? = some r->rs[k]? = some q->r.act=false->cM a9 r.tm r.o=some true->bM T r.s r.tm r.o.op=some (r.u,r.s')->q.act=true->i<k->Pre a9 k i\/q.s'=r.s\/bM T q.s' r.tm r.o.op=some (r.u,q.s')
structure IY(tm₀:I U)(rs:I dR)(L:Nat->Prop)(tm:I U):Prop where
 len:tm.length=tm₀.length
 yes:∀(k:Nat)(r:dR)(d:Nat),rs[k]? = some r->r.o.dst=some d->d<tm₀.length->L k->tm[d]? = some r.u
 no:∀(k:Nat)(r:dR)(d:Nat),rs[k]? = some r->r.o.dst=some d->¬ L k->tm[d]? = tm₀[d]?
 other:∀(t:Nat),(∀(k:Nat)(r:dR),rs[k]? = some r->r.o.dst≠some t)->tm[t]? = tm₀[t]?
section
variable{P:Program}{T:Tb}(hT:lP P T)(a9:Array Oper){tm₀:I U}{HU:Sg}{rs:I dR}{tm':I U}{O':Sg}
 (gC:Lm P T a9.toList tm₀ HU rs tm' O') (bZ:ML a9.toList=true)
include gC bZ
omit bZ in
def zap{i:Nat}{o:Oper}(ho:a9.toList[i]? = some o):∃r,rs[i]? = some r/\r.o=o:=by
 have hi:i<rs.length:=by rw[gC.len];exact(zG.1 ho).1
 have hr:rs[i]? = some rs[i]:=by simp[hi]
 refine⟨_,hr,?_⟩;have:=(gC.all i _ hr).1;rw[ho]at this;exact(Option.some.inj this).symm
variable{i:Nat}
def qyp{q:dR}(hr:rs[i]? = some r)(hq:rs[k]? = some q)(FU:i≠k){d:Tmp}(hd:q.o.dst=some d):r.o.dst≠some d :=
 (z6b bZ (gC.all i r hr).1 (gC.all k q hq).1 FU hd).1
def rf{L:Nat->Prop}(h:IY tm₀ rs L tm)(hr:rs[i]? = some r):IY tm₀ rs (fun k=>L k\/k=i) (dZ tm r.o.dst r.u):=by
 cases hd:r.o.dst with
 |none=>simp[dZ];refine⟨h.len,fun k q d hq FN aE hL=>?_,fun k q d hq FN hL=>h.no k q d hq FN fun x=>hL (.inl x),h.other⟩;rcases hL with hL |rfl;exact h.yes k q d hq FN aE hL;rw[hr]at hq;cases hq;rw[hd]at FN;cases FN
 |some Eb=>
  simp[dZ];refine⟨by simp[h.len],fun k q d hq FN aE hL=>?_,fun k q d hq FN hL=>?_,fun t ht=>?_⟩;by_cases Ws:k=i;subst Ws;rw[hr]at hq;cases hq;rw[hd]at FN;cases FN;rw[List.getElem?_set_self (by rw[h.len];exact aE)];have d5:Eb≠d:=fun e=>by have:=qyp a9 gC bZ hr hq (fun x=>Ws x.symm) FN;exact this (by rw[hd,e])
  rw[List.getElem?_set_ne d5];rcases hL with hL |hL;exact h.yes k q d hq FN aE hL;exact absurd hL Ws;have Ws:k≠i:=fun e=>hL (.inr e)
  have d5:Eb≠d:=fun e=>by have:=qyp a9 gC bZ hr hq (fun x=>Ws x.symm) FN;exact this (by rw[hd,e])
  rw[List.getElem?_set_ne d5];exact h.no k q d hq FN fun x=>hL (.inl x);have d5:Eb≠t:=fun e=>ht i r hr (by rw[hd,e]);rw[List.getElem?_set_ne d5];exact h.other t ht
omit gC bZ in
def k_:IY tm₀ rs (fun _=>False) tm₀:=⟨rfl,fun _ _ _ _ _ _ h=>h.elim,fun _ _ _ _ _ _=>rfl,fun _ _=>rfl⟩
def iz(p:Nat)(hp:p<=rs.length):IY tm₀ rs (fun k=>k<p) (sN rs tm' p):=by
 induction p with
 |zero=>rw[gC.t0];have:=k_ (rs:=rs) (tm₀:=tm₀);refine⟨this.len,fun k r d _ _ _ hL=>by omega,fun k r d h1 h2 _=>this.no k r d h1 h2 (fun x=>x),this.other⟩|succ p ih=>
  have hr:rs[p]? = some rs[p]:=by simp[show p<rs.length by omega]
  have h5:=(gC.all p _ hr).2.2.2;have bm:=ih (by omega);have e1:sN rs tm' p=rs[p].tm:=by simp[sN,hr]
  rw[e1]at bm;have:=rf a9 gC bZ bm hr;rw[h5];refine⟨this.len,fun k q d a b c hL=>this.yes k q d a b c (by omega),fun k q d a b hL=>this.no k q d a b (by omega),this.other⟩
omit gC bZ in
def z1l{L:Nat->Prop}{a b:I U}(ha:IY tm₀ rs L a)(hb:IY tm₀ rs L b):a=b:=by
 apply List.ext_getElem?;intro t;by_cases ht:∀(k:Nat)(r:dR),rs[k]? = some r->r.o.dst≠some t;rw[ha.other t ht,hb.other t ht];have:∃(k:Nat)(r:dR),rs[k]? = some r/\r.o.dst=some t:=by apply Classical.byContradiction;intro hn;exact ht fun k r hr hd=>hn ⟨k,r,hr,hd⟩
 have⟨k,r,hr,hd⟩:=this;by_cases hL:L k;by_cases aE:t<tm₀.length;rw[ha.yes k r t hr hd aE hL,hb.yes k r t hr hd aE hL];rw[List.getElem?_eq_none (by rw[ha.len];omega),List.getElem?_eq_none (by rw[hb.len];omega)];rw[ha.no k r t hr hd hL,hb.no k r t hr hd hL]
def qqe{L:Nat->Prop}(hL:Closed a9.toList L)(h:IY tm₀ rs L tm)(hr:rs[i]? = some r)(hi:¬ L i)
  (nN:∀o,a9.toList[i]? = some o->∀e∈o.after.toList,Region.binds .any e=true->L e.on):∀t∈OI a9.toList r.o,tm[t]? = r.tm[t]?:=by
 have NF:i<rs.length:=(zG.1 hr).1;have pJ:=iz a9 gC bZ i (Nat.le_of_lt NF);have e1:sN rs tm' i=r.tm:=by simp[sN,hr]
 rw[e1]at pJ;intro(t:Nat) ht;by_cases eH:∀(k:Nat)(q:dR),rs[k]? = some q->q.o.dst≠some t;rw[h.other t eH,pJ.other t eH];have:∃(k:Nat)(q:dR),rs[k]? = some q/\q.o.dst=some t:=by apply Classical.byContradiction;intro hn;exact eH fun k r hr hd=>hn ⟨k,r,hr,hd⟩
 have⟨k,q,hq,hd⟩:=this;have ho:=(gC.all i r hr).1;have hk:=(gC.all k q hq).1;by_cases FU:i=k;subst FU;rw[h.no i q t hq hd hi,pJ.no i q t hq hd (by omega)];rcases(z6b bZ ho hk FU hd).2 ht with hp |hp;have hLk:=SU bZ hL nN hp;have aE:=zaj bZ i k hp;by_cases DF:t<tm₀.length;rw[h.yes k q t hq hd DF hLk,pJ.yes k q t hq hd DF aE];rw[List.getElem?_eq_none (by rw[h.len];omega),List.getElem?_eq_none (by rw[pJ.len];omega)];have hnk:¬ L k:=fun x=>hi (Hu bZ hL k i x hp)
 have aE:=zaj bZ k i hp;rw[h.no k q t hq hd hnk,pJ.no k q t hq hd (by omega)]
omit bZ in
def YO{p q:Nat}(HD:p<=q)(hq:q<=rs.length)(eH : ∀(e:Nat)(r:dR),p<=e->e<q->rs[e]? = some r->r.act=false): fC rs O' p=fC rs O' q:=by
  induction q with
  | zero => have : p = 0 := by omega
            rw[this]
  |succ q ih=>
    rcases Nat.lt_or_ge q p with h |h;have:p=q+1:=by omega
    rw[this];rw[ih h (by omega) fun e r h1 h2 h3=> eH e r h1 (by omega) h3];have hr:rs[q]? = some rs[q]:=by simp[show q<rs.length by omega]
    have⟨_,g2,g3,_⟩:=gC.all q _ hr;rw[g3,g2.quiet (eH q _ h (zN _) hr)];simp[fC,hr]
omit gC bZ in
def zbt{i p:Nat}(h:∃(e:Nat)(q:dR),i<e/\e<p/\rs[e]? = some q/\q.act=true):∃(e:Nat)(q:dR),i<e/\e<p/\rs[e]? = some q/\q.act=true/\∀(e':Nat)(q':dR),e<e'->e'<p->rs[e']? = some q'->q'.act=false:=by
 have⟨e,q,g1,g2,g3,g5⟩:=h;have:∀(n e:Nat)(q:dR),p-e=n->i<e->e<p->rs[e]? = some q->q.act=true->∃(e:Nat)(q:dR),i<e/\e<p/\rs[e]? = some q/\q.act=true/\∀(e':Nat)(q':dR),e<e'->e'<p->rs[e']? = some q'->q'.act=false:=by
  intro n;induction n using Nat.strongRecOn with
  |_ n ihn=>intro e q d5 g1 g2 g3 g5;by_cases qP:∃(e':Nat)(q':dR),e<e'/\e'<p/\rs[e']? = some q'/\q'.act=true;have⟨e',q',k1,k2,k3,k4⟩:=qP;exact ihn (p-e') (by omega) e' q' rfl (by omega) k2 k3 k4;exact⟨e,q,g1,g2,g3,g5,fun e' q' k1 k2 k3=>by cases hb:q'.act with |false=>rfl |true=>exact absurd ⟨e',q',k1,k2,k3,hb⟩ qP⟩
 exact this _ e q rfl g1 g2 g3 g5
omit gC bZ in
def z7t{i p:Nat}(h:∃(e:Nat)(q:dR),p<=e/\e<i/\rs[e]? = some q/\q.act=true):∃(e:Nat)(q:dR),p<=e/\e<i/\rs[e]? = some q/\q.act=true/\∀(e':Nat)(q':dR),p<=e'->e'<e->rs[e']? = some q'->q'.act=false:=by
 have⟨e,q,g1,g2,g3,g5⟩:=h;have:∀(e:Nat)(q:dR),p<=e->e<i->rs[e]? = some q->q.act=true->∃(e:Nat)(q:dR),p<=e/\e<i/\rs[e]? = some q/\q.act=true/\∀(e':Nat)(q':dR),p<=e'->e'<e->rs[e']? = some q'->q'.act=false:=by
  intro e;induction e using Nat.strongRecOn with
  |_ e ihn=>intro q g1 g2 g3 g5;by_cases qP:∃(e':Nat)(q':dR),p<=e'/\e'<e/\rs[e']? = some q'/\q'.act=true;have⟨e',q',k1,k2,k3,k4⟩:=qP;exact ihn e' k2 q' k1 (by omega) k3 k4;exact⟨e,q,g1,g2,g3,g5,fun e' q' k1 k2 k3=>by cases hb:q'.act with |false=>rfl |true=>exact absurd ⟨e',q',k1,k2,k3,hb⟩ qP⟩
 exact this e q g1 g2 g3 g5
variable(DP:zl T a9.toList rs)
include hT DP
def z2e{ro:V Nat}{x0:Cx}{m0:Nm}{w0:World}{E:Exit->Act->World->Prop}{df:I Deferred}(hQ:∀y tv m w a,y.O=O'->St F y tm' tv m w a->bQ m0 x0.s w0 m y.s w->Ke n0 x0 y->n0<=y.O.nx->a.defers=df->E .normal a w):
  ∀(fuel:Nat)(aG:Array Bool)(a:Act)(w:World)(m:Nm)(p:Nat)(tm:I U)(tv:I M)(x:Cx),aG.size=a9.size->aG.toList.count false=fuel->
   Closed a9.toList (fun k=>aG.getD k false=true)->(∀(e:Nat)(r:dR),rs[e]? = some r->r.act=false->r.mv=true->aG.getD e false=true)->IY tm₀ rs (fun k=>aG.getD k false=true) tm->p<=rs.length-> (∀(e:Nat)(r:dR),rs[e]? = some r->r.act=true->(aG.getD e false=true↔e<p))->x.O=fC rs O' p->St F x tm tv m w a->bQ m0 x0.s w0 m x.s w->Ke n0 x0 x->n0<=x.O.nx->a.defers=df->
   wpAnyIn (pB ro) 0 P .any a9 E fuel aG a w:=by
 have hn:rs.length=a9.size:=by simpa using gC.len
 intro fuel;induction fuel with
 |zero=>
  intro aG a w m p tm tv x dS KM eS hqa iW hp iX v5 fS aS eR jT j6;have cR:∀k,k<a9.size->aG.getD k false=true:=fun k hk=>by
   have sK:k<aG.size:=by omega
   have:aG[k]≠false:=fun hf=>by
    have hm:false∈aG.toList:=by rw[<-hf];simp
    have:=List.count_pos_iff.2 hm;omega
   have this':aG[k]=true:=by simpa using this
   simp[Array.getD,sK,this']
  have Bt:Region.ready .any a9 aG=[]:=by
   apply List.filter_eq_nil_iff.2;intro k hk;simp[List.mem_range]at hk;have sK:k<aG.size:=by omega
   have:=cR k hk;simp[Array.getD,sK]at this;simp[Array.getD,sK,this]
  refine⟨Bt,?_⟩;have es:fC rs O' p=O':=by rw[YO a9 gC hp (zF _) fun e r h1 h2 h3=>by rcases hb:r.act with _|_;rfl;have:=(iX e r h3 hb).1 (cR e (by omega));omega];simp[fC]
  have et:tm=tm':=by
   have h1:=iz a9 gC bZ rs.length (zF _);have e1:sN rs tm' rs.length=tm':=by simp[sN]
   rw[e1]at h1;refine z1l (L:=fun k=>k<rs.length) ⟨iW.len,fun k r d g1 g2 g3 g4=>iW.yes k r d g1 g2 g3 (cR k (by omega)),fun k r d g1 g2 g3=>?_,iW.other⟩ h1;have:=(zG.1 g1).1;exact absurd this g3
  rw[et]at fS;exact hQ x tv m w a (v5.trans es) fS aS eR jT j6
 |succ fuel ih=>
  intro aG a w m p tm tv x dS KM eS hqa iW hp iX v5 fS aS eR jT j6;have mem_ready:∀i,i∈Region.ready .any a9 aG↔i<a9.size/\aG.getD i true=false/\∃o,a9[i]? = some o/\∀e∈o.after.toList,Region.binds .any e=true->aG.getD e.on false=true:=by
   intro i;unfold Region.ready;rw[List.mem_filter,List.mem_range];refine and_congr_right fun hi=>?_;have ho:a9[i]? = some a9[i]:=by simp[hi]
   simp only[ho,zM,Option.getD_some,Bool.and_eq_true,Bool.not_eq_true',Array.all_eq_true_iff_forall_mem,Bool.or_eq_true];refine and_congr_right fun _=>?_;constructor;intro h;refine⟨_,rfl,fun e he hb=>?_⟩;rcases h e (by simpa using he)with h1 |h1
   simp[hb]at h1;exact h1;rintro⟨o,ho',h⟩ e he;cases ho';rcases hb:Region.binds .any e with _|_;exact .inl rfl;exact .inr (h e (by simpa using he) hb)
  refine⟨fun Bw=>?_,fun i hi=>?_⟩;exfalso;have xT:∃i,i<a9.size/\aG.getD i true=false:=by
   have f0:0<aG.toList.count false:=by omega
   have⟨i,hi,e⟩:=List.mem_iff_getElem.1 (List.count_pos_iff.1 f0);simp at hi;refine⟨i,by omega,?_⟩;simp[Array.getElem_toList]at e;simp[Array.getD,hi,e]
  have nP:∀n,n<a9.size->aG.getD n true=false->False:=by
   intro n;induction n using Nat.strongRecOn with
   |_ n ihn=>
    intro UO Q3;have:n∈Region.ready .any a9 aG:=(mem_ready n).2 ⟨UO,Q3,a9[n],by simp[UO],fun e he hb=>by
     have aE:=zq bZ (i:=n) (o:=a9[n]) (by simp[UO]) e he hb;have sK:e.on<aG.size:=by omega
     cases hv:aG[e.on]with|true=>simp[Array.getD,sK,hv]|false=>exact(ihn e.on aE (by omega) (by simp[Array.getD,sK,hv])).elim⟩
    rw[Bw]at this;cases this
  have⟨i,h1,h2⟩:=xT;exact nP i h1 h2;have⟨hilt,NF,o,ho,CG⟩:=(mem_ready i).1 hi;have wP:i<aG.size:=by omega
  have NJ:¬ aG.getD i false=true:=by simp[Array.getD,wP]at NF ⊢;exact NF
  have xR:a9.toList[i]? = some o:=by simpa using ho
  have⟨r,hr,jI⟩:=zap a9 gC xR;subst jI;have nN:∀q,a9.toList[i]? = some q->∀e∈q.after.toList,Region.binds .any e=true->aG.getD e.on false=true:=fun q hq=>by rw[xR]at hq;cases hq;exact CG
  have CA:=qqe a9 gC bZ eS iW hr NJ nN;have⟨_,yW,nA,_⟩:=gC.all i r hr;have UI:fC rs O' i=r.s:=by simp[fC,hr]
  have jE:∀k,((aG.setIfInBounds i true).getD k false=true)↔(aG.getD k false=true\/k=i):=fun k=>by by_cases hk:k=i;subst hk;simp[Array.getD,wP];by_cases qR:k<aG.size;simp[Array.getD,qR,hk,Ne.symm hk];simp[Array.getD,qR,hk]
  have wV:Closed a9.toList (fun k=>(aG.setIfInBounds i true).getD k false=true):=fun k q hk hq e he hb=>by refine(jE e.on).2 (.inl ?_);rcases(jE k).1 hk with hk |rfl;exact eS k q hk hq e he hb;exact nN q hq e he hb
  have Wj:∀(e:Nat)(r:dR),rs[e]? = some r->r.act=false->r.mv=true->(aG.setIfInBounds i true).getD e false=true:=fun e q h1 h2 h3=>(jE e).2 (.inl (hqa e q h1 h2 h3));have nM:IY tm₀ rs (fun k=>(aG.setIfInBounds i true).getD k false=true) (dZ tm r.o.dst r.u):=by have:=rf a9 gC bZ iW hr;exact⟨this.len,fun k q d a b c hL=>this.yes k q d a b c ((jE k).1 hL),fun k q d a b hL=>this.no k q d a b fun x=>hL ((jE k).2 x),this.other⟩
  have tQ:(aG.setIfInBounds i true).toList.count false=fuel:=by
   have hv:aG[i]=false:=by simpa[Array.getD,wP]using NF
   rw[Array.toList_setIfInBounds,List.count_set (by simpa using wP)];have Cq:Array.count false aG=fuel+1:=by simpa using KM
   simp[hv];omega
  have⟨pX,N9⟩:=za9 CA;have stay:r.act=false->∀y cZ aH w₁ bB,y.O=fC rs O' p->St F y (dZ tm r.o.dst r.u) cZ aH w₁ bB->bQ m0 x0.s w0 aH y.s w₁->Ke n0 x0 y->n0<=y.O.nx->bB.defers=df->wpAnyIn (pB ro) 0 P .any a9 E fuel (aG.setIfInBounds i true) bB w₁:=fun hk y cZ aH w₁ bB h1 h2 h3 h4 h5 h6=>by refine ih _ _ _ aH p _ cZ y (by simpa using dS) tQ wV Wj nM hp (fun e q hq FM=>?_) h1 h2 h3 h4 h5 h6;rw[jE];by_cases hei:e=i;subst hei;rw[hr]at hq;cases hq;rw[hk]at FM;cases FM;simp only[hei,or_false];exact iX e q hq FM
  have past:r.act=true->fC rs O' p=r.s/\∀y cZ aH w₁ bB,y.O=r.s'->St F y (dZ tm r.o.dst r.u) cZ aH w₁ bB->bQ m0 x0.s w0 aH y.s w₁->Ke n0 x0 y->n0<=y.O.nx->bB.defers=df->wpAnyIn (pB ro) 0 P .any a9 E fuel (aG.setIfInBounds i true) bB w₁:=fun hk=>by
   have Wm:p<=i:=by rcases Nat.lt_or_ge i p with h |h;exact absurd ((iX i r hr hk).2 h) NJ;exact h
   have hil':i<rs.length:=(zG.1 hr).1;have tR:∀(e:Nat)(q:dR),p<=e->e<i->rs[e]? = some q->q.act=false:=fun e q h1 h2 h3=>by rcases hb:q.act with _|_;rfl;have:=SU bZ eS nN (DP.acts i e r q hr h3 hk hb h2);have:=(iX e q h3 hb).1 this;omega
   refine⟨(YO a9 gC Wm (by omega) tR).trans UI,fun y cZ aH w₁ bB h1 h2 h3 h4 h5 h6=>?_⟩;refine ih _ _ _ aH (i+1) _ cZ y (by simpa using dS) tQ wV Wj nM (by omega) (fun e q hq FM=>?_) (h1.trans nA.symm) h2 h3 h4 h5 h6;rw[jE];by_cases hei:e=i;subst hei;simp;simp only[hei,or_false];constructor;intro Cw;have:=(iX e q hq FM).1 Cw;omega;intro aE;exact SU bZ eS nN (DP.acts i e r q hr hq hk FM (by omega))
  unfold wpOpIn;simp[ho];rw[Qb (fS.act m (aN.refl _ _)) a9 r.o];rcases yW with⟨hw,hu,ha,_⟩|⟨hw,pY,hqu⟩|⟨hw,ha,f,args,zR,kI⟩|⟨hw,ha,_,yX⟩|⟨ha,hm,_⟩|⟨hw,ha,u1,s1,d,pY,hd,KL,Xa,vV⟩;rw[vQ fS.e (N9.trans hw)];simp[Bool.false_eq_true,if_false];rw[hu]at stay;exact⟨fun _ _=>trivial,stay ha x _ m w _ v5 (fS.skip r.o.dst) aS eR jT ((P1 _ _ _).trans j6)⟩;rw[vQ fS.e (N9.trans hw)];simp[if_true];cases ha:r.act with
  |true=>
   have⟨HE,B2⟩:=past ha;have m5:bM T x.O tm r.o.op=some (r.u,r.s'):=by rw[v5,HE,YX pX];exact pY
   exact AO (OE m5) (fS.op hT r.o m5 fun y cZ aH w₁ bB e1 cT bO d8 mP fL=>B2 y cZ aH w₁ bB e1 cT (aS.trans bO) (eR.trans (d8.le jT)) (by omega) (fL.trans j6))
  |false=>
   have Kq:=hqu ha;have eZ:bM T (fC rs O' p) r.tm r.o.op=some (r.u,fC rs O' p):=by
    rcases Nat.lt_or_ge i p with hip |hip;by_cases xT:∃(e:Nat)(q:dR),i<e/\e<p/\rs[e]? = some q/\q.act=true;have⟨e,q,g1,g2,g3,g5,g6⟩:=zbt xT;have es:fC rs O' (e+1)=fC rs O' p:=YO a9 gC (by omega) hp fun e' q' k1 k2 k3=>g6 e' q' (by omega) k2 k3
    have eq':fC rs O' (e+1)=q.s':=(gC.all e q g3).2.2.1;rw[<-es,eq'];rcases DP.hi i e r q hr g3 ha hw pY g5 g1 with k4 |k4 |k4;have Cw:aG.getD e false=true:=(iX e q g3 g5).2 g2;exact absurd (Hu bZ eS e i Cw k4) NJ;rw[k4,pY,Kq];exact k4;have es:fC rs O' i=fC rs O' p:=YO a9 gC (by omega) hp fun e q k1 k2 k3=>by
     rcases Nat.lt_or_ge i e with h |h;rcases hb:q.act with _|_;rfl;exact absurd ⟨e,q,h,k2,k3,hb⟩ xT;have:e=i:=by omega
     subst this;rw[hr]at k3;cases k3;exact ha
    rw[<-es,UI,pY,Kq];by_cases xT:∃(e:Nat)(q:dR),p<=e/\e<i/\rs[e]? = some q/\q.act=true;have⟨e,q,g1,g2,g3,g5,g6⟩:=z7t xT;have es:fC rs O' p=fC rs O' e:=YO a9 gC g1 (by have:=(zG.1 g3).1;omega) fun e' q' k1 k2 k3=>g6 e' q' k1 k2 k3;have eq':fC rs O' e=q.s:=by simp[fC,g3]
    rw[es,eq'];rcases DP.lo i e r q hr g3 ha hw pY g5 g2 with k4 |k4 |k4;have Cw:=SU bZ eS nN k4;have:=(iX e q g3 g5).1 Cw;omega;rw[k4,pY,Kq];exact k4;have es:fC rs O' p=fC rs O' i:=YO a9 gC hip (by have:=(zG.1 hr).1;omega) fun e q k1 k2 k3=>by rcases hb:q.act with _|_;rfl;exact absurd ⟨e,q,k1,k2,k3,hb⟩ xT
    rw[es,UI,pY,Kq]
   have m5:bM T x.O tm r.o.op=some (r.u,fC rs O' p):=by rw[v5,YX pX];exact eZ
   exact AO (OE m5) (fS.op hT r.o m5 fun y cZ aH w₁ bB e1 cT bO d8 mP fL=>stay ha y cZ aH w₁ bB e1 cT (aS.trans bO) (eR.trans (d8.le jT)) (by omega) (fL.trans j6))
  rw[vQ fS.e (N9.trans hw)];simp[if_true];have⟨HE,B2⟩:=past ha;have hev':bE P f args x.O (fun u O=>u=r.u/\O=r.s'):=by rw[v5,HE];exact kI
  refine AO (Px ((yi pX).trans zR)) (fS.call hT r.o ((yi pX).trans zR) hev' fun y u cZ aH w₁ bB hR cT bO d8 mP fL=>?_);obtain⟨rfl,hR2⟩:=hR;exact B2 y cZ aH w₁ bB hR2 cT (aS.trans bO) (eR.trans (d8.le jT)) (by omega) (fL.trans j6);rw[vQ fS.e (N9.trans hw)];simp[if_true];exact AO (yX.congr pX).nd (fS.free hT r.o (yX.congr pX) fun y cZ aH w₁ bB e1 cT bO d8 mP fL=>stay ha y cZ aH w₁ bB (e1.trans v5) cT (aS.trans bO) (eR.trans (d8.le jT)) (by omega) (fL.trans j6));exact absurd (hqa i r hr ha hm) NJ;rw[vQ fS.e (N9.trans hw)];simp[if_true];have⟨HE,B2⟩:=past ha;have m5:bM T x.O tm r.o.op=some (u1,s1):=by rw[v5,HE,YX pX];exact pY
  have bA:tm.length=r.tm.length:=by
   have h1:=(iz a9 gC bZ i (Nat.le_of_lt (zG.1 hr).1)).len;have e1:sN rs tm' i=r.tm:=by simp[sN,hr]
   rw[e1]at h1;rw[iW.len,h1]
  exact AO (OE m5) (fS.opfz hT r.o m5 hd (by rw[bA];exact KL) Xa vV fun y cZ aH w₁ bB e1 cT bO d8 mP fL=>B2 y cZ aH w₁ bB e1 cT (aS.trans bO) (eR.trans (d8.le jT)) (by omega) (fL.trans j6))
end
end Go.Vx
namespace Go.Vx
open Go Go.Rx
def RD(P:Program)(T:Tb)(a9:I Oper):I Oper->I U->Sg->(I dR->I U->Sg->Prop)->Prop
 |[],tm,O,K=>K [] tm O|o::r,tm,O,K=>(cM a9 tm o=some true/\∃u,bM T O tm o.op=some (u,O)/\RD P T a9 r (dZ tm o.dst u) O (fun rs=>K (⟨tm,o,u,false,false,O,O⟩::rs)))\/ (cM a9 tm o=some true/\∃u O',bM T O tm o.op=some (u,O')/\RD P T a9 r (dZ tm o.dst u) O' (fun rs=>K (⟨tm,o,u,true,true,O,O'⟩::rs)))\/ (cM a9 tm o=some true/\∃f args u,kH T tm o.op=some (f,args)/\bE P f args O (fun u' O'=>u'=u/\O'=O)/\RD P T a9 r (dZ tm o.dst u) O (fun rs=>K (⟨tm,o,u,true,false,O,O⟩::rs)))\/ (cM a9 tm o=some true/\∃f args u O',kH T tm o.op=some (f,args)/\bE P f args O (fun u' s'=>u'=u/\s'=O')/\RD P T a9 r (dZ tm o.dst u) O' (fun rs=>K (⟨tm,o,u,true,true,O,O'⟩::rs)))\/ (cM a9 tm o=some false/\RD P T a9 r (dZ tm o.dst (.tup [])) O (fun rs=>K (⟨tm,o,.tup [],false,false,O,O⟩::rs)))\/ (cM a9 tm o=some true/\∃u,AL P T tm o.op u/\RD P T a9 r (dZ tm o.dst u) O (fun rs=>K (⟨tm,o,u,false,false,O,O⟩::rs)))\/ (cM a9 tm o=some true/\∃u1 s1 d u O',bM T O tm o.op=some (u1,s1)/\o.dst=some d/\d<tm.length/\Gh s1.nx [u1] s1 [u] O'/\s1.nx<=O'.nx/\RD P T a9 r (dZ tm o.dst u) O' (fun rs=>K (⟨tm,o,u,true,true,O,O'⟩::rs)))
def S7{P:Program}{T:Tb}{a9:I Oper}:∀(rest:I Oper)(tm:I U)(O:Sg)(K:I dR->I U->Sg->Prop),RD P T a9 rest tm O K->
  ∃rs tm' O',K rs tm' O'/\rs.length=rest.length/\fC rs O' 0=O/\sN rs tm' 0=tm/\
   ∀(i:Nat)(r:dR),rs[i]? = some r->rest[i]? = some r.o/\Good P T a9 r/\fC rs O' (i+1)=r.s'/\sN rs tm' (i+1)=dZ r.tm r.o.dst r.u/\(r.mv=false->r.s'=r.s)/\(r.mv=true->r.act=true)
 |[],tm,O,K,h=>⟨[],tm,O,h,rfl,rfl,rfl,fun i r hr=>by simp at hr⟩|o::rest,tm,O,K,h=>by
  have step:∀(u:U)(ac mv:Bool)(O1:Sg),RD P T a9 rest (dZ tm o.dst u) O1 (fun rs=>K (⟨tm,o,u,ac,mv,O,O1⟩::rs))->Good P T a9 ⟨tm,o,u,ac,mv,O,O1⟩->(mv=false->O1=O)->(mv=true->ac=true)->
    ∃rs tm' O',K rs tm' O'/\rs.length=(o::rest).length/\fC rs O' 0=O/\sN rs tm' 0=tm/\
     ∀(i:Nat)(r:dR),rs[i]? = some r->(o::rest)[i]? = some r.o/\Good P T a9 r/\fC rs O' (i+1)=r.s'/\sN rs tm' (i+1)=dZ r.tm r.o.dst r.u/\(r.mv=false->r.s'=r.s)/\(r.mv=true->r.act=true):=by
   intro u ac mv O1 h hg h1 h2;have⟨rs,tm',O',g1,g2,g3,g4,g5⟩:=S7 rest _ _ _ h;refine⟨_,tm',O',g1,by simp[g2],rfl,rfl,fun i r hr=>?_⟩;cases i with
   |zero=>simp at hr;subst hr;refine⟨rfl,hg,?_,?_,h1,h2⟩;simp[fC,zH];exact g3;simp[sN,zH];exact g4|succ i=>simp[zH]at hr;have⟨k1,k2,k3,k4,k5⟩:=g5 i r hr;refine⟨by simpa using k1,k2,?_,?_,k5⟩;simp[fC,zH];exact k3;simp[sN,zH];exact k4
  simp only[RD]at h;rcases h with⟨hw,u,h1,h2⟩|⟨hw,u,O1,h1,h2⟩|⟨hw,f,args,u,h1,h2,h3⟩|⟨hw,f,args,u,O1,h1,h2,h3⟩|⟨hw,h1⟩|⟨hw,u,h1,h3⟩|⟨hw,u1,s1,d,u,O1,h1,h2,h3,h4,h5,h6⟩;exact step u false false O h2 (.inr (.inl ⟨hw,h1,fun _=>rfl⟩)) (fun _=>rfl) (by simp);exact step u true true O1 h2 (.inr (.inl ⟨hw,h1,by simp⟩)) (by simp) (by simp);exact step u true false O h3 (.inr (.inr (.inl ⟨hw,rfl,f,args,h1,h2⟩))) (fun _=>rfl) (by simp);exact step u true true O1 h3 (.inr (.inr (.inl ⟨hw,rfl,f,args,h1,h2⟩))) (by simp) (by simp);exact step _ false false O h1 (.inl ⟨hw,rfl,rfl,rfl⟩) (fun _=>rfl) (by simp);exact step u false false O h3 (.inr (.inr (.inr (.inl ⟨hw,rfl,rfl,h1⟩)))) (fun _=>rfl) (by simp);exact step u true true O1 h6 (.inr (.inr (.inr (.inr (.inr ⟨hw,rfl,u1,s1,d,h1,h2,h3,h4,h5⟩))))) (by simp) (by simp)
section
variable{C:PG}{T:Tb}(hT:lP C.prog T){n0:Nat}{Q:Exit->I U->Sg->Prop}{tm:I U}{O:Sg}
include hT
def WPU.drawn{id:Nat}{a9:Array Oper}(bZ:ML a9.toList=true){rs:I dR}{tm':I U}{O':Sg}(gC:Lm C.prog T a9.toList tm O rs tm' O')(DP:zl T a9.toList rs)(ND:∀(i:Nat)(r:dR),rs[i]? = some r->r.mv=true->r.act=true)(hQ:Q .normal tm' O'):WPU C n0 (.region id a9 true) tm O Q:=fun hn F x tv m w a b0 hx st hG hd ro jI=>by
 apply wpIn_region_any hT.mixed;have eH:∀k,(Array.replicate a9.size false).getD k false=false:=fun k=>by by_cases hk:k<a9.size<;>simp[Array.getD,hk]
 have HG:=bQ.draw (w.drawn+1) st.fits;refine z2e (ro:=ro) hT a9 gC bZ DP (n0:=n0) (F:=F) (x0:=x) (m0:=m) (w0:=w) (df:=a.defers) (fun y cZ m' w' a' h1 h2 h3 h4 h5 h6=>⟨y,tm',cZ,m',h1 ▸ hQ,h2,h3,h4,h5,by rw[h6];exact hd.adv st.fits h3⟩) a9.size (Array.replicate a9.size false) a _ m 0 tm tv x (by simp) (by simp) ?_ (fun e r h1 h2 h3=>by have:=ND e r h1 h3;rw[h2]at this;cases this) ?_ (Nat.zero_le _) ?_ ?_ ?_ ?_ (Ke.refl _ _) (hx ▸ hn) rfl;intro k q hk;rw[eH]at hk;cases hk;have:=k_ (rs:=rs) (tm₀:=tm);exact⟨this.len,fun k r d _ _ _ hL=>(by rw[eH]at hL;cases hL),fun k r d g1 g2 _=>this.no k r d g1 g2 (fun x=>x),this.other⟩;intro e r _ _;rw[eH];simp;rw[gC.s0];exact hx;exact⟨st.h,st.fr,st.e,(bQ.draw _ st.fits).fits,st.act⟩;exact bQ.draw _ st.fits
end
section
variable{K:I U->Sg->Prop}{Q:Exit->I U->Sg->Prop}{tm:I U}{O:Sg}{i j:Nat}
def Vp(h:Q .normal tm O):AS i Q (.exit i) tm O:=by simp[AS,if_true];exact h
def Vo(m7:¬ j=i)(h:Q (.exit j) tm O):AS i Q (.exit j) tm O:=by simp[AS,m7,if_false];exact h
end
variable{C:PG}
variable{T:Tb}
variable{a9:I Oper}
variable{r:I Oper}
variable{o:Oper}
variable{tm:I U}
variable{O:Sg}
variable{f:FuncId}
variable{args:I U}
def RU.call{K:I U->Sg->Prop}{R:U->Sg->Prop}(hw:cM a9 tm o=some true)(hc:kH T tm o.op=some (f,args))(kI:bE C.prog f args O R)
  (h:∀u O',R u O'->RU C T a9 r (dZ tm o.dst u) O' K):RU C T a9 (o::r) tm O K:=.inr (.inl ⟨hw,f,args,R,hc,kI,h⟩)
def WPU.loopG{n0:Nat}{Q:Exit->I U->Sg->Prop}{c:Code}(v08:Nat->I U->Sg->Prop)(n:Nat)(h₀:v08 n tm O)
  (round:∀n tm O,v08 n tm O->WPU C n0 c tm O (EL (fun tm' O'=>∃n' jO c6,n'<n/\v08 n' jO c6/\n0<=c6.nx/\Gh n0 tm' O' jO c6) Q)):WPU C n0 (.loop c) tm O Q:=by
 refine WPU.loop v08 n h₀ fun n tm O hI=>?_;apply WPU.after (round n tm O hI);intro e XP O1 hn h;cases e with
 |normal=>have⟨n',jO,c6,h1,h2,h3,h4⟩:=h;exact⟨jO,c6,h3,h4,n',h1,h2⟩
 |_=>exact⟨XP,O1,hn,Gh.refl _ _ _,h⟩
def Gh.to{n0 n1:Nat}{tm':I U}{O':Sg}(mask:I Bool)(ht:BM mask tm=tm')(hs:(⟨Vx.cut n1 O.h,n1⟩:Sg)=O')(h1:n0<=n1)(h2:n1<=O.nx)(hb:aL n1 tm')(hh:GH n1 O'.h):Gh n0 tm O tm' O':=by subst ht;subst hs;exact(Gh.junk n0 mask tm O).trans (Gh.cut h1 h2 hb hh)
def uL{v11:Type}{n:Nat}(f:v11->I U)(h:∀x,aL n (f x))(l:I v11):mV n (l.map f):=by rw[qyc];intro c hc;obtain⟨x,_,rfl⟩:=List.mem_map.1 hc;exact h x
def RF(P:Program)(T:Tb)(a9 rest:I Oper)(tm:I U)(O:Sg)(fl:I (Bool×Bool))(K:I (Bool×Bool)->I U->Sg->Prop):Prop :=
 RD P T a9 rest tm O (fun rs tm' O'=>K (fl++rs.map fun r=>(r.act,r.mv)) tm' O')
def RF.eq(P:Program)(T:Tb)(a9:I Oper){f g:I dR->I U->Sg->Prop}(h:f=g){rest:I Oper}(hr:RD P T a9 rest tm O f):RD P T a9 rest tm O g:=h ▸ hr
def z7u{K:I (Bool×Bool)->I U->Sg->Prop}(fl:I (Bool×Bool))(r:dR)(a b:Bool)(h1:r.act=a)(h2:r.mv=b):
  (fun(rs:I dR) (tm:I U) (O:Sg)=>K (fl++[(a,b)]++rs.map fun r=>(r.act,r.mv)) tm O)=(fun rs=>(fun(rs:I dR) tm O=>K (fl++rs.map fun r=>(r.act,r.mv)) tm O) (r::rs)):=by subst h1;subst h2;funext rs tm O;simp
variable{u:U}
def RF.call{P:Program}{fl:I (Bool×Bool)}{K:I (Bool×Bool)->I U->Sg->Prop}(hw:cM a9 tm o=some true)(hc:kH T tm o.op=some (f,args))(kI:bE P f args O (fun u' O'=>u'=u/\O'=O))
  (h:RF P T a9 r (dZ tm o.dst u) O (fl++[(true,false)]) K):RF P T a9 (o::r) tm O fl K:=by simp only[RF,RD];exact .inr (.inr (.inl ⟨hw,f,args,u,hc,kI,RF.eq P T a9 (z7u fl _ true false rfl rfl) h⟩))
def RU.pcall{K:I U->Sg->Prop}(hw:cM a9 tm o=some true)(hc:kH T tm o.op=some (f,args))(kI:bE C.prog f args O (fun u' O'=>u'=u/\O'=O))
  (h:RU C T a9 r (dZ tm o.dst u) O K):RU C T a9 (o::r) tm O K:=RU.call hw hc kI (fun u' O' ⟨h1,h2⟩=>by subst h1;subst h2;exact h)
def bE.pure1{P:Program}(h:bE P f args ⟨[],0⟩ (fun u' _=>u'=u/\bC 0 u'))(ha:aL 0 args)(O:Sg):bE P f args O (fun u' O'=>u'=u/\O'=O):=bE.pure h ha O
end Go.Vx
