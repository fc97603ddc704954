import GoSem.ClaimChange
import Derived.Test.YtmflfedkfdkipaaGreatP7
set_option linter.all false
namespace Go.Vx
open Go Go.Rx
mutual
def Rep(W:Tz):U->A->Prop
 |.bool b,v=>v=.bool b|.int k n,v=>v=.int k n
 |.str l,v=>v=.string ⟨⟨l⟩⟩|.isl t l,v=>t=false/\((l=[]/\(v=.slice none 0 0\/∃b off p,v=.slice (some ⟨b,off,some p⟩) 0 0))\/∃b off c,v=.slice (some ⟨b,off,none⟩) l.length c/\c<bP/\l.length<=c/\
   (l=[]\/∃cs e fr sz,W.heap[b]? = some (.cells cs e fr)/\L8 W sz l (cs.toList.drop off)))
 |.agg l,v=>∃vs,v=.agg ⟨vs⟩/\mJ W l vs/\l.length=vs.length/\okL l=true|_,_=>False
def mJ(W:Tz):Z U->Z A->Prop
 |[],_=>True|u::us,vs=>match vs with
  |[]=>False|v::vs=>Rep W u v/\mJ W us vs
def L8(W:Tz)(sz:Nat):Z (Z U)->Z A->Prop
 |[],_=>True|c::cs,vs=>c.length=sz/\okL c=true/\mJ W c vs/\L8 W sz cs (vs.drop sz)
end
def cx(s:S):Cx:=⟨fun _=>none,⟨[],0⟩,s⟩
def Le(s:S):Prop:=∀i b,lk s.h i=some b->Own b=false
structure Grow(m:Nm)(s:S)(m':Nm)(s':S):Prop where
 agree:aJ s.nx m m'
 nx:s.nx<=s'.nx
 rows:∀i b,lk s.h i=some b->lk s'.h i=some b
def Grow.refl(m:Nm)(s:S):Grow m s m s:=⟨aJ.refl _ _,zF _,fun _ _ h=>h⟩
def Grow.trans{m m' m'':Nm}{s s' s'':S}(h:Grow m s m' s')(h':Grow m' s' m'' s''):Grow m s m'' s'':=⟨h.agree.trans h'.agree h.nx,Nat.le_trans h.nx h'.nx,fun i b hb=>h'.rows i b (h.rows i b hb)⟩
variable{m:Nm}
variable{m':Nm}
variable{s:S}
variable{s':S}
def Grow.mo(h:Grow m s m' s'):Mo 0 (cx s) (cx s'):=⟨fun k hk=>by omega,fun i row e hl=>h.rows i _ hl⟩
def Grow.rel(h:Grow m s m' s'){u:U}{v:A}(hr:aB (cx s) u v):aB (cx s') u v:=h.mo.ke u v (aB.bel _ _ hr) hr
def Grow.relE(h:Grow m s m' s'){l:Z U}{vs:Z A}(hr:aX (cx s) l vs):aX (cx s') l vs:=h.mo.ke.E hr.bel hr
def quw(m:Nm)(n:Nat):mU m n [] []:=fun _ _=>by simp[aE]
def qzv{n:Nat}{v cv:A}{vs lX:Z A}(h:eI m n v cv)(h':mU m n vs lX):mU m n (v::vs) (cv::lX):=fun m' ha=>by simp[aE,h m' ha,h' m' ha]
def qip{x:Cx}{sz:Nat}:∀{l:Z (Z U)}{vs:Z A},aX x l.flatten vs->(∀c∈l,c.length=sz/\okL c=true)->gO x sz l vs
 |[],vs,h,hs=>by simp[gO]
 |c::l,vs,h,hs=>by obtain⟨h1,h2⟩:=hs c (by simp);simp only[gO];rw[List.flatten_cons]at h;refine⟨h1,h2,?_,qip (by have:=h.drop sz;rwa [List.drop_append_of_le_length (by omega),List.drop_of_length_le (by omega),List.nil_append]at this) fun d hd=>hs d (by simp[hd])⟩;rw[FZ];intro i u hu;have aH:i<c.length:=(zG.1 hu).1;exact h.get (by rw[List.getElem?_append_left aH];exact hu)
def quy{W:Tz}{sz:Nat}:∀{l:Z (Z U)}{vs:Z A},L8 W sz l vs->∀c∈l,c.length=sz/\okL c=true
 |[],vs,h=>by simp
 |d::l,vs,h=>fun c hc=>by simp only[L8]at h;rcases zI.1 hc with rfl |hc;exact⟨h.1,h.2.1⟩;exact quy h.2.2.2 c hc
def Got(W:Tz)(m:Nm)(s:S)(u:U)(cv:A):Prop:=∃m' s' v,Grow m s m' s'/\fN m' s' W/\Le s'/\(∀i b,lk s'.h i=some b->i<s'.nx)/\eI m' s'.nx v cv/\aB (cx s') u v
def v03(W:Tz)(m:Nm)(s:S)(us:Z U)(lX:Z A):Prop:=∃m' s' vs,Grow m s m' s'/\fN m' s' W/\Le s'/\(∀i b,lk s'.h i=some b->i<s'.nx)/\mU m' s'.nx vs lX/\aX (cx s') us vs
mutual
def VY{W:Tz}:(u:U)->(cv:A)->Rep W u cv->∀m s,fN m s W->Le s->(∀i b,lk s.h i=some b->i<s.nx)->Got W m s u cv
 |.bool b,cv,h,m,s,hf,hn,fU=>by simp only[Rep]at h;subst h;exact⟨m,s,.bool b,Grow.refl _ _,hf,hn,fU,vG fun _=>by simp[ren],by simp[aB]⟩
 |.int k n,cv,h,m,s,hf,hn,fU=>by simp only[Rep]at h;subst h;exact⟨m,s,.int k n,Grow.refl _ _,hf,hn,fU,vG fun _=>by simp[ren],by simp[aB]⟩
 |.str l,cv,h,m,s,hf,hn,fU=>by simp only[Rep]at h;subst h;exact⟨m,s,_,Grow.refl _ _,hf,hn,fU,vG fun _=>by simp[ren],by simp[aB]⟩
 |.agg l,cv,h,m,s,hf,hn,fU=>by simp only[Rep]at h;obtain⟨lX,rfl,h1,h2,h3⟩:=h;obtain⟨m',s',vs,g1,g2,g3,g4,g5,g6⟩:=Yx l lX h1 m s hf hn fU;rw[h2,List.take_length]at g5;exact⟨m',s',.agg ⟨vs⟩,g1,g2,g3,g4,fun m'' ha=>by simp[ren,g5 m'' ha],by simp only[aB];exact⟨vs,rfl,g6.1,g6.2,h3⟩⟩
 |.isl t l,cv,h,m,s,hf,hn,fU=>by
  simp only[Rep]at h;obtain⟨rfl,h⟩:=h;rcases h with⟨rfl,rfl |⟨b,off,p,rfl⟩⟩|⟨b,off,c,rfl,hc,yr,h⟩;exact⟨m,s,.slice none 0 0,Grow.refl _ _,hf,hn,fU,vG fun _=>by simp[ren],by simp[aB]⟩;refine⟨m.set s.nx b off p,⟨s.h,s.nx+1⟩,.chan (some s.nx),⟨Nm.agree_set _ _ _ _ _,Nat.le_succ _,fun _ _ h=>h⟩,(bQ.ghost hf b off p).fits,hn,fun i b hb=>Nat.lt_succ_of_lt (fU i b hb),fun m' ha=>?_,by simp[aB]⟩;obtain⟨q1,q2,q3⟩:=ha s.nx (zN _);simp[ren,q1,q2,q3,Nm.set];by_cases hl:l=[];subst hl;refine⟨m.set s.nx b off 0,⟨s.h,s.nx+1⟩,.slice (some ⟨s.nx,0,none⟩) 0 c,⟨Nm.agree_set _ _ _ _ _,Nat.le_succ _,fun _ _ h=>h⟩,(bQ.ghost hf b off 0).fits,hn,fun i b hb=>Nat.lt_succ_of_lt (fU i b hb),fun m' ha=>?_,?_⟩;obtain⟨q1,q2,_⟩:=ha s.nx (zN _);simp[ren,q1,q2,Nm.set,bU,hc];simp only[aB];exact .inr ⟨s.nx,0,c,rfl,by simp,.inl trivial⟩;rcases h with h |⟨cs,e,fr,sz,hw,hr⟩;exact absurd h hl;obtain⟨m',s',vs,g1,g2,g3,g4,g5,g6⟩:=z01 l _ hr m s hf hn fU;have cC:=quy hr;have gP:∀m'',aJ (s'.nx+1) (m'.set s'.nx b off 0) m''->aJ s'.nx m' m'':=fun m'' ha=>(Nm.agree_set m' s'.nx b off 0).trans ha (Nat.le_succ _)
  have D4:∀m'',aJ (s'.nx+1) (m'.set s'.nx b off 0) m''->m''.blk s'.nx=b/\m''.sh s'.nx=off:=fun m'' ha=>by obtain⟨q1,q2,_⟩:=ha s'.nx (zN _);simp[Nm.set]at q1 q2;exact⟨q1,q2⟩
  refine⟨m'.set s'.nx b off 0,⟨(s'.nx,.inl (vs,0,1))::s'.h,s'.nx+1⟩,.slice (some ⟨s'.nx,0,none⟩) l.length c,g1.trans ⟨Nm.agree_set _ _ _ _ _,Nat.le_succ _,fun i b hb=>?_⟩,fun m'' ha=>⟨fun i d hd=>?_,fun i j d d' hd bB kB ho=>?_,fun i d hd=>?_⟩,fun i d hd=>?_,fun i d hd=>?_,fun m'' ha=>?_,?_⟩;have:=g4 i b hb;simp[lQ,show s'.nx≠i by omega,hb];simp only[lQ]at hd;split at hd;rename_i e;subst e;cases hd;obtain⟨q1,q2⟩:=D4 m'' ha;refine⟨cs,e,fr,by rw[q1];exact hw,fun k v hk=>?_,fun n hn=>absurd hn (by simp)⟩;have:=congrArg (fun z=>z[k]?) (g5 m'' (gP m'' ha));simp only[lD,List.getElem?_map,hk,zM,List.getElem?_take,List.getElem?_drop]at this;split at this;rw[q2];simpa using this.symm;cases this;exact(g2 m'' (gP m'' ha)).ok i d hd;simp only[lQ]at hd bB;split at hd;cases hd;simp[Own]at ho;rw[g3 i d hd]at ho;cases ho;simp only[lQ]at hd;split at hd;show i<s'.nx+1;omega;exact Nat.lt_succ_of_lt (g4 i d hd);simp only[lQ]at hd;split at hd;cases hd;rfl;exact g3 i d hd;simp only[lQ]at hd;split at hd;show i<s'.nx+1;omega;exact Nat.lt_succ_of_lt (g4 i d hd);obtain⟨q1,q2⟩:=D4 m'' ha;simp[ren,q1,q2,bU,hc];have hg:Grow m' s' (m'.set s'.nx b off 0) ⟨(s'.nx,.inl (vs,0,1))::s'.h,s'.nx+1⟩:=⟨Nm.agree_set _ _ _ _ _,Nat.le_succ _,fun i b hb=>by have:=g4 i b hb;simp[lQ,show s'.nx≠i by omega,hb]⟩;simp only[aB];exact .inr ⟨s'.nx,0,c,rfl,by simp,.inr ⟨vs,0,sz,by simp[cx,lQ],qip (hg.relE g6) cC,.inl ⟨hc,yr⟩⟩⟩
 |.junk,cv,h,m,s,hf,hn,fU=>by simp[Rep]at h
 |.nilp,cv,h,m,s,hf,hn,fU=>by simp[Rep]at h
 |.ptr _ _ _,cv,h,m,s,hf,hn,fU=>by simp[Rep]at h
 |.iptr _,cv,h,m,s,hf,hn,fU=>by simp[Rep]at h
 |.nils,cv,h,m,s,hf,hn,fU=>by simp[Rep]at h
 |.sl _ _ _ _,cv,h,m,s,hf,hn,fU=>by simp[Rep]at h
 |.vl _ _ _ _,cv,h,m,s,hf,hn,fU=>by simp[Rep]at h
 |.nilm,cv,h,m,s,hf,hn,fU=>by simp[Rep]at h
 |.map _,cv,h,m,s,hf,hn,fU=>by simp[Rep]at h
 |.fn _ _ _,cv,h,m,s,hf,hn,fU=>by simp[Rep]at h
 |.nilf,cv,h,m,s,hf,hn,fU=>by simp[Rep]at h
 |.nili,cv,h,m,s,hf,hn,fU=>by simp[Rep]at h
 |.tup _,cv,h,m,s,hf,hn,fU=>by simp[Rep]at h
def Yx{W:Tz}:(us:Z U)->(lX:Z A)->mJ W us lX->∀m s,fN m s W->Le s->(∀i b,lk s.h i=some b->i<s.nx)->v03 W m s us (lX.take us.length)
 |[],lX,h,m,s,hf,hn,fU=>⟨m,s,[],Grow.refl _ _,hf,hn,fU,by simpa using quw m s.nx,aX.nil _⟩|u::us,[],h,m,s,hf,hn,fU=>by simp[mJ]at h
 |u::us,cv::lX,h,m,s,hf,hn,fU=>by simp only[mJ]at h;obtain⟨m',s',v,g1,g2,g3,g4,g5,g6⟩:=VY u cv h.1 m s hf hn fU;obtain⟨m'',s'',vs,k1,k2,k3,k4,k5,k6⟩:=Yx us lX h.2 m' s' g2 g3 g4;exact⟨m'',s'',v::vs,g1.trans k1,k2,k3,k4,by simpa using qzv (g5.ext k1.agree k1.nx) k5,aX.cons (k1.rel g6) k6⟩
def z01{W:Tz}{sz:Nat}:(l:Z (Z U))->(lX:Z A)->L8 W sz l lX->∀m s,fN m s W->Le s->(∀i b,lk s.h i=some b->i<s.nx)->v03 W m s l.flatten (lX.take (l.length*sz))
 |[],lX,h,m,s,hf,hn,fU=>⟨m,s,[],Grow.refl _ _,hf,hn,fU,by simpa using quw m s.nx,aX.nil _⟩|c::l,lX,h,m,s,hf,hn,fU=>by
  simp only[L8]at h;obtain⟨m',s',v,g1,g2,g3,g4,g5,g6⟩:=Yx c lX h.2.2.1 m s hf hn fU;obtain⟨m'',s'',vs,k1,k2,k3,k4,k5,k6⟩:=z01 l _ h.2.2.2 m' s' g2 g3 g4;refine⟨m'',s'',v++vs,g1.trans k1,k2,k3,k4,?_,by rw[List.flatten_cons];exact(k1.relE g6).append k6⟩;have e:lX.take ((c::l).length*sz)=lX.take c.length++(lX.drop sz).take (l.length*sz):=by rw[zO,Nat.succ_mul,Nat.add_comm,List.take_add,h.1]
  rw[e];exact(g5.ext k1.agree k1.nx).append k5
end
def law_calls{P:Uz}{f:FuncId}{us:Z U}{W:Tz}{args:Z A}(h:aV P f us ⟨[],0⟩ (fun u _=>u=.bool true))(hr:mJ W us args)(hl:us.length=args.length):
  Calls P f args.toArray W fun e w'=>e=.returned (.bool true)/\RowKit.Below W.heap.size W w':=by have h0:fN ⟨id,id,id⟩ ⟨[],0⟩ W:=fun m' _=>⟨fun i b hb=>by simp[lk]at hb,fun i j b c hb=>by simp[lk]at hb,fun i b hb=>by simp[lk]at hb⟩;obtain⟨m,s,vs,g1,g2,g3,g4,g5,g6⟩:=Yx us args hr ⟨id,id,id⟩ ⟨[],0⟩ h0 (fun i b hb=>by simp[lk]at hb) (fun i b hb=>by simp[lk]at hb);rw[hl,List.take_length]at g5;refine(h (fun _ _=>False) (cx s) vs m W args rfl ⟨fun k b hb=>by simp[cx,gt]at hb,fun k k' b b' i hb=>by simp[cx,gt]at hb,g4⟩ (fun _ _ J=>J.elim) g6 g2 g5).mono ?_;rintro e w' ⟨y,aI,u,v,cv,rfl,rfl,aO,gY,_,_,CT,_,_⟩;simp only[aB]at CT;subst CT;have:=gY.at;simp only[ren]at this;exact⟨by rw[<-this],aO.below fun b ⟨i,c,hc,ho,_⟩=>by rw[g3 i c hc]at ho;cases ho⟩
def OfTy(P:Uz):Nat->O->Z U->Prop
 |0,_,_=>False|n+1,t,us=>match P.underlying t with
  |some .bool=>∃b,us=[.bool b]|some (.int k)=>∃i,us=[.int k i]/\(Lit.int k i).wf=true
  |some .string=>∃s,us=[.str s]/\s.length<=maxLen|some (.slice e)=>∃l,us=[.isl false l]/\l.length<=maxLen/\∀c∈l,OfTy P n e c
  |some (.struct fs)=>us.length=P.cellsOf t/\∀f∈fs.toList,OfTy P n f.type ((us.drop f.offset).take (P.cellsOf f.type))|some (.array k e)=>us.length=P.cellsOf t/\∀i,i<k->OfTy P n e ((us.drop (i*P.cellsOf e)).take (P.cellsOf e))
  |_=>False
end Go.Vx
namespace Go.Vx
open Go Go.Rx
variable{tm:Z U}
variable{tm':Z U}
def ni{l:Z Jp}(h:∀t∈tmpsOf l,tm[t]? = tm'[t]?){x:Jp}(hx:x∈l):bS tm x=bS tm' x:=by cases x with|tmp t=>simp only[bS,i9];exact h t (qw0 hx)|_=>rfl
def Pb{l:Z Jp}(h:∀x∈l,bS tm x=bS tm' x):lP tm l=lP tm' l:=by induction l with|nil=>rfl|cons x l ih=>simp only[lP];rw[h x (by simp),ih fun y hy=>h y (by simp[hy])]
def qid{l:Z (Nat×Jp)}(h:∀x∈l.map (·.2),bS tm x=bS tm' x):wZ tm l=wZ tm' l:=by induction l with|nil=>rfl|cons x l ih=>obtain⟨i,x⟩:=x;simp only[wZ];rw[h x (by simp),ih fun y hy=>h y (by simp only[zQ,zI];exact .inr hy)]
def nv{x:I Jp}(h:∀y,x=some y->bS tm y=bS tm' y):uF tm x=uF tm' x:=by rcases x with _|y;rfl;simp only[uF];rw[h y rfl]
section
variable{T:Tb}{tm tm':Z U}{X:Sg}{op:Op}
def qsm(h:∀x∈op.operands.toList,bS tm x=bS tm' x):gW T X tm op=gW T X tm' op:=by
 cases op<;>simp only[Op.operands]at h<;>try rfl
 case move x=>simp only[gW];exact h x (by simp)
 case assign x=>simp only[gW];exact h x (by simp)
 case pick c a b=>simp only[gW];rw[h c (by simp),h a (by simp),h b (by simp)]
 case build t ps=>simp only[gW];rw[qid (by simpa using h)]
 case nilCheck x=>simp only[gW];rw[h x (by simp)]
 case binOp o t x y ty=>simp only[gW];rw[h x (by simp),h y (by simp)]
 case unOp o t x=>simp only[gW];rw[h x (by simp)]
 case convert a b x=>simp only[gW];rw[h x (by simp)]
 case makeFunc f a b=>simp only[gW];rw[Pb fun x hx=>h x (by simp at hx ⊢;exact .inl hx),Pb fun x hx=>h x (by simp at hx ⊢;exact .inr hx)]
 case slice t x lo hi mx=>simp only[gW];rw[h x (by simp),nv (x:=lo) fun y hy=>h y (by subst hy;simp),nv (x:=hi) fun y hy=>h y (by subst hy;simp),nv (x:=mx) fun y hy=>h y (by subst hy;simp)]
 case fieldAddr t x f=>simp only[gW];rw[h x (by simp)]
 case field t x f=>simp only[gW];rw[h x (by simp)]
 case indexAddr t x i=>simp only[gW];rw[h x (by simp),h i (by simp)]
 case index t x i=>simp only[gW];rw[h x (by simp),h i (by simp)]
 case extract x i=>simp only[gW];rw[h x (by simp)]
 case call c=>simp only[gW];rw[Pb (l:=c.args.toList) fun x hx=>h x (by simp[Call.operands]at hx ⊢;exact .inr hx)]
def qsq(h:∀x∈op.operands.toList,bS tm x=bS tm' x):oY T X tm op=oY T X tm' op:=by
 cases op<;>simp only[Op.operands]at h<;>try rfl
 case load t x=>simp only[oY];rw[h x (by simp)]
 case lookup t x k ok=>simp only[oY];rw[h x (by simp),h k (by simp)]
def qvo(h:∀x∈op.operands.toList,bS tm x=bS tm' x):nS T X tm op=nS T X tm' op:=by
 cases op<;>simp only[Op.operands]at h<;>try rfl
 case box t x=>simp only[nS];rw[h x (by simp)]
 case store t x y=>simp only[nS];rw[h x (by simp),h y (by simp)]
 case buildSlice t n ps=>simp only[nS];rw[qid (by simpa using h)]
 case makeSlice t x y=>simp only[nS];rw[h x (by simp),h y (by simp)]
 case makeMap t r=>cases r<;>rfl
 case mapUpdate t x y z=>simp only[nS];rw[h x (by simp),h y (by simp),h z (by simp)]
 case insert t x y z=>simp only[nS];rw[h x (by simp),h y (by simp),h z (by simp)]
 case mapEntry t x y=>simp only[nS];rw[h x (by simp),h y (by simp)]
 case entryStore t x y z=>simp only[nS];rw[h x (by simp),h y (by simp),h z (by simp)]
 case call c=>simp only[nS];rw[Pb (l:=c.args.toList) fun x hx=>h x (by simp[Call.operands]at hx ⊢;exact .inr hx)]
def nk(h:∀x∈op.operands.toList,bS tm x=bS tm' x):jG T tm op=jG T tm' op:=by
 cases op<;>simp only[Op.operands]at h<;>try rfl
 case call c=>
  simp only[jG];rw[Pb (l:=c.args.toList) fun x hx=>h x (by simp[Call.operands]at hx ⊢;exact .inr hx)];cases hc:c.callee with
  |value f=>simp only[];rw[h f (by simp[Call.operands,hc])]|_=>rfl
def qk(h:∀x∈op.operands.toList,bS tm x=bS tm' x):bF T X tm op=bF T X tm' op:=by unfold bF;rw[qsm h,qsq h,qvo h]
end
def YC{aA:Z Oper}{o:Oper}(h:∀t∈LP aA o,tm[t]? = tm'[t]?):(∀x∈o.op.operands.toList,bS tm x=bS tm' x)/\cA aA tm o=cA aA tm' o:=by
 unfold LP at h;unfold cA;cases hg:o.guard with
 |none=>simp only[hg]at h;exact⟨fun x hx=>ni h hx,rfl⟩|some g=>
  obtain⟨j,want⟩:=g;simp only[hg]at h;cases hd:yE aA j with
  |none=>simp only[hd]at h;exact⟨fun x hx=>ni h hx,by simp only[hd]⟩|some d=>simp only[hd]at h;refine⟨fun x hx=>ni (fun t ht=>h t (by simp[ht])) hx,?_⟩;simp only[hd,i9];rw[h d (by simp)]
variable{K:Nat}
variable{k:Nat}
def fz_vn(h:Nat.beq k K=false)(b:B)(sz st off n:Nat):fz K b sz (.vl k st off n)=.vl k st off n:=by simp[fz,h]
def SM(h:Nat.beq k K=false)(b:B)(sz off n c:Nat):fz K b sz (.sl k off n c)=.sl k off n c:=by simp[fz,h]
def SO(h:Nat.beq k K=false)(b:B)(sz st off:Nat):fz K b sz (.ptr k st off)=.ptr k st off:=by simp[fz,h]
def SN(K:Nat)(l:Z U)(e:O)(sz n:Nat)(h:n*sz<=l.length):fz K (.row l e) sz (.sl K 0 n n)=.isl false (bR sz n l):=by
 have:Nat.beq n n=true:=by simp[beq_eq]
 simp[fz,beq_eq,h]
def Uy(K:Nat)(l:Z U)(e:O)(sz:Nat):fz K (.row l e) sz (.ptr K 0 0)=.iptr l:=by simp[fz,beq_eq]
def LV(K:Nat)(b:B)(sz:Nat)(k:IntKind)(n:Int):fz K b sz (.int k n)=.int k n:=by simp[fz]
def Q6(K:Nat)(b:B)(sz:Nat)(x:BQ):fz K b sz (.bool x)=.bool x:=by simp[fz]
def Ej(K:Nat)(b:B)(sz:Nat)(x:Z O8):fz K b sz (.str x)=.str x:=by simp[fz]
def Ev(K:Nat)(b:B)(sz:Nat):fz K b sz .nils=.nils:=by simp[fz]
def Mh(K:Nat)(b:B)(sz:Nat):fz K b sz .nilp=.nilp:=by simp[fz]
def Mi(K:Nat)(b:B)(sz:Nat):fz K b sz .nilm=.nilm:=by simp[fz]
def Mj(K:Nat)(b:B)(sz:Nat):fz K b sz .nilf=.nilf:=by simp[fz]
def Ew(K:Nat)(b:B)(sz:Nat):fz K b sz .junk=.junk:=by simp[fz]
def LU(K:Nat)(b:B)(sz:Nat)(t:BQ)(l:Z (Z U)):fz K b sz (.isl t l)=.isl t l:=by simp[fz]
def Ln(K:Nat)(b:B)(sz:Nat)(k:Nat):fz K b sz (.map k)=.map k:=by simp[fz]
def Ek(K:Nat)(b:B)(sz:Nat)(l:Z U):fz K b sz (.agg l)=.agg (iX K b sz l):=by simp[fz]
def Ei(K:Nat)(b:B)(sz:Nat)(l:Z U):fz K b sz (.tup l)=.tup (iX K b sz l):=by simp[fz]
def Dt(K:Nat)(b:B)(sz:Nat)(f:Fn)(a c:Z U):fz K b sz (.fn f a c)=.fn f (iX K b sz a) (iX K b sz c):=by simp[fz]
def M8(K:Nat)(b:B)(sz:Nat):iX K b sz []=[]:=by simp[iX]
def G0(K:Nat)(b:B)(sz:Nat)(u:U)(l:Z U):iX K b sz (u::l)=fz K b sz u::iX K b sz l:=by simp[iX]
mutual
def LW{K:Nat}(b:B)(sz:Nat):(u:U)->aP K u->fz K b sz u=u
 |.sl k _ _ _,h=>SM (by simp only[aP]at h;simp[beq_eq];omega) _ _ _ _ _|.vl k _ _ _,h=>fz_vn (by simp only[aP]at h;simp[beq_eq];omega) _ _ _ _ _
 |.ptr k _ _,h=>SO (by simp only[aP]at h;simp[beq_eq];omega) _ _ _ _|.agg l,h=>by simp only[aP]at h;rw[Ek,yH b sz l h]
 |.tup l,h=>by simp only[aP]at h;rw[Ei,yH b sz l h]
 |.fn f a c,h=>by simp only[aP]at h;rw[Dt,yH b sz a h.1,yH b sz c h.2]
 |.int _ _,_=>LV _ _ _ _ _|.bool _,_=>Q6 _ _ _ _
 |.str _,_=>Ej _ _ _ _|.nils,_=>Ev _ _ _
 |.nilp,_=>Mh _ _ _|.nilm,_=>Mi _ _ _
 |.nilf,_=>Mj _ _ _|.nili,_=>by simp[fz]
 |.junk,_=>Ew _ _ _|.isl _ _,_=>LU _ _ _ _ _
 |.iptr _,_=>by simp[fz]
 |.map _,_=>Ln _ _ _ _
def yH{K:Nat}(b:B)(sz:Nat):(l:Z U)->aF K l->iX K b sz l=l
 |[],_=>M8 _ _ _|u::l,h=>by simp only[aF]at h;rw[G0,LW b sz u h.1,yH b sz l h.2]
end
variable{x:Cx}
def mQ.belB{b:B}(h:mQ x k b):BelB x.X.nx b:=by
 cases b with
 |row l e=>obtain⟨_,_,_,_,_,e3⟩:=h;exact e3.bel
 |vec l e sz st=>obtain⟨_,_,h3⟩:=h;rcases h3 with⟨rfl,_⟩|⟨_,_,_,_,e3⟩;simp[BelB,aF];exact e3.bel
 |map es cl=>obtain⟨_,es',_,_,e3⟩:=h;intro e he;obtain⟨j,hj,rfl⟩:=List.getElem_of_mem he;obtain⟨v,_,q2,q3,_⟩:=e3.2 j _ (List.getElem?_eq_getElem hj);exact⟨aB.bel _ _ q2,aB.bel _ _ q3⟩
variable{n0:Nat}
variable{X:Sg}
def Gh.same(h':Z (Nat×B))(hg:∀k,gt h' k=gt X.h k):Gh n0 tm X tm ⟨h',X.nx⟩:=fun F x tv hx hr hf he=>by
 subst hx;have eY:Mo x.X.nx x ⟨x.Y,⟨h',x.X.nx⟩,x.s⟩:=⟨fun k _ h2=>⟨h2,fun b hb=>⟨b,by rw[<-hg];exact hb,zF _,fun _=>⟨rfl,fun l e sz st h=>⟨l,h⟩⟩⟩⟩,fun _ _ _ h=>h⟩;refine⟨⟨x.Y,⟨h',x.X.nx⟩,x.s⟩,fun m w hf=>bQ.refl hf,rfl,⟨fun k b hb=>?_,fun k k' b b' i hb bV=>?_,hr.bd⟩,fun i b J=>?_,eY.ke.E he.bel he,fun u v hb hr=>eY.ke u v (aB.bel u v hr) hr⟩;have bV:gt x.X.h k=some b:=by rw[<-hg];exact hb
 obtain⟨h1,h2⟩:=hr.ok k b bV;exact⟨h1,h2.mono eY rfl fun _ _ _ h=>h⟩;exact hr.inj k k' b b' i (by rw[<-hg];exact hb) (by rw[<-hg];exact bV);obtain⟨h1,h2⟩:=hf i b J;exact⟨h1,fun k c hc=>h2 k c (by rw[<-hg];exact hc)⟩
variable{T:Tb}
variable{op:Op}
def qxb{q:FuncId×Z U}(h:jG T tm op=some q):bF T X tm op=none:=by
 cases op with
 |call c=>
  simp only[jG]at h;cases hc:c.callee with
  |value f=>simp[bF,gW,oY,nS,hc]|_=>simp[hc]at h
 |_=>simp[jG]at h
def Gh.cutG{n1:Nat}(h1:n0<=n1)(h2:n1<=X.nx)(hb:aF n1 tm)(hh:∀k b,gt (Vx.cut n1 X.h) k=some b->BelB n1 b):Gh n0 tm X tm ⟨Vx.cut n1 X.h,n1⟩:=fun F x tv hx hr hf he=>by
 subst hx;have eY:Mo n1 x ⟨x.Y,⟨Vx.cut n1 x.X.h,n1⟩,x.s⟩:=by refine⟨fun k hk _=>⟨hk,fun b hb=>?_⟩,fun _ _ _ h=>h⟩;simp only[Eh,hk,if_true]at hb;exact⟨b,hb,zF _,fun _=>⟨rfl,fun l e sz st h=>⟨l,h⟩⟩⟩
 have sub:∀{k b},gt (Vx.cut n1 x.X.h) k=some b->k<n1/\gt x.X.h k=some b:=fun{k b} hg=>by simp only[Eh]at hg;split at hg;exact⟨by assumption,hg⟩;cases hg
 refine⟨⟨x.Y,⟨Vx.cut n1 x.X.h,n1⟩,x.s⟩,fun m w hf=>bQ.refl hf,rfl,⟨fun k b hg=>?_,fun k k' b b' i g1 g2=>hr.inj k k' b b' i (sub g1).2 (sub g2).2,hr.bd⟩,fun i b J=>?_,eY.ke.E hb he,eY.ke.le h1⟩;exact⟨(sub hg).1,(hr.ok k b (sub hg).2).2.monoB (hh k b hg) eY rfl fun _ _ _ h=>h⟩;exact⟨(hf i b J).1,fun k c hc=>(hf i b J).2 k c (sub hc).2⟩
def qm0{k:Nat}(sz:Nat):∀(n:Nat)(l:Z U),aF k l->jO k (bR sz n l)
 |0,l,_=>by simp[bR,jO]
 |n+1,l,h=>by simp only[bR,jO];exact⟨(AI k _).2 fun u hu=>(AI k _).1 h u (List.mem_of_mem_take hu),qm0 sz n _ ((AI k _).2 fun u hu=>(AI k _).1 h u (List.mem_of_mem_drop hu))⟩
def sK(P:Uz)(T:Tb)(tm:Z U)(op:Op)(u:U):Prop :=
 (∃f args,jG T tm op=some (f,args)/\∀s,aV P f args s (fun u' X=>u'=u/\X=s))\/ (∃n sz cs e,(∀X,bF T X tm op=some (.sl X.nx 0 n n,newU X (.row cs e)))/\n*sz<=cs.length/\(∀m,(∀x∈op.operands.toList,∀u',bS tm x=some u'->aP m u')->aF m cs)/\u=.isl false (bR sz n cs))
def Gh.quiet{n sz:Nat}{cs:Z U}{e:O}{d:I Tmp}(h0:n0<=X.nx)(hb:aF X.nx tm)(hs:∀k b,gt X.h k=some b->k<X.nx/\BelB X.nx b)(hl:n*sz<=cs.length)(D1:aF X.nx cs):Gh n0 (dX tm d (.sl X.nx 0 n n)) (newU X (.row cs e)) (dX tm d (.isl false (bR sz n cs))) X:=by
 have e0:gt (newU X (.row cs e)).h X.nx=some (.row cs e):=by simp[newU,aQ]
 have et:iX X.nx (.row cs e) sz (dX tm d (.sl X.nx 0 n n))=dX tm d (.isl false (bR sz n cs)):=by
  rcases d with _|t;simp only[dX];exact yH _ _ _ hb;simp only[dX];have key:∀(l:Z U)(t:Nat),aF X.nx l->iX X.nx (.row cs e) sz (l.set t (.sl X.nx 0 n n))=l.set t (.isl false (bR sz n cs)):=by
   intro l;induction l with
   |nil=>intro t _;simp[iX]|cons u l ih=>
    intro t h;simp only[aF]at h;cases t with
    |zero=>simp only[List.set_cons_zero,G0,yH _ _ l h.2,SN X.nx cs e sz n hl]|succ t=>simp only[List.set_cons_succ,G0,LW _ _ u h.1,ih t h.2]
  exact key tm t hb
 have lf:aF X.nx (dX tm d (.isl false (bR sz n cs))):=by
  rcases d with _|t;simpa only[dX]using hb;simp only[dX];have key:∀(l:Z U)(t:Nat),aF X.nx l->aF X.nx (l.set t (.isl false (bR sz n cs))):=by
   intro l;induction l with
   |nil=>intro t _;simp[aF]|cons u l ih=>
    intro t h;simp only[aF]at h;cases t with
    |zero=>simp only[List.set_cons_zero,aF];exact⟨by simp only[aP];exact qm0 sz n cs D1,h.2⟩|succ t=>simp only[List.set_cons_succ,aF];exact⟨h.1,ih t h.2⟩
  exact key tm t hb
 have eg:∀k,gt (Vx.cut X.nx (fzH X.nx (.row cs e) sz (newU X (.row cs e)).h)) k=gt X.h k:=fun k=>by
  rw[Eh];by_cases hk:k<X.nx;rw[if_pos hk,FX,if_neg (by omega)];have:gt (newU X (.row cs e)).h k=gt X.h k:=by simp only[newU,aQ];rw[if_neg (by omega)]
  rw[this];rcases hg:gt X.h k with _|b;rfl;have hb:=(hs k b hg).2;simp only[zM,zA];cases b with
  |row l e=>simp only[fzB];rw[yH _ _ _ hb]|vec l e s st=>simp only[fzB];rw[yH _ _ _ hb]
  |map es cl=>
   simp only[fzB];congr 1;have:∀q∈es,({ q with val:=fz X.nx (.row cs e) sz q.val }:_)=q:=fun q hq=>by rw[LW _ _ _ (hb q hq).2]
   exact(List.map_congr_left this).trans (List.map_id _)
  rw[if_neg hk];rcases hg:gt X.h k with _|b;rfl;exact absurd (hs k b hg).1 hk
 refine(Gh.freeze (n0:=n0) sz e0 (by simp)).trans ?_;rw[et];refine(Gh.cutG (n0:=n0) (n1:=X.nx) h0 (by simp[newU]) lf ?_).trans ?_;intro k b hg;rw[eg]at hg;exact(hs k b hg).2;exact Gh.same (X:=⟨Vx.cut X.nx (fzH X.nx (.row cs e) sz (newU X (.row cs e)).h),X.nx⟩) X.h fun k=>(eg k).symm
variable{P:Uz}
variable{u:U}
def sK.noop(h:sK P T tm op u)(X:Sg):bF T X tm op≠some (u,X):=fun hc=>by
 rcases h with⟨f,args,h,_⟩|⟨n,sz,cs,e,h,_⟩;rw[qxb h]at hc;cases hc;rw[h X]at hc;simp only[zA,zB]at hc;have:=congrArg Sg.nx hc.2;simp only[newU]at this;omega
def sK.congr(h:∀x∈op.operands.toList,bS tm x=bS tm' x)(hf:sK P T tm' op u):sK P T tm op u:=by rcases hf with⟨f,args,h1,h2⟩|⟨n,sz,cs,e,h1,h2,h3,h4⟩;exact .inl ⟨f,args,(nk h).trans h1,h2⟩;exact .inr ⟨n,sz,cs,e,fun X=>(qk h).trans (h1 X),h2,fun m hm=>h3 m fun x hx u' hu=>hm x hx u' ((h x hx).trans hu),h4⟩
def sK.nd(h:sK P T tm op u):∀c,op≠.defer c:=by rcases h with⟨f,args,h1,_⟩|⟨n,sz,cs,e,h1,_⟩;exact qb h1;exact PZ (h1 ⟨[],0⟩)
variable{F:Nat->lJ->Prop}
def St.free(hT:iK P T){tv:Z A}{m:Nm}{w:Tz}{a:Act}(st:St F x tm tv m w a)(o:Oper)(h:sK P T tm o.op u){next:Act->Tz->Prop}{Q:Exit->Act->Tz->Prop}
  (hn:∀y dB aI w₁ b7,y.X=x.X->St F y (dX tm o.dst u) dB aI w₁ b7->bQ m x.s w aI y.s w₁->Ke x.X.nx x y->x.X.nx<=y.X.nx->b7.defers=a.defers->next b7 w₁):o.wp P a w next Q:=by
 rcases h with⟨f,args,h1,h2⟩|⟨n,sz,cs,e,h1,h2,h3,rfl⟩;refine st.call hT o h1 (h2 x.X) fun y u' dB aI w₁ b7 hR bG cR eF mB gQ=>?_
 obtain⟨rfl,Ur⟩:=hR;exact hn y dB aI w₁ b7 Ur bG cR eF mB gQ;refine st.op hT o (h1 x.X) fun y dB aI w₁ b7 e1 bG cR eF mB gQ=>?_;obtain⟨z,g1,g2,g3,g4,g5,g6⟩:=Gh.quiet (n0:=x.X.nx) (X:=x.X) (d:=o.dst) (e:=e) (zF _) st.e.bel (fun k b hg=>⟨(st.h.ok k b hg).1,(st.h.ok k b hg).2.belB⟩) h2 (h3 _ fun xo _ u' hu=>by obtain⟨v,_,hr⟩:=fI st.e hu;exact aB.bel u' v hr) F y dB e1 bG.h bG.fr bG.e;have fB:=g1 aI w₁ bG.fits;exact hn z dB aI w₁ b7 g2 ⟨g3,g4,g5,fB.fits,bG.act.ext fB.agree fB.nx⟩ (cR.trans fB) (eF.trans g6) (by rw[g2];exact zF _) gQ
def St.opfz(hT:iK P T){tv:Z A}{m:Nm}{w:Tz}{a:Act}(st:St F x tm tv m w a)(o:Oper){u1:U}{s1 s':Sg}{d:Nat}(pF:bF T x.X tm o.op=some (u1,s1))(hd:o.dst=some d)(HH:d<tm.length)
  (hg:Gh s1.nx [u1] s1 [u] s') (hn:s1.nx<=s'.nx) {next:Act->Tz->Prop} {Q:Exit->Act->Tz->Prop}
  (hk:∀y dB aI w₁ b7,y.X=s'->St F y (dX tm o.dst u) dB aI w₁ b7->bQ m x.s w aI y.s w₁->Ke x.X.nx x y->x.X.nx<=y.X.nx->b7.defers=a.defers->next b7 w₁):o.wp P a w next Q:=by
 refine st.op hT o pF fun y dB aI w₁ b7 e1 bG cR eF mB gQ=>?_;have he:=bG.e;rw[hd]at he hk;simp only[dX]at he hk;obtain⟨v1,hv1,hr1⟩:=he.get (List.getElem?_set_self (by simpa using HH));obtain⟨z,g1,g2,g3,g4,g5,g6⟩:=hg F y [v1] e1 bG.h bG.fr (aX.cons hr1 (aX.nil y));have fB:=g1 aI w₁ bG.fits;obtain⟨v1',_,x_,hr2,_⟩:=g5.inv;cases x_;have hez:aX z (tm.set d u) dB:=by refine⟨(FZ z _ _).2 fun i u' NG=>?_,by have:=he.2;simpa using this⟩;by_cases hi:d=i;subst hi;rw[List.getElem?_set_self (by simpa using HH)]at NG;cases NG;exact⟨v1,hv1,hr2⟩;rw[List.getElem?_set_ne hi]at NG;obtain⟨v,hv,hr⟩:=he.get (i:=i) (u:=u') (by rw[List.getElem?_set_ne hi];exact NG);refine⟨v,hv,g6 u' v ?_ hr⟩;have hb:=(AI y.X.nx _).1 he.bel u' (by rw[List.mem_iff_getElem?];exact⟨i,by rw[List.getElem?_set_ne hi];exact NG⟩);rw[e1]at hb;exact hb
 exact hk z dB aI w₁ b7 g2 ⟨g3,g4,hez,fB.fits,bG.act.ext fB.agree fB.nx⟩ (cR.trans fB) (eF.trans (g6.le (by rw[<-e1];exact mB))) (by rw[g2];rw[e1]at mB;omega) gQ
structure dZ where
 tm:Z U
 o:Oper
 u:U
 act:BQ
 mv:BQ
 s:Sg
 s':Sg
def Good(P:Uz)(T:Tb)(aA:Z Oper)(r:dZ):Prop :=
 (cA aA r.tm r.o=some false/\r.u=.tup []/\r.act=false/\r.s'=r.s)\/ (cA aA r.tm r.o=some true/\bF T r.s r.tm r.o.op=some (r.u,r.s')/\(r.act=false->r.s'=r.s))\/ (cA aA r.tm r.o=some true/\r.act=true/\∃f args,jG T r.tm r.o.op=some (f,args)/\aV P f args r.s (fun u X=>u=r.u/\X=r.s'))\/ (cA aA r.tm r.o=some true/\r.act=false/\r.s'=r.s/\sK P T r.tm r.o.op r.u)\/ (r.act=false/\r.mv=true/\r.s'=r.s)\/ (cA aA r.tm r.o=some true/\r.act=true/\∃u1 s1 d,bF T r.s r.tm r.o.op=some (u1,s1)/\r.o.dst=some d/\d<r.tm.length/\Gh s1.nx [u1] s1 [r.u] r.s'/\s1.nx<=r.s'.nx)
variable{r:dZ}
def Good.quiet{aA:Z Oper}(h:Good P T aA r)(ha:r.act=false):r.s'=r.s:=by rcases h with⟨_,_,_,h⟩|⟨_,_,h⟩|⟨_,h,_⟩|⟨_,_,h,_⟩|⟨_,_,h⟩|⟨_,h,_⟩;exact h;exact h ha;rw[ha]at h;cases h;exact h;exact h;rw[ha]at h;cases h
def j8(rs:Z dZ)(X':Sg)(p:Nat):Sg:=match rs[p]? with
 |some r=>r.s|none=>X'
def uX(rs:Z dZ)(tm':Z U)(p:Nat):Z U:=match rs[p]? with
 |some r=>r.tm|none=>tm'
structure mf(P:Uz)(T:Tb)(aA:Z Oper)(tm₀:Z U)(EQ:Sg)(rs:Z dZ)(tm':Z U)(X':Sg):Prop where
 len:rs.length=aA.length
 s0:j8 rs X' 0=EQ
 t0:uX rs tm' 0=tm₀
 all:∀(i:Nat)(r:dZ),rs[i]? = some r->aA[i]? = some r.o/\Good P T aA r/\j8 rs X' (i+1)=r.s'/\uX rs tm' (i+1)=dX r.tm r.o.dst r.u
structure ChU(T:Tb)(aA:Z Oper)(rs:Z dZ):Prop where
 acts:∀(i k:Nat)(r q:dZ),rs[i]? = some r->rs[k]? = some q->r.act=true->q.act=true->k<i->Pre aA i k
 lo:∀(i k:Nat)(r q:dZ),rs[i]? = some r->rs[k]? = some q->r.act=false->cA aA r.tm r.o=some true->bF T r.s r.tm r.o.op=some (r.u,r.s')->q.act=true->k<i->Pre aA i k\/q.s=r.s\/bF T q.s r.tm r.o.op=some (r.u,q.s)
 hi:∀(i k:Nat)(r q:dZ),rs[i]? = some r->rs[k]? = some q->r.act=false->cA aA r.tm r.o=some true->bF T r.s r.tm r.o.op=some (r.u,r.s')->q.act=true->i<k->Pre aA k i\/q.s'=r.s\/bF T q.s' r.tm r.o.op=some (r.u,q.s')
structure LO(tm₀:Z U)(rs:Z dZ)(L:Nat->Prop)(tm:Z U):Prop where
 len:tm.length=tm₀.length
 yes:∀(k:Nat)(r:dZ)(d:Nat),rs[k]? = some r->r.o.dst=some d->d<tm₀.length->L k->tm[d]? = some r.u
 no:∀(k:Nat)(r:dZ)(d:Nat),rs[k]? = some r->r.o.dst=some d->¬ L k->tm[d]? = tm₀[d]?
 other:∀(t:Nat),(∀(k:Nat)(r:dZ),rs[k]? = some r->r.o.dst≠some t)->tm[t]? = tm₀[t]?
section
variable{P:Uz}{T:Tb}(hT:iK P T)(aA:Bo Oper){tm₀:Z U}{EQ:Sg}{rs:Z dZ}{tm':Z U}{X':Sg}
 (iQ:mf P T aA.toList tm₀ EQ rs tm' X') (c9:WY aA.toList=true)
include iQ c9
omit c9 in
def VW{i:Nat}{o:Oper}(ho:aA.toList[i]? = some o):∃r,rs[i]? = some r/\r.o=o:=by
 have hi:i<rs.length:=by rw[iQ.len];exact(zG.1 ho).1
 have hr:rs[i]? = some rs[i]:=by simp[hi]
 refine⟨_,hr,?_⟩;have:=(iQ.all i _ hr).1;rw[ho]at this;exact(Option.some.inj this).symm
variable{i:Nat}
def qti{q:dZ}(hr:rs[i]? = some r)(hq:rs[k]? = some q)(NR:i≠k){d:Tmp}(hd:q.o.dst=some d):r.o.dst≠some d :=
 (z0h c9 (iQ.all i r hr).1 (iQ.all k q hq).1 NR hd).1
def qqv{L:Nat->Prop}(h:LO tm₀ rs L tm)(hr:rs[i]? = some r):LO tm₀ rs (fun k=>L k\/k=i) (dX tm r.o.dst r.u):=by
 cases hd:r.o.dst with
 |none=>simp only[dX];refine⟨h.len,fun k q d hq CV aH hL=>?_,fun k q d hq CV hL=>h.no k q d hq CV fun x=>hL (.inl x),h.other⟩;rcases hL with hL |rfl;exact h.yes k q d hq CV aH hL;rw[hr]at hq;cases hq;rw[hd]at CV;cases CV
 |some Bt=>
  simp only[dX];refine⟨by simp[h.len],fun k q d hq CV aH hL=>?_,fun k q d hq CV hL=>?_,fun t ht=>?_⟩;by_cases Tm:k=i;subst Tm;rw[hr]at hq;cases hq;rw[hd]at CV;cases CV;rw[List.getElem?_set_self (by rw[h.len];exact aH)];have cT:Bt≠d:=fun e=>by have:=qti aA iQ c9 hr hq (fun x=>Tm x.symm) CV;exact this (by rw[hd,e])
  rw[List.getElem?_set_ne cT];rcases hL with hL |hL;exact h.yes k q d hq CV aH hL;exact absurd hL Tm;have Tm:k≠i:=fun e=>hL (.inr e)
  have cT:Bt≠d:=fun e=>by have:=qti aA iQ c9 hr hq (fun x=>Tm x.symm) CV;exact this (by rw[hd,e])
  rw[List.getElem?_set_ne cT];exact h.no k q d hq CV fun x=>hL (.inl x);have cT:Bt≠t:=fun e=>ht i r hr (by rw[hd,e]);rw[List.getElem?_set_ne cT];exact h.other t ht
omit iQ c9 in
def qmp:LO tm₀ rs (fun _=>False) tm₀:=⟨rfl,fun _ _ _ _ _ _ h=>h.elim,fun _ _ _ _ _ _=>rfl,fun _ _=>rfl⟩
def aq(p:Nat)(hp:p<=rs.length):LO tm₀ rs (fun k=>k<p) (uX rs tm' p):=by
 induction p with
 |zero=>rw[iQ.t0];have:=qmp (rs:=rs) (tm₀:=tm₀);refine⟨this.len,fun k r d _ _ _ hL=>by omega,fun k r d h1 h2 _=>this.no k r d h1 h2 (fun x=>x),this.other⟩|succ p ih=>
  have hr:rs[p]? = some rs[p]:=by simp[show p<rs.length by omega]
  have h5:=(iQ.all p _ hr).2.2.2;have vn:=ih (by omega);have e1:uX rs tm' p=rs[p].tm:=by simp[uX,hr]
  rw[e1]at vn;have:=qqv aA iQ c9 vn hr;rw[h5];refine⟨this.len,fun k q d a b c hL=>this.yes k q d a b c (by omega),fun k q d a b hL=>this.no k q d a b (by omega),this.other⟩
omit iQ c9 in
def qwc{L:Nat->Prop}{a b:Z U}(ha:LO tm₀ rs L a)(hb:LO tm₀ rs L b):a=b:=by
 apply List.ext_getElem?;intro t;by_cases ht:∀(k:Nat)(r:dZ),rs[k]? = some r->r.o.dst≠some t;rw[ha.other t ht,hb.other t ht];have:∃(k:Nat)(r:dZ),rs[k]? = some r/\r.o.dst=some t:=by apply Classical.byContradiction;intro hn;exact ht fun k r hr hd=>hn ⟨k,r,hr,hd⟩
 obtain⟨k,r,hr,hd⟩:=this;by_cases hL:L k;by_cases aH:t<tm₀.length;rw[ha.yes k r t hr hd aH hL,hb.yes k r t hr hd aH hL];rw[List.getElem?_eq_none (by rw[ha.len];omega),List.getElem?_eq_none (by rw[hb.len];omega)];rw[ha.no k r t hr hd hL,hb.no k r t hr hd hL]
def qsw{L:Nat->Prop}(hL:Closed aA.toList L)(h:LO tm₀ rs L tm)(hr:rs[i]? = some r)(hi:¬ L i)
  (qZ:∀o,aA.toList[i]? = some o->∀e∈o.after.toList,Region.binds .any e=true->L e.on):∀t∈LP aA.toList r.o,tm[t]? = r.tm[t]?:=by
 have lV:i<rs.length:=(zG.1 hr).1;have D4:=aq aA iQ c9 i (Nat.le_of_lt lV);have e1:uX rs tm' i=r.tm:=by simp[uX,hr]
 rw[e1]at D4;intro(t:Nat) ht;by_cases fF:∀(k:Nat)(q:dZ),rs[k]? = some q->q.o.dst≠some t;rw[h.other t fF,D4.other t fF];have:∃(k:Nat)(q:dZ),rs[k]? = some q/\q.o.dst=some t:=by apply Classical.byContradiction;intro hn;exact fF fun k r hr hd=>hn ⟨k,r,hr,hd⟩
 obtain⟨k,q,hq,hd⟩:=this;have ho:=(iQ.all i r hr).1;have hk:=(iQ.all k q hq).1;by_cases NR:i=k;subst NR;rw[h.no i q t hq hd hi,D4.no i q t hq hd (by omega)];rcases(z0h c9 ho hk NR hd).2 ht with hp |hp;have hLk:=qi c9 hL qZ hp;have aH:=z5x c9 i k hp;by_cases eQ:t<tm₀.length;rw[h.yes k q t hq hd eQ hLk,D4.yes k q t hq hd eQ aH];rw[List.getElem?_eq_none (by rw[h.len];omega),List.getElem?_eq_none (by rw[D4.len];omega)];have hnk:¬ L k:=fun x=>hi (iu c9 hL k i x hp)
 have aH:=z5x c9 k i hp;rw[h.no k q t hq hd hnk,D4.no k q t hq hd (by omega)]
omit c9 in
def Fe{p q:Nat}(rR:p<=q)(hq:q<=rs.length)(fF : ∀(e:Nat)(r:dZ),p<=e->e<q->rs[e]? = some r->r.act=false): j8 rs X' p=j8 rs X' q:=by
  induction q with
  | zero => have : p = 0 := by omega
            rw[this]
  |succ q ih=>
    rcases Nat.lt_or_ge q p with h |h;have:p=q+1:=by omega
    rw[this];rw[ih h (by omega) fun e r h1 h2 h3=> fF e r h1 (by omega) h3];have hr:rs[q]? = some rs[q]:=by simp[show q<rs.length by omega]
    obtain⟨_,g2,g3,_⟩:=iQ.all q _ hr;rw[g3,g2.quiet (fF q _ h (zN _) hr)];simp[j8,hr]
omit iQ c9 in
def z7e{i p:Nat}(h:∃(e:Nat)(q:dZ),i<e/\e<p/\rs[e]? = some q/\q.act=true):∃(e:Nat)(q:dZ),i<e/\e<p/\rs[e]? = some q/\q.act=true/\∀(e':Nat)(q':dZ),e<e'->e'<p->rs[e']? = some q'->q'.act=false:=by
 obtain⟨e,q,g1,g2,g3,g5⟩:=h;have:∀(n e:Nat)(q:dZ),p-e=n->i<e->e<p->rs[e]? = some q->q.act=true->∃(e:Nat)(q:dZ),i<e/\e<p/\rs[e]? = some q/\q.act=true/\∀(e':Nat)(q':dZ),e<e'->e'<p->rs[e']? = some q'->q'.act=false:=by
  intro n;induction n using Nat.strongRecOn with
  |_ n ihn=>intro e q cT g1 g2 g3 g5;by_cases vW:∃(e':Nat)(q':dZ),e<e'/\e'<p/\rs[e']? = some q'/\q'.act=true;obtain⟨e',q',k1,k2,k3,k4⟩:=vW;exact ihn (p-e') (by omega) e' q' rfl (by omega) k2 k3 k4;exact⟨e,q,g1,g2,g3,g5,fun e' q' k1 k2 k3=>by cases hb:q'.act with |false=>rfl |true=>exact absurd ⟨e',q',k1,k2,k3,hb⟩ vW⟩
 exact this _ e q rfl g1 g2 g3 g5
omit iQ c9 in
def z2s{i p:Nat}(h:∃(e:Nat)(q:dZ),p<=e/\e<i/\rs[e]? = some q/\q.act=true):∃(e:Nat)(q:dZ),p<=e/\e<i/\rs[e]? = some q/\q.act=true/\∀(e':Nat)(q':dZ),p<=e'->e'<e->rs[e']? = some q'->q'.act=false:=by
 obtain⟨e,q,g1,g2,g3,g5⟩:=h;have:∀(e:Nat)(q:dZ),p<=e->e<i->rs[e]? = some q->q.act=true->∃(e:Nat)(q:dZ),p<=e/\e<i/\rs[e]? = some q/\q.act=true/\∀(e':Nat)(q':dZ),p<=e'->e'<e->rs[e']? = some q'->q'.act=false:=by
  intro e;induction e using Nat.strongRecOn with
  |_ e ihn=>intro q g1 g2 g3 g5;by_cases vW:∃(e':Nat)(q':dZ),p<=e'/\e'<e/\rs[e']? = some q'/\q'.act=true;obtain⟨e',q',k1,k2,k3,k4⟩:=vW;exact ihn e' k2 q' k1 (by omega) k3 k4;exact⟨e,q,g1,g2,g3,g5,fun e' q' k1 k2 k3=>by cases hb:q'.act with |false=>rfl |true=>exact absurd ⟨e',q',k1,k2,k3,hb⟩ vW⟩
 exact this e q g1 g2 g3 g5
variable(O3:ChU T aA.toList rs)
include hT O3
def z6g{ro:I Nat}{x0:Cx}{m0:Nm}{w0:Tz}{E:Exit->Act->Tz->Prop}{df:Z Deferred}(hQ:∀y tv m w a,y.X=X'->St F y tm' tv m w a->bQ m0 x0.s w0 m y.s w->Ke n0 x0 y->n0<=y.X.nx->a.defers=df->E .normal a w):
  ∀(fuel:Nat)(bA:Bo BQ)(a:Act)(w:Tz)(m:Nm)(p:Nat)(tm:Z U)(tv:Z A)(x:Cx),bA.size=aA.size->bA.toList.count false=fuel->
   Closed aA.toList (fun k=>bA.getD k false=true)->(∀(e:Nat)(r:dZ),rs[e]? = some r->r.act=false->r.mv=true->bA.getD e false=true)->LO tm₀ rs (fun k=>bA.getD k false=true) tm->p<=rs.length-> (∀(e:Nat)(r:dZ),rs[e]? = some r->r.act=true->(bA.getD e false=true↔e<p))->x.X=j8 rs X' p->St F x tm tv m w a->bQ m0 x0.s w0 m x.s w->Ke n0 x0 x->n0<=x.X.nx->a.defers=df->
   wpAnyIn (y7 ro) 0 P .any aA E fuel bA a w:=by
 have hn:rs.length=aA.size:=by simpa using iQ.len
 intro fuel;induction fuel with
 |zero=>
  intro bA a w m p tm tv x eA Ui iF R_ qB hp oG eW m7 aO fT iE lA;have cC:∀k,k<aA.size->bA.getD k false=true:=fun k hk=>by
   have oR:k<bA.size:=by omega
   have:bA[k]≠false:=fun hf=>by
    have hm:false∈bA.toList:=by rw[<-hf];simp
    have:=List.count_pos_iff.2 hm;omega
   have this':bA[k]=true:=by simpa using this
   simp[Array.getD,oR,this']
  have ZJ:Region.ready .any aA bA=[]:=by
   apply List.filter_eq_nil_iff.2;intro k hk;simp only[List.mem_range]at hk;have oR:k<bA.size:=by omega
   have:=cC k hk;simp[Array.getD,oR]at this;simp[Array.getD,oR,this]
  refine⟨ZJ,?_⟩;have es:j8 rs X' p=X':=by rw[Fe aA iQ hp (zF _) fun e r h1 h2 h3=>by rcases hb:r.act with _|_;rfl;have:=(oG e r h3 hb).1 (cC e (by omega));omega];simp[j8]
  have et:tm=tm':=by
   have h1:=aq aA iQ c9 rs.length (zF _);have e1:uX rs tm' rs.length=tm':=by simp[uX]
   rw[e1]at h1;refine qwc (L:=fun k=>k<rs.length) ⟨qB.len,fun k r d g1 g2 g3 g4=>qB.yes k r d g1 g2 g3 (cC k (by omega)),fun k r d g1 g2 g3=>?_,qB.other⟩ h1;have:=(zG.1 g1).1;exact absurd this g3
  rw[et]at m7;exact hQ x tv m w a (eW.trans es) m7 aO fT iE lA
 |succ fuel ih=>
  intro bA a w m p tm tv x eA Ui iF R_ qB hp oG eW m7 aO fT iE lA;have mem_ready:∀i,i∈Region.ready .any aA bA↔i<aA.size/\bA.getD i true=false/\∃o,aA[i]? = some o/\∀e∈o.after.toList,Region.binds .any e=true->bA.getD e.on false=true:=by
   intro i;unfold Region.ready;rw[List.mem_filter,List.mem_range];refine and_congr_right fun hi=>?_;have ho:aA[i]? = some aA[i]:=by simp[hi]
   simp only[ho,zM,Option.getD_some,Bool.and_eq_true,Bool.not_eq_true',Array.all_eq_true_iff_forall_mem,Bool.or_eq_true];refine and_congr_right fun _=>?_;constructor;intro h;refine⟨_,rfl,fun e he hb=>?_⟩;rcases h e (by simpa using he)with h1 |h1
   simp[hb]at h1;exact h1;rintro⟨o,ym,h⟩ e he;cases ym;rcases hb:Region.binds .any e with _|_;exact .inl rfl;exact .inr (h e (by simpa using he) hb)
  refine⟨fun ZR=>?_,fun i hi=>?_⟩;exfalso;have qJ:∃i,i<aA.size/\bA.getD i true=false:=by
   have eX:0<bA.toList.count false:=by omega
   obtain⟨i,hi,e⟩:=List.mem_iff_getElem.1 (List.count_pos_iff.1 eX);simp at hi;refine⟨i,by omega,?_⟩;simp only[Array.getElem_toList]at e;simp[Array.getD,hi,e]
  have e?:∀n,n<aA.size->bA.getD n true=false->False:=by
   intro n;induction n using Nat.strongRecOn with
   |_ n ihn=>
    intro d? yp;have:n∈Region.ready .any aA bA:=(mem_ready n).2 ⟨d?,yp,aA[n],by simp[d?],fun e he hb=>by
     have aH:=uh c9 (i:=n) (o:=aA[n]) (by simp[d?]) e he hb;have oR:e.on<bA.size:=by omega
     cases hv:bA[e.on]with|true=>simp[Array.getD,oR,hv]|false=>exact(ihn e.on aH (by omega) (by simp[Array.getD,oR,hv])).elim⟩
    rw[ZR]at this;cases this
  obtain⟨i,h1,h2⟩:=qJ;exact e? i h1 h2;obtain⟨hilt,lV,o,ho,Ao⟩:=(mem_ready i).1 hi;have NQ:i<bA.size:=by omega
  have lh:¬ bA.getD i false=true:=by simp[Array.getD,NQ]at lV ⊢;exact lV
  have CW:aA.toList[i]? = some o:=by simpa using ho
  obtain⟨r,hr,eR⟩:=VW aA iQ CW;subst eR;have qZ:∀q,aA.toList[i]? = some q->∀e∈q.after.toList,Region.binds .any e=true->bA.getD e.on false=true:=fun q hq=>by rw[CW]at hq;cases hq;exact Ao
  have ZX:=qsw aA iQ c9 iF qB hr lh qZ;obtain⟨_,Tv,CS,_⟩:=iQ.all i r hr;have Hz:j8 rs X' i=r.s:=by simp[j8,hr]
  have qH:∀k,((bA.setIfInBounds i true).getD k false=true)↔(bA.getD k false=true\/k=i):=fun k=>by by_cases hk:k=i;subst hk;simp[Array.getD,NQ];by_cases tR:k<bA.size;simp[Array.getD,tR,hk,Ne.symm hk];simp[Array.getD,tR,hk]
  have Uj:Closed aA.toList (fun k=>(bA.setIfInBounds i true).getD k false=true):=fun k q hk hq e he hb=>by refine(qH e.on).2 (.inl ?_);rcases(qH k).1 hk with hk |rfl;exact iF k q hk hq e he hb;exact qZ q hq e he hb
  have Sw:∀(e:Nat)(r:dZ),rs[e]? = some r->r.act=false->r.mv=true->(bA.setIfInBounds i true).getD e false=true:=fun e q h1 h2 h3=>(qH e).2 (.inl (R_ e q h1 h2 h3));have H3:LO tm₀ rs (fun k=>(bA.setIfInBounds i true).getD k false=true) (dX tm r.o.dst r.u):=by have:=qqv aA iQ c9 qB hr;exact⟨this.len,fun k q d a b c hL=>this.yes k q d a b c ((qH k).1 hL),fun k q d a b hL=>this.no k q d a b fun x=>hL ((qH k).2 x),this.other⟩
  have SF:(bA.setIfInBounds i true).toList.count false=fuel:=by
   have hv:bA[i]=false:=by simpa[Array.getD,NQ]using lV
   rw[Array.toList_setIfInBounds,List.count_set (by simpa using NQ)];have O5:Array.count false bA=fuel+1:=by simpa using Ui
   simp[hv];omega
  obtain⟨yT,Sf⟩:=YC ZX;have stay:r.act=false->∀y dB aI w₁ b7,y.X=j8 rs X' p->St F y (dX tm r.o.dst r.u) dB aI w₁ b7->bQ m0 x0.s w0 aI y.s w₁->Ke n0 x0 y->n0<=y.X.nx->b7.defers=df->wpAnyIn (y7 ro) 0 P .any aA E fuel (bA.setIfInBounds i true) b7 w₁:=fun hk y dB aI w₁ b7 h1 h2 h3 h4 h5 h6=>by refine ih _ _ _ aI p _ dB y (by simpa using eA) SF Uj Sw H3 hp (fun e q hq ZM=>?_) h1 h2 h3 h4 h5 h6;rw[qH];by_cases hei:e=i;subst hei;rw[hr]at hq;cases hq;rw[hk]at ZM;cases ZM;simp only[hei,or_false];exact oG e q hq ZM
  have past:r.act=true->j8 rs X' p=r.s/\∀y dB aI w₁ b7,y.X=r.s'->St F y (dX tm r.o.dst r.u) dB aI w₁ b7->bQ m0 x0.s w0 aI y.s w₁->Ke n0 x0 y->n0<=y.X.nx->b7.defers=df->wpAnyIn (y7 ro) 0 P .any aA E fuel (bA.setIfInBounds i true) b7 w₁:=fun hk=>by
   have cO:p<=i:=by rcases Nat.lt_or_ge i p with h |h;exact absurd ((oG i r hr hk).2 h) lh;exact h
   have hil':i<rs.length:=(zG.1 hr).1;have HL:∀(e:Nat)(q:dZ),p<=e->e<i->rs[e]? = some q->q.act=false:=fun e q h1 h2 h3=>by rcases hb:q.act with _|_;rfl;have:=qi c9 iF qZ (O3.acts i e r q hr h3 hk hb h2);have:=(oG e q h3 hb).1 this;omega
   refine⟨(Fe aA iQ cO (by omega) HL).trans Hz,fun y dB aI w₁ b7 h1 h2 h3 h4 h5 h6=>?_⟩;refine ih _ _ _ aI (i+1) _ dB y (by simpa using eA) SF Uj Sw H3 (by omega) (fun e q hq ZM=>?_) (h1.trans CS.symm) h2 h3 h4 h5 h6;rw[qH];by_cases hei:e=i;subst hei;simp;simp only[hei,or_false];constructor;intro Ut;have:=(oG e q hq ZM).1 Ut;omega;intro aH;exact qi c9 iF qZ (O3.acts i e r q hr hq hk ZM (by omega))
  unfold wpOpIn;simp only[ho];rw[fe (m7.act m (aJ.refl _ _)) aA r.o];rcases Tv with⟨hw,hu,ha,_⟩|⟨hw,pF,hqu⟩|⟨hw,ha,f,args,SG,jT⟩|⟨hw,ha,_,SD⟩|⟨ha,hm,_⟩|⟨hw,ha,u1,s1,d,pF,hd,HH,Ag,vT⟩;rw[G2 m7.e (Sf.trans hw)];simp only[Bool.false_eq_true,if_false];rw[hu]at stay;exact⟨fun _ _=>trivial,stay ha x _ m w _ eW (m7.skip r.o.dst) aO fT iE ((G4 _ _ _).trans lA)⟩;rw[G2 m7.e (Sf.trans hw)];simp only[if_true];cases ha:r.act with
  |true=>
   obtain⟨m9,oC⟩:=past ha;have vQ:bF T x.X tm r.o.op=some (r.u,r.s'):=by rw[eW,m9,qk yT];exact pF
   exact vE (PZ vQ) (m7.op hT r.o vQ fun y dB aI w₁ b7 e1 bG cR eF mB gQ=>oC y dB aI w₁ b7 e1 bG (aO.trans cR) (fT.trans (eF.le iE)) (by omega) (gQ.trans lA))
  |false=>
   have Hy:=hqu ha;have dW:bF T (j8 rs X' p) r.tm r.o.op=some (r.u,j8 rs X' p):=by
    rcases Nat.lt_or_ge i p with hip |hip;by_cases qJ:∃(e:Nat)(q:dZ),i<e/\e<p/\rs[e]? = some q/\q.act=true;obtain⟨e,q,g1,g2,g3,g5,g6⟩:=z7e qJ;have es:j8 rs X' (e+1)=j8 rs X' p:=Fe aA iQ (by omega) hp fun e' q' k1 k2 k3=>g6 e' q' (by omega) k2 k3
    have eq':j8 rs X' (e+1)=q.s':=(iQ.all e q g3).2.2.1;rw[<-es,eq'];rcases O3.hi i e r q hr g3 ha hw pF g5 g1 with k4 |k4 |k4;have Ut:bA.getD e false=true:=(oG e q g3 g5).2 g2;exact absurd (iu c9 iF e i Ut k4) lh;rw[k4,pF,Hy];exact k4;have es:j8 rs X' i=j8 rs X' p:=Fe aA iQ (by omega) hp fun e q k1 k2 k3=>by
     rcases Nat.lt_or_ge i e with h |h;rcases hb:q.act with _|_;rfl;exact absurd ⟨e,q,h,k2,k3,hb⟩ qJ;have:e=i:=by omega
     subst this;rw[hr]at k3;cases k3;exact ha
    rw[<-es,Hz,pF,Hy];by_cases qJ:∃(e:Nat)(q:dZ),p<=e/\e<i/\rs[e]? = some q/\q.act=true;obtain⟨e,q,g1,g2,g3,g5,g6⟩:=z2s qJ;have es:j8 rs X' p=j8 rs X' e:=Fe aA iQ g1 (by have:=(zG.1 g3).1;omega) fun e' q' k1 k2 k3=>g6 e' q' k1 k2 k3;have eq':j8 rs X' e=q.s:=by simp[j8,g3]
    rw[es,eq'];rcases O3.lo i e r q hr g3 ha hw pF g5 g2 with k4 |k4 |k4;have Ut:=qi c9 iF qZ k4;have:=(oG e q g3 g5).1 Ut;omega;rw[k4,pF,Hy];exact k4;have es:j8 rs X' p=j8 rs X' i:=Fe aA iQ hip (by have:=(zG.1 hr).1;omega) fun e q k1 k2 k3=>by rcases hb:q.act with _|_;rfl;exact absurd ⟨e,q,k1,k2,k3,hb⟩ qJ
    rw[es,Hz,pF,Hy]
   have vQ:bF T x.X tm r.o.op=some (r.u,j8 rs X' p):=by rw[eW,qk yT];exact dW
   exact vE (PZ vQ) (m7.op hT r.o vQ fun y dB aI w₁ b7 e1 bG cR eF mB gQ=>stay ha y dB aI w₁ b7 e1 bG (aO.trans cR) (fT.trans (eF.le iE)) (by omega) (gQ.trans lA))
  rw[G2 m7.e (Sf.trans hw)];simp only[if_true];obtain⟨m9,oC⟩:=past ha;have y?:aV P f args x.X (fun u X=>u=r.u/\X=r.s'):=by rw[eW,m9];exact jT
  refine vE (qb ((nk yT).trans SG)) (m7.call hT r.o ((nk yT).trans SG) y? fun y u dB aI w₁ b7 hR bG cR eF mB gQ=>?_);obtain⟨rfl,Ur⟩:=hR;exact oC y dB aI w₁ b7 Ur bG (aO.trans cR) (fT.trans (eF.le iE)) (by omega) (gQ.trans lA);rw[G2 m7.e (Sf.trans hw)];simp only[if_true];exact vE (SD.congr yT).nd (m7.free hT r.o (SD.congr yT) fun y dB aI w₁ b7 e1 bG cR eF mB gQ=>stay ha y dB aI w₁ b7 (e1.trans eW) bG (aO.trans cR) (fT.trans (eF.le iE)) (by omega) (gQ.trans lA));exact absurd (R_ i r hr ha hm) lh;rw[G2 m7.e (Sf.trans hw)];simp only[if_true];obtain⟨m9,oC⟩:=past ha;have vQ:bF T x.X tm r.o.op=some (u1,s1):=by rw[eW,m9,qk yT];exact pF
  have aN:tm.length=r.tm.length:=by
   have h1:=(aq aA iQ c9 i (Nat.le_of_lt (zG.1 hr).1)).len;have e1:uX rs tm' i=r.tm:=by simp[uX,hr]
   rw[e1]at h1;rw[qB.len,h1]
  exact vE (PZ vQ) (m7.opfz hT r.o vQ hd (by rw[aN];exact HH) Ag vT fun y dB aI w₁ b7 e1 bG cR eF mB gQ=>oC y dB aI w₁ b7 e1 bG (aO.trans cR) (fT.trans (eF.le iE)) (by omega) (gQ.trans lA))
end
end Go.Vx
namespace Go.Vx
open Go Go.Rx
def RD(P:Uz)(T:Tb)(aA:Z Oper):Z Oper->Z U->Sg->(Z dZ->Z U->Sg->Prop)->Prop
 |[],tm,X,K=>K [] tm X|o::r,tm,X,K=>(cA aA tm o=some true/\∃u,bF T X tm o.op=some (u,X)/\RD P T aA r (dX tm o.dst u) X (fun rs=>K (⟨tm,o,u,false,false,X,X⟩::rs)))\/ (cA aA tm o=some true/\∃u X',bF T X tm o.op=some (u,X')/\RD P T aA r (dX tm o.dst u) X' (fun rs=>K (⟨tm,o,u,true,true,X,X'⟩::rs)))\/ (cA aA tm o=some true/\∃f args u,jG T tm o.op=some (f,args)/\aV P f args X (fun u' X'=>u'=u/\X'=X)/\RD P T aA r (dX tm o.dst u) X (fun rs=>K (⟨tm,o,u,true,false,X,X⟩::rs)))\/ (cA aA tm o=some true/\∃f args u X',jG T tm o.op=some (f,args)/\aV P f args X (fun u' s'=>u'=u/\s'=X')/\RD P T aA r (dX tm o.dst u) X' (fun rs=>K (⟨tm,o,u,true,true,X,X'⟩::rs)))\/ (cA aA tm o=some false/\RD P T aA r (dX tm o.dst (.tup [])) X (fun rs=>K (⟨tm,o,.tup [],false,false,X,X⟩::rs)))\/ (cA aA tm o=some true/\∃u,sK P T tm o.op u/\RD P T aA r (dX tm o.dst u) X (fun rs=>K (⟨tm,o,u,false,false,X,X⟩::rs)))\/ (cA aA tm o=some true/\∃u1 s1 d u X',bF T X tm o.op=some (u1,s1)/\o.dst=some d/\d<tm.length/\Gh s1.nx [u1] s1 [u] X'/\s1.nx<=X'.nx/\RD P T aA r (dX tm o.dst u) X' (fun rs=>K (⟨tm,o,u,true,true,X,X'⟩::rs)))
def PI{P:Uz}{T:Tb}{aA:Z Oper}:∀(rest:Z Oper)(tm:Z U)(X:Sg)(K:Z dZ->Z U->Sg->Prop),RD P T aA rest tm X K->
  ∃rs tm' X',K rs tm' X'/\rs.length=rest.length/\j8 rs X' 0=X/\uX rs tm' 0=tm/\
   ∀(i:Nat)(r:dZ),rs[i]? = some r->rest[i]? = some r.o/\Good P T aA r/\j8 rs X' (i+1)=r.s'/\uX rs tm' (i+1)=dX r.tm r.o.dst r.u/\(r.mv=false->r.s'=r.s)/\(r.mv=true->r.act=true)
 |[],tm,X,K,h=>⟨[],tm,X,h,rfl,rfl,rfl,fun i r hr=>by simp at hr⟩|o::rest,tm,X,K,h=>by
  have step:∀(u:U)(ac mv:BQ)(dK:Sg),RD P T aA rest (dX tm o.dst u) dK (fun rs=>K (⟨tm,o,u,ac,mv,X,dK⟩::rs))->Good P T aA ⟨tm,o,u,ac,mv,X,dK⟩->(mv=false->dK=X)->(mv=true->ac=true)->
    ∃rs tm' X',K rs tm' X'/\rs.length=(o::rest).length/\j8 rs X' 0=X/\uX rs tm' 0=tm/\
     ∀(i:Nat)(r:dZ),rs[i]? = some r->(o::rest)[i]? = some r.o/\Good P T aA r/\j8 rs X' (i+1)=r.s'/\uX rs tm' (i+1)=dX r.tm r.o.dst r.u/\(r.mv=false->r.s'=r.s)/\(r.mv=true->r.act=true):=by
   intro u ac mv dK h hg h1 h2;obtain⟨rs,tm',X',g1,g2,g3,g4,g5⟩:=PI rest _ _ _ h;refine⟨_,tm',X',g1,by simp[g2],rfl,rfl,fun i r hr=>?_⟩;cases i with
   |zero=>simp at hr;subst hr;refine⟨rfl,hg,?_,?_,h1,h2⟩;simp only[j8,zH];exact g3;simp only[uX,zH];exact g4|succ i=>simp only[zH]at hr;obtain⟨k1,k2,k3,k4,k5⟩:=g5 i r hr;refine⟨by simpa using k1,k2,?_,?_,k5⟩;simp only[j8,zH];exact k3;simp only[uX,zH];exact k4
  simp only[RD]at h;rcases h with⟨hw,u,h1,h2⟩|⟨hw,u,dK,h1,h2⟩|⟨hw,f,args,u,h1,h2,h3⟩|⟨hw,f,args,u,dK,h1,h2,h3⟩|⟨hw,h1⟩|⟨hw,u,h1,h3⟩|⟨hw,u1,s1,d,u,dK,h1,h2,h3,h4,h5,h6⟩;exact step u false false X h2 (.inr (.inl ⟨hw,h1,fun _=>rfl⟩)) (fun _=>rfl) (by simp);exact step u true true dK h2 (.inr (.inl ⟨hw,h1,by simp⟩)) (by simp) (by simp);exact step u true false X h3 (.inr (.inr (.inl ⟨hw,rfl,f,args,h1,h2⟩))) (fun _=>rfl) (by simp);exact step u true true dK h3 (.inr (.inr (.inl ⟨hw,rfl,f,args,h1,h2⟩))) (by simp) (by simp);exact step _ false false X h1 (.inl ⟨hw,rfl,rfl,rfl⟩) (fun _=>rfl) (by simp);exact step u false false X h3 (.inr (.inr (.inr (.inl ⟨hw,rfl,rfl,h1⟩)))) (fun _=>rfl) (by simp);exact step u true true dK h6 (.inr (.inr (.inr (.inr (.inr ⟨hw,rfl,u1,s1,d,h1,h2,h3,h4,h5⟩))))) (by simp) (by simp)
section
variable{C:PG}{T:Tb}(hT:iK C.prog T){n0:Nat}{Q:Exit->Z U->Sg->Prop}{tm:Z U}{X:Sg}
include hT
def WPU.drawn{id:Nat}{aA:Bo Oper}(c9:WY aA.toList=true){rs:Z dZ}{tm':Z U}{X':Sg}(iQ:mf C.prog T aA.toList tm X rs tm' X')(O3:ChU T aA.toList rs)(hmv:∀(i:Nat)(r:dZ),rs[i]? = some r->r.mv=true->r.act=true)(hQ:Q .normal tm' X'):WPU C n0 (.region id aA true) tm X Q:=fun hn F x tv m w a b0 hx st hG hd ro eR=>by
 refine wpIn_region_any hT.mixed ?_;have fF:∀k,(Array.replicate aA.size false).getD k false=false:=fun k=>by by_cases hk:k<aA.size<;>simp[Array.getD,hk]
 have xQ:=bQ.draw (w.drawn+1) st.fits;refine z6g (ro:=ro) hT aA iQ c9 O3 (n0:=n0) (F:=F) (x0:=x) (m0:=m) (w0:=w) (df:=a.defers) (fun y dB m' w' a' h1 h2 h3 h4 h5 h6=>⟨y,tm',dB,m',h1 ▸ hQ,h2,h3,h4,h5,by rw[h6];exact hd.adv st.fits h3⟩) aA.size (Array.replicate aA.size false) a _ m 0 tm tv x (by simp) (by simp) ?_ (fun e r h1 h2 h3=>by have:=hmv e r h1 h3;rw[h2]at this;cases this) ?_ (Nat.zero_le _) ?_ ?_ ?_ ?_ (Ke.refl _ _) (hx ▸ hn) rfl;intro k q hk;rw[fF]at hk;cases hk;have:=qmp (rs:=rs) (tm₀:=tm);exact⟨this.len,fun k r d _ _ _ hL=>(by rw[fF]at hL;cases hL),fun k r d g1 g2 _=>this.no k r d g1 g2 (fun x=>x),this.other⟩;intro e r _ _;rw[fF];simp;rw[iQ.s0];exact hx;exact⟨st.h,st.fr,st.e,(bQ.draw _ st.fits).fits,st.act⟩;exact bQ.draw _ st.fits
end
section
variable{K:Z U->Sg->Prop}{Q:Exit->Z U->Sg->Prop}{tm:Z U}{X:Sg}{i j:Nat}
def Rt(h:Q .normal tm X):xB i Q (.exit i) tm X:=by simp only[xB,if_true];exact h
def Rs(kB:¬ j=i)(h:Q (.exit j) tm X):xB i Q (.exit j) tm X:=by simp only[xB,kB,if_false];exact h
end
variable{C:PG}
variable{T:Tb}
variable{aA:Z Oper}
variable{r:Z Oper}
variable{o:Oper}
variable{tm:Z U}
variable{X:Sg}
variable{f:FuncId}
variable{args:Z U}
def RU.call{K:Z U->Sg->Prop}{R:U->Sg->Prop}(hw:cA aA tm o=some true)(hc:jG T tm o.op=some (f,args))(jT:aV C.prog f args X R)
  (h:∀u X',R u X'->RU C T aA r (dX tm o.dst u) X' K):RU C T aA (o::r) tm X K:=.inr (.inl ⟨hw,f,args,R,hc,jT,h⟩)
def WPU.loopG{n0:Nat}{Q:Exit->Z U->Sg->Prop}{c:Code}(v07:Nat->Z U->Sg->Prop)(n:Nat)(h₀:v07 n tm X)
  (round:∀n tm X,v07 n tm X->WPU C n0 c tm X (BT (fun tm' X'=>∃n' hX aS,n'<n/\v07 n' hX aS/\n0<=aS.nx/\Gh n0 tm' X' hX aS) Q)):WPU C n0 (.loop c) tm X Q:=by
 refine WPU.loop v07 n h₀ fun n tm X hI=>?_;refine WPU.after (round n tm X hI) ?_;intro e pj dK hn h;cases e with
 |normal=>obtain⟨n',hX,aS,h1,h2,h3,h4⟩:=h;exact⟨hX,aS,h3,h4,n',h1,h2⟩
 |_=>exact⟨pj,dK,hn,Gh.refl _ _ _,h⟩
def Gh.to{n0 n1:Nat}{tm':Z U}{X':Sg}(mask:Z BQ)(ht:LM mask tm=tm')(hs:(⟨Vx.cut n1 X.h,n1⟩:Sg)=X')(h1:n0<=n1)(h2:n1<=X.nx)(hb:aF n1 tm')(hh:DX n1 X'.h):Gh n0 tm X tm' X':=by subst ht;subst hs;exact(Gh.junk n0 mask tm X).trans (Gh.cut h1 h2 hb hh)
def uJ{v11:Type}{n:Nat}(f:v11->Z U)(h:∀x,aF n (f x))(l:Z v11):jO n (l.map f):=by rw[Fs];intro c hc;obtain⟨x,_,rfl⟩:=List.mem_map.1 hc;exact h x
def RF(P:Uz)(T:Tb)(aA rest:Z Oper)(tm:Z U)(X:Sg)(fl:Z (BQ×BQ))(K:Z (BQ×BQ)->Z U->Sg->Prop):Prop :=
 RD P T aA rest tm X (fun rs tm' X'=>K (fl++rs.map fun r=>(r.act,r.mv)) tm' X')
def RF.eq(P:Uz)(T:Tb)(aA:Z Oper){f g:Z dZ->Z U->Sg->Prop}(h:f=g){rest:Z Oper}(hr:RD P T aA rest tm X f):RD P T aA rest tm X g:=h ▸ hr
def z2t{K:Z (BQ×BQ)->Z U->Sg->Prop}(fl:Z (BQ×BQ))(r:dZ)(a b:BQ)(h1:r.act=a)(h2:r.mv=b):
  (fun(rs:Z dZ) (tm:Z U) (X:Sg)=>K (fl++[(a,b)]++rs.map fun r=>(r.act,r.mv)) tm X)=(fun rs=>(fun(rs:Z dZ) tm X=>K (fl++rs.map fun r=>(r.act,r.mv)) tm X) (r::rs)):=by subst h1;subst h2;funext rs tm X;simp
variable{u:U}
def RF.call{P:Uz}{fl:Z (BQ×BQ)}{K:Z (BQ×BQ)->Z U->Sg->Prop}(hw:cA aA tm o=some true)(hc:jG T tm o.op=some (f,args))(jT:aV P f args X (fun u' X'=>u'=u/\X'=X))
  (h:RF P T aA r (dX tm o.dst u) X (fl++[(true,false)]) K):RF P T aA (o::r) tm X fl K:=by simp only[RF,RD];exact .inr (.inr (.inl ⟨hw,f,args,u,hc,jT,RF.eq P T aA (z2t fl _ true false rfl rfl) h⟩))
def RU.pcall{K:Z U->Sg->Prop}(hw:cA aA tm o=some true)(hc:jG T tm o.op=some (f,args))(jT:aV C.prog f args X (fun u' X'=>u'=u/\X'=X))
  (h:RU C T aA r (dX tm o.dst u) X K):RU C T aA (o::r) tm X K:=RU.call hw hc jT (fun u' X' ⟨h1,h2⟩=>by subst h1;subst h2;exact h)
def aV.pure1{P:Uz}(h:aV P f args ⟨[],0⟩ (fun u' _=>u'=u/\aP 0 u'))(ha:aF 0 args)(X:Sg):aV P f args X (fun u' X'=>u'=u/\X'=X):=aV.pure h ha X
end Go.Vx
