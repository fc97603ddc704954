import GoSem.ClaimChange
import Derived.Test.YtmflfedkfdkipaaGreatP7
set_option linter.all false
namespace Go.Vx
open Go Go.Rx
mutual
def Rep(W:World):U->Value->Prop
 |.bool b,v=>v=.bool b|.int k n,v=>v=.int k n
 |.str l,v=>v=.string ⟨⟨l⟩⟩|.isl t l,v=>t=false/\((l=[]/\(v=.slice none 0 0\/∃b off p,v=.slice (some ⟨b,off,some p⟩) 0 0))\/∃b off c,v=.slice (some ⟨b,off,none⟩) l.length c/\c<b7/\l.length<=c/\
   (l=[]\/∃cs e fr sz,W.heap[b]? = some (.cells cs e fr)/\CN W sz l (cs.toList.drop off)))
 |.agg l,v=>∃vs,v=.agg ⟨vs⟩/\iT W l vs/\l.length=vs.length/\okL l=true|_,_=>False
def iT(W:World):List U->List Value->Prop
 |[],_=>True|u::us,vs=>match vs with
  |[]=>False|v::vs=>Rep W u v/\iT W us vs
def CN(W:World)(sz:Nat):List (List U)->List Value->Prop
 |[],_=>True|c::cs,vs=>c.length=sz/\okL c=true/\iT W c vs/\CN W sz cs (vs.drop sz)
end
def cx(s:S):Cx:=⟨fun _=>none,⟨[],0⟩,s⟩
def UB(s:S):Prop:=∀i b,lk s.h i=some b->Own b=false
structure Grow(m:Nm)(s:S)(m':Nm)(s':S):Prop where
 agree:aG s.nx m m'
 nx:s.nx<=s'.nx
 rows:∀i b,lk s.h i=some b->lk s'.h i=some b
theorem Grow.refl(m:Nm)(s:S):Grow m s m s:=⟨aG.refl _ _,zF _,fun _ _ h=>h⟩
theorem Grow.trans{m m' m'':Nm}{s s' s'':S}(h:Grow m s m' s')(h':Grow m' s' m'' s''):Grow m s m'' s'':=⟨h.agree.trans h'.agree h.nx,Nat.le_trans h.nx h'.nx,fun i b hb=>h'.rows i b (h.rows i b hb)⟩
variable{m:Nm}
variable{m':Nm}
variable{s:S}
variable{s':S}
theorem Grow.mo(h:Grow m s m' s'):Mo 0 (cx s) (cx s'):=⟨fun k hk=>by omega,fun i row e hl=>h.rows i _ hl⟩
theorem Grow.rel(h:Grow m s m' s'){u:U}{v:Value}(hr:aA (cx s) u v):aA (cx s') u v:=h.mo.ke u v (aA.bel _ _ hr) hr
theorem Grow.relE(h:Grow m s m' s'){l:List U}{vs:List Value}(hr:aQ (cx s) l vs):aQ (cx s') l vs:=h.mo.ke.E hr.bel hr
theorem Yy(m:Nm)(n:Nat):j5 m n [] []:=fun _ _=>by simp[aD]
theorem cz{n:Nat}{v cv:Value}{vs cvs:List Value}(h:cZ m n v cv)(h':j5 m n vs cvs):j5 m n (v::vs) (cv::cvs):=fun m' ha=>by simp[aD,h m' ha,h' m' ha]
theorem xy{x:Cx}{sz:Nat}:∀{l:List (List U)}{vs:List Value},aQ x l.flatten vs->(∀c∈l,c.length=sz/\okL c=true)->eD x sz l vs
 |[],vs,h,hs=>by simp[eD]
 |c::l,vs,h,hs=>by obtain⟨h1,h2⟩:=hs c (by simp);simp only[eD];rw[List.flatten_cons]at h;refine⟨h1,h2,?_,xy (by have:=h.drop sz;rwa [List.drop_append_of_le_length (by omega),List.drop_of_length_le (by omega),List.nil_append]at this) fun d hd=>hs d (by simp[hd])⟩;rw[wS];intro i u hu;have hlt:i<c.length:=(zG.1 hu).1;exact h.get (by rw[List.getElem?_append_left hlt];exact hu)
theorem Yw{W:World}{sz:Nat}:∀{l:List (List U)}{vs:List Value},CN W sz l vs->∀c∈l,c.length=sz/\okL c=true
 |[],vs,h=>by simp
 |d::l,vs,h=>fun c hc=>by simp only[CN]at h;rcases zI.1 hc with rfl |hc;exact⟨h.1,h.2.1⟩;exact Yw h.2.2.2 c hc
def k_(W:World)(m:Nm)(s:S)(u:U)(cv:Value):Prop:=∃m' s' v,Grow m s m' s'/\dS m' s' W/\UB s'/\(∀i b,lk s'.h i=some b->i<s'.nx)/\cZ m' s'.nx v cv/\aA (cx s') u v
def Bg(W:World)(m:Nm)(s:S)(us:List U)(cvs:List Value):Prop:=∃m' s' vs,Grow m s m' s'/\dS m' s' W/\UB s'/\(∀i b,lk s'.h i=some b->i<s'.nx)/\j5 m' s'.nx vs cvs/\aQ (cx s') us vs
mutual
theorem K0{W:World}:(u:U)->(cv:Value)->Rep W u cv->∀m s,dS m s W->UB s->(∀i b,lk s.h i=some b->i<s.nx)->k_ W m s u cv
 |.bool b,cv,h,m,s,hf,hn,hbd=>by simp only[Rep]at h;subst h;exact⟨m,s,.bool b,Grow.refl _ _,hf,hn,hbd,oO fun _=>by simp[ren],by simp[aA]⟩
 |.int k n,cv,h,m,s,hf,hn,hbd=>by simp only[Rep]at h;subst h;exact⟨m,s,.int k n,Grow.refl _ _,hf,hn,hbd,oO fun _=>by simp[ren],by simp[aA]⟩
 |.str l,cv,h,m,s,hf,hn,hbd=>by simp only[Rep]at h;subst h;exact⟨m,s,_,Grow.refl _ _,hf,hn,hbd,oO fun _=>by simp[ren],by simp[aA]⟩
 |.agg l,cv,h,m,s,hf,hn,hbd=>by simp only[Rep]at h;obtain⟨cvs,rfl,h1,h2,h3⟩:=h;obtain⟨m',s',vs,g1,g2,g3,g4,g5,g6⟩:=Dc l cvs h1 m s hf hn hbd;rw[h2,List.take_length]at g5;exact⟨m',s',.agg ⟨vs⟩,g1,g2,g3,g4,fun m'' ha=>by simp[ren,g5 m'' ha],by simp only[aA];exact⟨vs,rfl,g6.1,g6.2,h3⟩⟩
 |.isl t l,cv,h,m,s,hf,hn,hbd=>by
  simp only[Rep]at h;obtain⟨rfl,h⟩:=h;rcases h with⟨rfl,rfl |⟨b,off,p,rfl⟩⟩|⟨b,off,c,rfl,hc,hlc,h⟩;exact⟨m,s,.slice none 0 0,Grow.refl _ _,hf,hn,hbd,oO fun _=>by simp[ren],by simp[aA]⟩;refine⟨m.set s.nx b off p,⟨s.h,s.nx+1⟩,.chan (some s.nx),⟨Nm.agree_set _ _ _ _ _,Nat.le_succ _,fun _ _ h=>h⟩,(bA.ghost hf b off p).fits,hn,fun i b hb=>Nat.lt_succ_of_lt (hbd i b hb),fun m' ha=>?_,by simp[aA]⟩;obtain⟨q1,q2,q3⟩:=ha s.nx (zN _);simp[ren,q1,q2,q3,Nm.set];by_cases hl:l=[];subst hl;refine⟨m.set s.nx b off 0,⟨s.h,s.nx+1⟩,.slice (some ⟨s.nx,0,none⟩) 0 c,⟨Nm.agree_set _ _ _ _ _,Nat.le_succ _,fun _ _ h=>h⟩,(bA.ghost hf b off 0).fits,hn,fun i b hb=>Nat.lt_succ_of_lt (hbd i b hb),fun m' ha=>?_,?_⟩;obtain⟨q1,q2,_⟩:=ha s.nx (zN _);simp[ren,q1,q2,Nm.set,bF,hc];simp only[aA];exact .inr ⟨s.nx,0,c,rfl,by simp,.inl trivial⟩;rcases h with h |⟨cs,e,fr,sz,hw,hr⟩;exact absurd h hl;obtain⟨m',s',vs,g1,g2,g3,g4,g5,g6⟩:=Xc l _ hr m s hf hn hbd;have hall:=Yw hr;have hnew:∀m'',aG (s'.nx+1) (m'.set s'.nx b off 0) m''->aG s'.nx m' m'':=fun m'' ha=>(Nm.agree_set m' s'.nx b off 0).trans ha (Nat.le_succ _)
  have hat:∀m'',aG (s'.nx+1) (m'.set s'.nx b off 0) m''->m''.blk s'.nx=b/\m''.sh s'.nx=off:=fun m'' ha=>by obtain⟨q1,q2,_⟩:=ha s'.nx (zN _);simp[Nm.set]at q1 q2;exact⟨q1,q2⟩
  refine⟨m'.set s'.nx b off 0,⟨(s'.nx,.inl (vs,0,1))::s'.h,s'.nx+1⟩,.slice (some ⟨s'.nx,0,none⟩) l.length c,g1.trans ⟨Nm.agree_set _ _ _ _ _,Nat.le_succ _,fun i b hb=>?_⟩,fun m'' ha=>⟨fun i d hd=>?_,fun i j d d' hd hd' hij ho=>?_,fun i d hd=>?_⟩,fun i d hd=>?_,fun i d hd=>?_,fun m'' ha=>?_,?_⟩;have:=g4 i b hb;simp[iD,show s'.nx≠i by omega,hb];simp only[iD]at hd;split at hd;rename_i e;subst e;cases hd;obtain⟨q1,q2⟩:=hat m'' ha;refine⟨cs,e,fr,by rw[q1];exact hw,fun k v hk=>?_,fun n hn=>absurd hn (by simp)⟩;have:=congrArg (fun z=>z[k]?) (g5 m'' (hnew m'' ha));simp only[hX,List.getElem?_map,hk,zM,List.getElem?_take,List.getElem?_drop]at this;split at this;rw[q2];simpa using this.symm;cases this;exact(g2 m'' (hnew m'' ha)).ok i d hd;simp only[iD]at hd hd';split at hd;cases hd;simp[Own]at ho;rw[g3 i d hd]at ho;cases ho;simp only[iD]at hd;split at hd;show i<s'.nx+1;omega;exact Nat.lt_succ_of_lt (g4 i d hd);simp only[iD]at hd;split at hd;cases hd;rfl;exact g3 i d hd;simp only[iD]at hd;split at hd;show i<s'.nx+1;omega;exact Nat.lt_succ_of_lt (g4 i d hd);obtain⟨q1,q2⟩:=hat m'' ha;simp[ren,q1,q2,bF,hc];have hg:Grow m' s' (m'.set s'.nx b off 0) ⟨(s'.nx,.inl (vs,0,1))::s'.h,s'.nx+1⟩:=⟨Nm.agree_set _ _ _ _ _,Nat.le_succ _,fun i b hb=>by have:=g4 i b hb;simp[iD,show s'.nx≠i by omega,hb]⟩;simp only[aA];exact .inr ⟨s'.nx,0,c,rfl,by simp,.inr ⟨vs,0,sz,by simp[cx,iD],xy (hg.relE g6) hall,.inl ⟨hc,hlc⟩⟩⟩
 |.junk,cv,h,m,s,hf,hn,hbd=>by simp[Rep]at h
 |.nilp,cv,h,m,s,hf,hn,hbd=>by simp[Rep]at h
 |.ptr _ _ _,cv,h,m,s,hf,hn,hbd=>by simp[Rep]at h
 |.iptr _,cv,h,m,s,hf,hn,hbd=>by simp[Rep]at h
 |.nils,cv,h,m,s,hf,hn,hbd=>by simp[Rep]at h
 |.sl _ _ _ _,cv,h,m,s,hf,hn,hbd=>by simp[Rep]at h
 |.vl _ _ _ _,cv,h,m,s,hf,hn,hbd=>by simp[Rep]at h
 |.nilm,cv,h,m,s,hf,hn,hbd=>by simp[Rep]at h
 |.map _,cv,h,m,s,hf,hn,hbd=>by simp[Rep]at h
 |.fn _ _ _,cv,h,m,s,hf,hn,hbd=>by simp[Rep]at h
 |.nilf,cv,h,m,s,hf,hn,hbd=>by simp[Rep]at h
 |.nili,cv,h,m,s,hf,hn,hbd=>by simp[Rep]at h
 |.tup _,cv,h,m,s,hf,hn,hbd=>by simp[Rep]at h
theorem Dc{W:World}:(us:List U)->(cvs:List Value)->iT W us cvs->∀m s,dS m s W->UB s->(∀i b,lk s.h i=some b->i<s.nx)->Bg W m s us (cvs.take us.length)
 |[],cvs,h,m,s,hf,hn,hbd=>⟨m,s,[],Grow.refl _ _,hf,hn,hbd,by simpa using Yy m s.nx,aQ.nil _⟩|u::us,[],h,m,s,hf,hn,hbd=>by simp[iT]at h
 |u::us,cv::cvs,h,m,s,hf,hn,hbd=>by simp only[iT]at h;obtain⟨m',s',v,g1,g2,g3,g4,g5,g6⟩:=K0 u cv h.1 m s hf hn hbd;obtain⟨m'',s'',vs,k1,k2,k3,k4,k5,k6⟩:=Dc us cvs h.2 m' s' g2 g3 g4;exact⟨m'',s'',v::vs,g1.trans k1,k2,k3,k4,by simpa using cz (g5.ext k1.agree k1.nx) k5,aQ.cons (k1.rel g6) k6⟩
theorem Xc{W:World}{sz:Nat}:(l:List (List U))->(cvs:List Value)->CN W sz l cvs->∀m s,dS m s W->UB s->(∀i b,lk s.h i=some b->i<s.nx)->Bg W m s l.flatten (cvs.take (l.length*sz))
 |[],cvs,h,m,s,hf,hn,hbd=>⟨m,s,[],Grow.refl _ _,hf,hn,hbd,by simpa using Yy m s.nx,aQ.nil _⟩|c::l,cvs,h,m,s,hf,hn,hbd=>by
  simp only[CN]at h;obtain⟨m',s',v,g1,g2,g3,g4,g5,g6⟩:=Dc c cvs h.2.2.1 m s hf hn hbd;obtain⟨m'',s'',vs,k1,k2,k3,k4,k5,k6⟩:=Xc l _ h.2.2.2 m' s' g2 g3 g4;refine⟨m'',s'',v++vs,g1.trans k1,k2,k3,k4,?_,by rw[List.flatten_cons];exact(k1.relE g6).append k6⟩;have e:cvs.take ((c::l).length*sz)=cvs.take c.length++(cvs.drop sz).take (l.length*sz):=by rw[zO,Nat.succ_mul,Nat.add_comm,List.take_add,h.1]
  rw[e];exact(g5.ext k1.agree k1.nx).append k5
end
theorem law_calls{P:Program}{f:FuncId}{us:List U}{W:World}{args:List Value}(h:aO P f us ⟨[],0⟩ (fun u _=>u=.bool true))(hr:iT W us args)(hl:us.length=args.length):
  Calls P f args.toArray W fun e w'=>e=.returned (.bool true)/\RowKit.Below W.heap.size W w':=by
 have h0:dS ⟨id,id,id⟩ ⟨[],0⟩ W:=fun m' _=>⟨fun i b hb=>by simp[lk]at hb,fun i j b c hb=>by simp[lk]at hb,fun i b hb=>by simp[lk]at hb⟩;obtain⟨m,s,vs,g1,g2,g3,g4,g5,g6⟩:=Dc us args hr ⟨id,id,id⟩ ⟨[],0⟩ h0 (fun i b hb=>by simp[lk]at hb) (fun i b hb=>by simp[lk]at hb);rw[hl,List.take_length]at g5;refine(h (fun _ _=>False) (cx s) vs m W args rfl ⟨fun k b hb=>by simp[cx,gt]at hb,fun k k' b b' i hb=>by simp[cx,gt]at hb,g4⟩ (fun _ _ J=>J.elim) g6 g2 g5).mono ?_;rintro e w' ⟨y,aF,u,v,cv,rfl,rfl,hadv,hrel,_,_,hru,_,_⟩;simp only[aA]at hru;subst hru;have:=hrel.at;simp only[ren]at this;exact⟨by rw[<-this],hadv.below fun b ⟨i,c,hc,ho,_⟩=>by rw[g3 i c hc]at ho;cases ho⟩
def OfTy(P:Program):Nat->TypeId->List U->Prop
 |0,_,_=>False|n+1,t,us=>match P.underlying t with
  |some .bool=>∃b,us=[.bool b]|some (.int k)=>∃i,us=[.int k i]/\(Lit.int k i).wf=true
  |some .string=>∃s,us=[.str s]/\s.length<=maxLen|some (.slice e)=>∃l,us=[.isl false l]/\l.length<=maxLen/\∀c∈l,OfTy P n e c
  |some (.struct fs)=>us.length=P.cellsOf t/\∀f∈fs.toList,OfTy P n f.type ((us.drop f.offset).take (P.cellsOf f.type))|some (.array k e)=>us.length=P.cellsOf t/\∀i,i<k->OfTy P n e ((us.drop (i*P.cellsOf e)).take (P.cellsOf e))
  |_=>False
end Go.Vx
namespace Go.Vx
open Go Go.Rx
variable{tm:List U}
variable{tm':List U}
theorem Qo{l:List Operand}(h:∀t∈tmpsOf l,tm[t]? = tm'[t]?){x:Operand}(hx:x∈l):bD tm x=bD tm' x:=by
 cases x with|tmp t=>simp only[bD,eR];exact h t (U' hx)|_=>rfl
theorem WT{l:List Operand}(h:∀x∈l,bD tm x=bD tm' x):iC tm l=iC tm' l:=by
 induction l with|nil=>rfl|cons x l ih=>simp only[iC];rw[h x (by simp),ih fun y hy=>h y (by simp[hy])]
theorem je{l:List (Nat×Operand)}(h:∀x∈l.map (·.2),bD tm x=bD tm' x):pQ tm l=pQ tm' l:=by
 induction l with|nil=>rfl|cons x l ih=>obtain⟨i,x⟩:=x;simp only[pQ];rw[h x (by simp),ih fun y hy=>h y (by simp only[zQ,zI];exact .inr hy)]
theorem Qv{x:Option Operand}(h:∀y,x=some y->bD tm y=bD tm' y):nZ tm x=nZ tm' x:=by
 rcases x with _|y;rfl;simp only[nZ];rw[h y rfl]
section
variable{T:Tb}{tm tm':List U}{σ:Sg}{op:Op}
theorem ax(h:∀x∈op.operands.toList,bD tm x=bD tm' x):eH T σ tm op=eH T σ tm' op:=by
 cases op<;>simp only[Op.operands]at h<;>try rfl
 case move x=>simp only[eH];exact h x (by simp)
 case assign x=>simp only[eH];exact h x (by simp)
 case pick c a b=>simp only[eH];rw[h c (by simp),h a (by simp),h b (by simp)]
 case build t ps=>simp only[eH];rw[je (by simpa using h)]
 case nilCheck x=>simp only[eH];rw[h x (by simp)]
 case binOp o t x y ty=>simp only[eH];rw[h x (by simp),h y (by simp)]
 case unOp o t x=>simp only[eH];rw[h x (by simp)]
 case convert a b x=>simp only[eH];rw[h x (by simp)]
 case makeFunc f a b=>simp only[eH];rw[WT fun x hx=>h x (by simp at hx ⊢;exact .inl hx),WT fun x hx=>h x (by simp at hx ⊢;exact .inr hx)]
 case slice t x lo hi mx=>simp only[eH];rw[h x (by simp),Qv (x:=lo) fun y hy=>h y (by subst hy;simp),Qv (x:=hi) fun y hy=>h y (by subst hy;simp),Qv (x:=mx) fun y hy=>h y (by subst hy;simp)]
 case fieldAddr t x f=>simp only[eH];rw[h x (by simp)]
 case field t x f=>simp only[eH];rw[h x (by simp)]
 case indexAddr t x i=>simp only[eH];rw[h x (by simp),h i (by simp)]
 case index t x i=>simp only[eH];rw[h x (by simp),h i (by simp)]
 case extract x i=>simp only[eH];rw[h x (by simp)]
 case call c=>simp only[eH];rw[WT (l:=c.args.toList) fun x hx=>h x (by simp[Call.operands]at hx ⊢;exact .inr hx)]
theorem aw(h:∀x∈op.operands.toList,bD tm x=bD tm' x):kN T σ tm op=kN T σ tm' op:=by
 cases op<;>simp only[Op.operands]at h<;>try rfl
 case load t x=>simp only[kN];rw[h x (by simp)]
 case lookup t x k ok=>simp only[kN];rw[h x (by simp),h k (by simp)]
theorem ae(h:∀x∈op.operands.toList,bD tm x=bD tm' x):jN T σ tm op=jN T σ tm' op:=by
 cases op<;>simp only[Op.operands]at h<;>try rfl
 case box t x=>simp only[jN];rw[h x (by simp)]
 case store t x y=>simp only[jN];rw[h x (by simp),h y (by simp)]
 case buildSlice t n ps=>simp only[jN];rw[je (by simpa using h)]
 case makeSlice t x y=>simp only[jN];rw[h x (by simp),h y (by simp)]
 case makeMap t r=>cases r<;>rfl
 case mapUpdate t x y z=>simp only[jN];rw[h x (by simp),h y (by simp),h z (by simp)]
 case insert t x y z=>simp only[jN];rw[h x (by simp),h y (by simp),h z (by simp)]
 case mapEntry t x y=>simp only[jN];rw[h x (by simp),h y (by simp)]
 case entryStore t x y z=>simp only[jN];rw[h x (by simp),h y (by simp),h z (by simp)]
 case call c=>simp only[jN];rw[WT (l:=c.args.toList) fun x hx=>h x (by simp[Call.operands]at hx ⊢;exact .inr hx)]
theorem Qq(h:∀x∈op.operands.toList,bD tm x=bD tm' x):fQ T tm op=fQ T tm' op:=by
 cases op<;>simp only[Op.operands]at h<;>try rfl
 case call c=>
  simp only[fQ];rw[WT (l:=c.args.toList) fun x hx=>h x (by simp[Call.operands]at hx ⊢;exact .inr hx)];cases hc:c.callee with
  |value f=>simp only[];rw[h f (by simp[Call.operands,hc])]|_=>rfl
theorem Ei(h:∀x∈op.operands.toList,bD tm x=bD tm' x):aV T σ tm op=aV T σ tm' op:=by
 unfold aV;rw[ax h,aw h,ae h]
end
theorem MB{ops:List Oper}{o:Oper}(h:∀t∈CT ops o,tm[t]? = tm'[t]?):(∀x∈o.op.operands.toList,bD tm x=bD tm' x)/\bO ops tm o=bO ops tm' o:=by
 unfold CT at h;unfold bO;cases hg:o.guard with
 |none=>simp only[hg]at h;exact⟨fun x hx=>Qo h hx,rfl⟩|some g=>
  obtain⟨j,want⟩:=g;simp only[hg]at h;cases hd:qO ops j with
  |none=>simp only[hd]at h;exact⟨fun x hx=>Qo h hx,by simp only[hd]⟩|some d=>simp only[hd]at h;refine⟨fun x hx=>Qo (fun t ht=>h t (by simp[ht])) hx,?_⟩;simp only[hd,eR];rw[h d (by simp)]
variable{K:Nat}
variable{k:Nat}
theorem fz_vn(h:Nat.beq k K=false)(b:B)(sz st off n:Nat):fz K b sz (.vl k st off n)=.vl k st off n:=by simp[fz,h]
theorem H7(h:Nat.beq k K=false)(b:B)(sz off n c:Nat):fz K b sz (.sl k off n c)=.sl k off n c:=by simp[fz,h]
theorem H9(h:Nat.beq k K=false)(b:B)(sz st off:Nat):fz K b sz (.ptr k st off)=.ptr k st off:=by simp[fz,h]
theorem H8(K:Nat)(l:List U)(e:TypeId)(sz n:Nat)(h:n*sz<=l.length):fz K (.row l e) sz (.sl K 0 n n)=.isl false (bC sz n l):=by
 have:Nat.beq n n=true:=by simp[beq_eq]
 simp[fz,beq_eq,h]
theorem ZH(K:Nat)(l:List U)(e:TypeId)(sz:Nat):fz K (.row l e) sz (.ptr K 0 0)=.iptr l:=by simp[fz,beq_eq]
theorem CX(K:Nat)(b:B)(sz:Nat)(k:IntKind)(n:Int):fz K b sz (.int k n)=.int k n:=by simp[fz]
theorem FQ(K:Nat)(b:B)(sz:Nat)(x:Bool):fz K b sz (.bool x)=.bool x:=by simp[fz]
theorem Q3(K:Nat)(b:B)(sz:Nat)(x:List UInt8):fz K b sz (.str x)=.str x:=by simp[fz]
theorem QD(K:Nat)(b:B)(sz:Nat):fz K b sz .nils=.nils:=by simp[fz]
theorem V0(K:Nat)(b:B)(sz:Nat):fz K b sz .nilp=.nilp:=by simp[fz]
theorem V2(K:Nat)(b:B)(sz:Nat):fz K b sz .nilm=.nilm:=by simp[fz]
theorem V3(K:Nat)(b:B)(sz:Nat):fz K b sz .nilf=.nilf:=by simp[fz]
theorem QE(K:Nat)(b:B)(sz:Nat):fz K b sz .junk=.junk:=by simp[fz]
theorem CW(K:Nat)(b:B)(sz:Nat)(t:Bool)(l:List (List U)):fz K b sz (.isl t l)=.isl t l:=by simp[fz]
theorem UK(K:Nat)(b:B)(sz:Nat)(k:Nat):fz K b sz (.map k)=.map k:=by simp[fz]
theorem Q4(K:Nat)(b:B)(sz:Nat)(l:List U):fz K b sz (.agg l)=.agg (fF K b sz l):=by simp[fz]
theorem Q2(K:Nat)(b:B)(sz:Nat)(l:List U):fz K b sz (.tup l)=.tup (fF K b sz l):=by simp[fz]
theorem PJ(K:Nat)(b:B)(sz:Nat)(f:Fn)(a c:List U):fz K b sz (.fn f a c)=.fn f (fF K b sz a) (fF K b sz c):=by simp[fz]
theorem D3(K:Nat)(b:B)(sz:Nat):fF K b sz []=[]:=by simp[fF]
theorem wU(K:Nat)(b:B)(sz:Nat)(u:U)(l:List U):fF K b sz (u::l)=fz K b sz u::fF K b sz l:=by simp[fF]
mutual
theorem CY{K:Nat}(b:B)(sz:Nat):(u:U)->aJ K u->fz K b sz u=u
 |.sl k _ _ _,h=>H7 (by simp only[aJ]at h;simp[beq_eq];omega) _ _ _ _ _|.vl k _ _ _,h=>fz_vn (by simp only[aJ]at h;simp[beq_eq];omega) _ _ _ _ _
 |.ptr k _ _,h=>H9 (by simp only[aJ]at h;simp[beq_eq];omega) _ _ _ _|.agg l,h=>by simp only[aJ]at h;rw[Q4,qR b sz l h]
 |.tup l,h=>by simp only[aJ]at h;rw[Q2,qR b sz l h]
 |.fn f a c,h=>by simp only[aJ]at h;rw[PJ,qR b sz a h.1,qR b sz c h.2]
 |.int _ _,_=>CX _ _ _ _ _|.bool _,_=>FQ _ _ _ _
 |.str _,_=>Q3 _ _ _ _|.nils,_=>QD _ _ _
 |.nilp,_=>V0 _ _ _|.nilm,_=>V2 _ _ _
 |.nilf,_=>V3 _ _ _|.nili,_=>by simp[fz]
 |.junk,_=>QE _ _ _|.isl _ _,_=>CW _ _ _ _ _
 |.iptr _,_=>by simp[fz]
 |.map _,_=>UK _ _ _ _
theorem qR{K:Nat}(b:B)(sz:Nat):(l:List U)->aE K l->fF K b sz l=l
 |[],_=>D3 _ _ _|u::l,h=>by simp only[aE]at h;rw[wU,CY b sz u h.1,qR b sz l h.2]
end
variable{x:Cx}
theorem iZ.belB{b:B}(h:iZ x k b):BelB x.σ.nx b:=by
 cases b with
 |row l e=>obtain⟨_,_,_,_,_,e3⟩:=h;exact e3.bel
 |vec l e sz st=>obtain⟨_,_,h3⟩:=h;rcases h3 with⟨rfl,_⟩|⟨_,_,_,_,e3⟩;simp[BelB,aE];exact e3.bel
 |map es cl=>obtain⟨_,es',_,_,e3⟩:=h;intro e he;obtain⟨j,hj,rfl⟩:=List.getElem_of_mem he;obtain⟨v,_,q2,q3,_⟩:=e3.2 j _ (List.getElem?_eq_getElem hj);exact⟨aA.bel _ _ q2,aA.bel _ _ q3⟩
variable{n0:Nat}
variable{σ:Sg}
theorem Gh.same(h':List (Nat×B))(hg:∀k,gt h' k=gt σ.h k):Gh n0 tm σ tm ⟨h',σ.nx⟩:=fun F x tv hx hr hf he=>by
 subst hx;have hmo:Mo x.σ.nx x ⟨x.ρ,⟨h',x.σ.nx⟩,x.s⟩:=⟨fun k _ h2=>⟨h2,fun b hb=>⟨b,by rw[<-hg];exact hb,zF _,fun _=>⟨rfl,fun l e sz st h=>⟨l,h⟩⟩⟩⟩,fun _ _ _ h=>h⟩;refine⟨⟨x.ρ,⟨h',x.σ.nx⟩,x.s⟩,fun m w hf=>bA.refl hf,rfl,⟨fun k b hb=>?_,fun k k' b b' i hb hb'=>?_,hr.bd⟩,fun i b J=>?_,hmo.ke.E he.bel he,fun u v hb hr=>hmo.ke u v (aA.bel u v hr) hr⟩;have hb':gt x.σ.h k=some b:=by rw[<-hg];exact hb
 obtain⟨h1,h2⟩:=hr.ok k b hb';exact⟨h1,h2.mono hmo rfl fun _ _ _ h=>h⟩;exact hr.inj k k' b b' i (by rw[<-hg];exact hb) (by rw[<-hg];exact hb');obtain⟨h1,h2⟩:=hf i b J;exact⟨h1,fun k c hc=>h2 k c (by rw[<-hg];exact hc)⟩
variable{T:Tb}
variable{op:Op}
theorem tw{q:FuncId×List U}(h:fQ T tm op=some q):aV T σ tm op=none:=by
 cases op with
 |call c=>
  simp only[fQ]at h;cases hc:c.callee with
  |value f=>simp[aV,eH,kN,jN,hc]|_=>simp[hc]at h
 |_=>simp[fQ]at h
theorem Gh.cutG{n1:Nat}(h1:n0<=n1)(h2:n1<=σ.nx)(hb:aE n1 tm)(hh:∀k b,gt (Vx.cut n1 σ.h) k=some b->BelB n1 b):Gh n0 tm σ tm ⟨Vx.cut n1 σ.h,n1⟩:=fun F x tv hx hr hf he=>by
 subst hx;have hmo:Mo n1 x ⟨x.ρ,⟨Vx.cut n1 x.σ.h,n1⟩,x.s⟩:=by refine⟨fun k hk _=>⟨hk,fun b hb=>?_⟩,fun _ _ _ h=>h⟩;simp only[Q1,hk,if_true]at hb;exact⟨b,hb,zF _,fun _=>⟨rfl,fun l e sz st h=>⟨l,h⟩⟩⟩
 have sub:∀{k b},gt (Vx.cut n1 x.σ.h) k=some b->k<n1/\gt x.σ.h k=some b:=fun{k b} hg=>by simp only[Q1]at hg;split at hg;exact⟨by assumption,hg⟩;cases hg
 refine⟨⟨x.ρ,⟨Vx.cut n1 x.σ.h,n1⟩,x.s⟩,fun m w hf=>bA.refl hf,rfl,⟨fun k b hg=>?_,fun k k' b b' i g1 g2=>hr.inj k k' b b' i (sub g1).2 (sub g2).2,hr.bd⟩,fun i b J=>?_,hmo.ke.E hb he,hmo.ke.le h1⟩;exact⟨(sub hg).1,(hr.ok k b (sub hg).2).2.monoB (hh k b hg) hmo rfl fun _ _ _ h=>h⟩;exact⟨(hf i b J).1,fun k c hc=>(hf i b J).2 k c (sub hc).2⟩
theorem xf{k:Nat}(sz:Nat):∀(n:Nat)(l:List U),aE k l->fW k (bC sz n l)
 |0,l,_=>by simp[bC,fW]
 |n+1,l,h=>by simp only[bC,fW];exact⟨(sF k _).2 fun u hu=>(sF k _).1 h u (List.mem_of_mem_take hu),xf sz n _ ((sF k _).2 fun u hu=>(sF k _).1 h u (List.mem_of_mem_drop hu))⟩
def mO(P:Program)(T:Tb)(tm:List U)(op:Op)(u:U):Prop :=
 (∃f args,fQ T tm op=some (f,args)/\∀s,aO P f args s (fun u' σ=>u'=u/\σ=s))\/ (∃n sz cs e,(∀ σ,aV T σ tm op=some (.sl σ.nx 0 n n,newU σ (.row cs e)))/\n*sz<=cs.length/\(∀m,(∀x∈op.operands.toList,∀u',bD tm x=some u'->aJ m u')->aE m cs)/\u=.isl false (bC sz n cs))
theorem Gh.quiet{n sz:Nat}{cs:List U}{e:TypeId}{d:Option Tmp}(h0:n0<=σ.nx)(hb:aE σ.nx tm)(hs:∀k b,gt σ.h k=some b->k<σ.nx/\BelB σ.nx b)(hl:n*sz<=cs.length)(hcs:aE σ.nx cs):Gh n0 (cQ tm d (.sl σ.nx 0 n n)) (newU σ (.row cs e)) (cQ tm d (.isl false (bC sz n cs))) σ:=by
 have e0:gt (newU σ (.row cs e)).h σ.nx=some (.row cs e):=by simp[newU,aK]
 have et:fF σ.nx (.row cs e) sz (cQ tm d (.sl σ.nx 0 n n))=cQ tm d (.isl false (bC sz n cs)):=by
  rcases d with _|t;simp only[cQ];exact qR _ _ _ hb;simp only[cQ];have key:∀(l:List U)(t:Nat),aE σ.nx l->fF σ.nx (.row cs e) sz (l.set t (.sl σ.nx 0 n n))=l.set t (.isl false (bC sz n cs)):=by
   intro l;induction l with
   |nil=>intro t _;simp[fF]|cons u l ih=>
    intro t h;simp only[aE]at h;cases t with
    |zero=>simp only[List.set_cons_zero,wU,qR _ _ l h.2,H8 σ.nx cs e sz n hl]|succ t=>simp only[List.set_cons_succ,wU,CY _ _ u h.1,ih t h.2]
  exact key tm t hb
 have hbt:aE σ.nx (cQ tm d (.isl false (bC sz n cs))):=by
  rcases d with _|t;simpa only[cQ]using hb;simp only[cQ];have key:∀(l:List U)(t:Nat),aE σ.nx l->aE σ.nx (l.set t (.isl false (bC sz n cs))):=by
   intro l;induction l with
   |nil=>intro t _;simp[aE]|cons u l ih=>
    intro t h;simp only[aE]at h;cases t with
    |zero=>simp only[List.set_cons_zero,aE];exact⟨by simp only[aJ];exact xf sz n cs hcs,h.2⟩|succ t=>simp only[List.set_cons_succ,aE];exact⟨h.1,ih t h.2⟩
  exact key tm t hb
 have eg:∀k,gt (Vx.cut σ.nx (fzH σ.nx (.row cs e) sz (newU σ (.row cs e)).h)) k=gt σ.h k:=fun k=>by
  rw[Q1];by_cases hk:k<σ.nx;rw[if_pos hk,wO,if_neg (by omega)];have:gt (newU σ (.row cs e)).h k=gt σ.h k:=by simp only[newU,aK];rw[if_neg (by omega)]
  rw[this];rcases hg:gt σ.h k with _|b;rfl;have hb:=(hs k b hg).2;simp only[zM,zA];cases b with
  |row l e=>simp only[fzB];rw[qR _ _ _ hb]|vec l e s st=>simp only[fzB];rw[qR _ _ _ hb]
  |map es cl=>
   simp only[fzB];congr 1;have:∀q∈es,({ q with val:=fz σ.nx (.row cs e) sz q.val }:_)=q:=fun q hq=>by rw[CY _ _ _ (hb q hq).2]
   exact(List.map_congr_left this).trans (List.map_id _)
  rw[if_neg hk];rcases hg:gt σ.h k with _|b;rfl;exact absurd (hs k b hg).1 hk
 refine(Gh.freeze (n0:=n0) sz e0 (by simp)).trans ?_;rw[et];refine(Gh.cutG (n0:=n0) (n1:=σ.nx) h0 (by simp[newU]) hbt ?_).trans ?_;intro k b hg;rw[eg]at hg;exact(hs k b hg).2;exact Gh.same (σ:=⟨Vx.cut σ.nx (fzH σ.nx (.row cs e) sz (newU σ (.row cs e)).h),σ.nx⟩) σ.h fun k=>(eg k).symm
variable{P:Program}
variable{u:U}
theorem mO.noop(h:mO P T tm op u)(σ:Sg):aV T σ tm op≠some (u,σ):=fun hc=>by
 rcases h with⟨f,args,h,_⟩|⟨n,sz,cs,e,h,_⟩;rw[tw h]at hc;cases hc;rw[h σ]at hc;simp only[zA,zB]at hc;have:=congrArg Sg.nx hc.2;simp only[newU]at this;omega
theorem mO.congr(h:∀x∈op.operands.toList,bD tm x=bD tm' x)(hf:mO P T tm' op u):mO P T tm op u:=by
 rcases hf with⟨f,args,h1,h2⟩|⟨n,sz,cs,e,h1,h2,h3,h4⟩;exact .inl ⟨f,args,(Qq h).trans h1,h2⟩;exact .inr ⟨n,sz,cs,e,fun σ=>(Ei h).trans (h1 σ),h2,fun m hm=>h3 m fun x hx u' hu=>hm x hx u' ((h x hx).trans hu),h4⟩
theorem mO.nd(h:mO P T tm op u):∀c,op≠.defer c:=by
 rcases h with⟨f,args,h1,_⟩|⟨n,sz,cs,e,h1,_⟩;exact Eb h1;exact FJ (h1 ⟨[],0⟩)
variable{F:Nat->i5->Prop}
theorem St.free(hT:eZ P T){tv:List Value}{m:Nm}{w:World}{a:Act}(st:St F x tm tv m w a)(o:Oper)(h:mO P T tm o.op u){next:Act->World->Prop}{Q:Exit->Act->World->Prop}
  (hn:∀y tv' aF w₁ aS,y.σ=x.σ->St F y (cQ tm o.dst u) tv' aF w₁ aS->bA m x.s w aF y.s w₁->Ke x.σ.nx x y->x.σ.nx<=y.σ.nx->aS.defers=a.defers->next aS w₁):o.wp P a w next Q:=by
 rcases h with⟨f,args,h1,h2⟩|⟨n,sz,cs,e,h1,h2,h3,rfl⟩;refine st.call hT o h1 (h2 x.σ) fun y u' tv' aF w₁ aS hR st' hadv' hke' hnx' hdf'=>?_
 obtain⟨rfl,Th⟩:=hR;exact hn y tv' aF w₁ aS Th st' hadv' hke' hnx' hdf';refine st.op hT o (h1 x.σ) fun y tv' aF w₁ aS e1 st' hadv' hke' hnx' hdf'=>?_;obtain⟨z,g1,g2,g3,g4,g5,g6⟩:=Gh.quiet (n0:=x.σ.nx) (σ:=x.σ) (d:=o.dst) (e:=e) (zF _) st.e.bel (fun k b hg=>⟨(st.h.ok k b hg).1,(st.h.ok k b hg).2.belB⟩) h2 (h3 _ fun xo _ u' hu=>by obtain⟨v,_,hr⟩:=dP st.e hu;exact aA.bel u' v hr) F y tv' e1 st'.h st'.fr st'.e;have hadv2:=g1 aF w₁ st'.fits;exact hn z tv' aF w₁ aS g2 ⟨g3,g4,g5,hadv2.fits,st'.act.ext hadv2.agree hadv2.nx⟩ (hadv'.trans hadv2) (hke'.trans g6) (by rw[g2];exact zF _) hdf'
theorem St.opfz(hT:eZ P T){tv:List Value}{m:Nm}{w:World}{a:Act}(st:St F x tm tv m w a)(o:Oper){u1:U}{s1 s':Sg}{d:Nat}(hop:aV T x.σ tm o.op=some (u1,s1))(hd:o.dst=some d)(hdl:d<tm.length)
  (hg:Gh s1.nx [u1] s1 [u] s') (hn:s1.nx<=s'.nx) {next:Act->World->Prop} {Q:Exit->Act->World->Prop}
  (hk:∀y tv' aF w₁ aS,y.σ=s'->St F y (cQ tm o.dst u) tv' aF w₁ aS->bA m x.s w aF y.s w₁->Ke x.σ.nx x y->x.σ.nx<=y.σ.nx->aS.defers=a.defers->next aS w₁):o.wp P a w next Q:=by
 refine st.op hT o hop fun y tv' aF w₁ aS e1 st' hadv' hke' hnx' hdf'=>?_;have he:=st'.e;rw[hd]at he hk;simp only[cQ]at he hk;obtain⟨v1,hv1,hr1⟩:=he.get (List.getElem?_set_self (by simpa using hdl));obtain⟨z,g1,g2,g3,g4,g5,g6⟩:=hg F y [v1] e1 st'.h st'.fr (aQ.cons hr1 (aQ.nil y));have hadv2:=g1 aF w₁ st'.fits;obtain⟨n_,_,Sj,hr2,_⟩:=g5.inv;cases Sj;have hez:aQ z (tm.set d u) tv':=by refine⟨(wS z _ _).2 fun i u' hu'=>?_,by have:=he.2;simpa using this⟩;by_cases hi:d=i;subst hi;rw[List.getElem?_set_self (by simpa using hdl)]at hu';cases hu';exact⟨v1,hv1,hr2⟩;rw[List.getElem?_set_ne hi]at hu';obtain⟨v,hv,hr⟩:=he.get (i:=i) (u:=u') (by rw[List.getElem?_set_ne hi];exact hu');refine⟨v,hv,g6 u' v ?_ hr⟩;have hb:=(sF y.σ.nx _).1 he.bel u' (by rw[List.mem_iff_getElem?];exact⟨i,by rw[List.getElem?_set_ne hi];exact hu'⟩);rw[e1]at hb;exact hb
 exact hk z tv' aF w₁ aS g2 ⟨g3,g4,hez,hadv2.fits,st'.act.ext hadv2.agree hadv2.nx⟩ (hadv'.trans hadv2) (hke'.trans (g6.le (by rw[<-e1];exact hnx'))) (by rw[g2];rw[e1]at hnx';omega) hdf'
structure cT where
 tm:List U
 o:Oper
 u:U
 act:Bool
 mv:Bool
 s:Sg
 s':Sg
def Good(P:Program)(T:Tb)(ops:List Oper)(r:cT):Prop :=
 (bO ops r.tm r.o=some false/\r.u=.tup []/\r.act=false/\r.s'=r.s)\/ (bO ops r.tm r.o=some true/\aV T r.s r.tm r.o.op=some (r.u,r.s')/\(r.act=false->r.s'=r.s))\/ (bO ops r.tm r.o=some true/\r.act=true/\∃f args,fQ T r.tm r.o.op=some (f,args)/\aO P f args r.s (fun u σ=>u=r.u/\σ=r.s'))\/ (bO ops r.tm r.o=some true/\r.act=false/\r.s'=r.s/\mO P T r.tm r.o.op r.u)\/ (r.act=false/\r.mv=true/\r.s'=r.s)\/ (bO ops r.tm r.o=some true/\r.act=true/\∃u1 s1 d,aV T r.s r.tm r.o.op=some (u1,s1)/\r.o.dst=some d/\d<r.tm.length/\Gh s1.nx [u1] s1 [r.u] r.s'/\s1.nx<=r.s'.nx)
variable{r:cT}
theorem Good.quiet{ops:List Oper}(h:Good P T ops r)(ha:r.act=false):r.s'=r.s:=by
 rcases h with⟨_,_,_,h⟩|⟨_,_,h⟩|⟨_,h,_⟩|⟨_,_,h,_⟩|⟨_,_,h⟩|⟨_,h,_⟩;exact h;exact h ha;rw[ha]at h;cases h;exact h;exact h;rw[ha]at h;cases h
def fK(rs:List cT)(σ':Sg)(p:Nat):Sg:=match rs[p]? with
 |some r=>r.s|none=>σ'
def oE(rs:List cT)(tm':List U)(p:Nat):List U:=match rs[p]? with
 |some r=>r.tm|none=>tm'
structure Jm(P:Program)(T:Tb)(ops:List Oper)(tm₀:List U)(vM:Sg)(rs:List cT)(tm':List U)(σ':Sg):Prop where
 len:rs.length=ops.length
 s0:fK rs σ' 0=vM
 t0:oE rs tm' 0=tm₀
 all:∀(i:Nat)(r:cT),rs[i]? = some r->ops[i]? = some r.o/\Good P T ops r/\fK rs σ' (i+1)=r.s'/\oE rs tm' (i+1)=cQ r.tm r.o.dst r.u
structure Uq(T:Tb)(ops:List Oper)(rs:List cT):Prop where
 acts:∀(i k:Nat)(r q:cT),rs[i]? = some r->rs[k]? = some q->r.act=true->q.act=true->k<i->Pre ops i k
 lo:∀(i k:Nat)(r q:cT),rs[i]? = some r->rs[k]? = some q->r.act=false->bO ops r.tm r.o=some true->aV T r.s r.tm r.o.op=some (r.u,r.s')->q.act=true->k<i->Pre ops i k\/q.s=r.s\/aV T q.s r.tm r.o.op=some (r.u,q.s)
 hi:∀(i k:Nat)(r q:cT),rs[i]? = some r->rs[k]? = some q->r.act=false->bO ops r.tm r.o=some true->aV T r.s r.tm r.o.op=some (r.u,r.s')->q.act=true->i<k->Pre ops k i\/q.s'=r.s\/aV T q.s' r.tm r.o.op=some (r.u,q.s')
structure CS(tm₀:List U)(rs:List cT)(L:Nat->Prop)(tm:List U):Prop where
 len:tm.length=tm₀.length
 yes:∀(k:Nat)(r:cT)(d:Nat),rs[k]? = some r->r.o.dst=some d->d<tm₀.length->L k->tm[d]? = some r.u
 no:∀(k:Nat)(r:cT)(d:Nat),rs[k]? = some r->r.o.dst=some d->¬ L k->tm[d]? = tm₀[d]?
 other:∀(t:Nat),(∀(k:Nat)(r:cT),rs[k]? = some r->r.o.dst≠some t)->tm[t]? = tm₀[t]?
section
variable{P:Program}{T:Tb}(hT:eZ P T)(ops:Array Oper){tm₀:List U}{vM:Sg}{rs:List cT}{tm':List U}{σ':Sg}
 (htr:Jm P T ops.toList tm₀ vM rs tm' σ') (hst:KX ops.toList=true)
include htr hst
omit hst in
theorem JY{i:Nat}{o:Oper}(ho:ops.toList[i]? = some o):∃r,rs[i]? = some r/\r.o=o:=by
 have hi:i<rs.length:=by rw[htr.len];exact(zG.1 ho).1
 have hr:rs[i]? = some rs[i]:=by simp[hi]
 refine⟨_,hr,?_⟩;have:=(htr.all i _ hr).1;rw[ho]at this;exact(Option.some.inj this).symm
variable{i:Nat}
theorem qg{q:cT}(hr:rs[i]? = some r)(hq:rs[k]? = some q)(hik:i≠k){d:Tmp}(hd:q.o.dst=some d):r.o.dst≠some d :=
 (Wv hst (htr.all i r hr).1 (htr.all k q hq).1 hik hd).1
theorem qx{L:Nat->Prop}(h:CS tm₀ rs L tm)(hr:rs[i]? = some r):CS tm₀ rs (fun k=>L k\/k=i) (cQ tm r.o.dst r.u):=by
 cases hd:r.o.dst with
 |none=>simp only[cQ];refine⟨h.len,fun k q d hq hqd hlt hL=>?_,fun k q d hq hqd hL=>h.no k q d hq hqd fun x=>hL (.inl x),h.other⟩;rcases hL with hL |rfl;exact h.yes k q d hq hqd hlt hL;rw[hr]at hq;cases hq;rw[hd]at hqd;cases hqd
 |some O9=>
  simp only[cQ];refine⟨by simp[h.len],fun k q d hq hqd hlt hL=>?_,fun k q d hq hqd hL=>?_,fun t ht=>?_⟩;by_cases hki:k=i;subst hki;rw[hr]at hq;cases hq;rw[hd]at hqd;cases hqd;rw[List.getElem?_set_self (by rw[h.len];exact hlt)];have hne:O9≠d:=fun e=>by have:=qg ops htr hst hr hq (fun x=>hki x.symm) hqd;exact this (by rw[hd,e])
  rw[List.getElem?_set_ne hne];rcases hL with hL |hL;exact h.yes k q d hq hqd hlt hL;exact absurd hL hki;have hki:k≠i:=fun e=>hL (.inr e)
  have hne:O9≠d:=fun e=>by have:=qg ops htr hst hr hq (fun x=>hki x.symm) hqd;exact this (by rw[hd,e])
  rw[List.getElem?_set_ne hne];exact h.no k q d hq hqd fun x=>hL (.inl x);have hne:O9≠t:=fun e=>ht i r hr (by rw[hd,e]);rw[List.getElem?_set_ne hne];exact h.other t ht
omit htr hst in
theorem wq:CS tm₀ rs (fun _=>False) tm₀:=⟨rfl,fun _ _ _ _ _ _ h=>h.elim,fun _ _ _ _ _ _=>rfl,fun _ _=>rfl⟩
theorem Ol(p:Nat)(hp:p<=rs.length):CS tm₀ rs (fun k=>k<p) (oE rs tm' p):=by
 induction p with
 |zero=>rw[htr.t0];have:=wq (rs:=rs) (tm₀:=tm₀);refine⟨this.len,fun k r d _ _ _ hL=>by omega,fun k r d h1 h2 _=>this.no k r d h1 h2 (fun x=>x),this.other⟩|succ p ih=>
  have hr:rs[p]? = some rs[p]:=by simp[show p<rs.length by omega]
  have h5:=(htr.all p _ hr).2.2.2;have ih':=ih (by omega);have e1:oE rs tm' p=rs[p].tm:=by simp[oE,hr]
  rw[e1]at ih';have:=qx ops htr hst ih' hr;rw[h5];refine⟨this.len,fun k q d a b c hL=>this.yes k q d a b c (by omega),fun k q d a b hL=>this.no k q d a b (by omega),this.other⟩
omit htr hst in
theorem I'{L:Nat->Prop}{a b:List U}(ha:CS tm₀ rs L a)(hb:CS tm₀ rs L b):a=b:=by
 apply List.ext_getElem?;intro t;by_cases ht:∀(k:Nat)(r:cT),rs[k]? = some r->r.o.dst≠some t;rw[ha.other t ht,hb.other t ht];have:∃(k:Nat)(r:cT),rs[k]? = some r/\r.o.dst=some t:=by apply Classical.byContradiction;intro hn;exact ht fun k r hr hd=>hn ⟨k,r,hr,hd⟩
 obtain⟨k,r,hr,hd⟩:=this;by_cases hL:L k;by_cases hlt:t<tm₀.length;rw[ha.yes k r t hr hd hlt hL,hb.yes k r t hr hd hlt hL];rw[List.getElem?_eq_none (by rw[ha.len];omega),List.getElem?_eq_none (by rw[hb.len];omega)];rw[ha.no k r t hr hd hL,hb.no k r t hr hd hL]
theorem ar{L:Nat->Prop}(hL:Closed ops.toList L)(h:CS tm₀ rs L tm)(hr:rs[i]? = some r)(hi:¬ L i)
  (hrd:∀o,ops.toList[i]? = some o->∀e∈o.after.toList,Region.binds .any e=true->L e.on):∀t∈CT ops.toList r.o,tm[t]? = r.tm[t]?:=by
 have hil:i<rs.length:=(zG.1 hr).1;have hat:=Ol ops htr hst i (Nat.le_of_lt hil);have e1:oE rs tm' i=r.tm:=by simp[oE,hr]
 rw[e1]at hat;intro(t:Nat) ht;by_cases hno:∀(k:Nat)(q:cT),rs[k]? = some q->q.o.dst≠some t;rw[h.other t hno,hat.other t hno];have:∃(k:Nat)(q:cT),rs[k]? = some q/\q.o.dst=some t:=by apply Classical.byContradiction;intro hn;exact hno fun k r hr hd=>hn ⟨k,r,hr,hd⟩
 obtain⟨k,q,hq,hd⟩:=this;have ho:=(htr.all i r hr).1;have hk:=(htr.all k q hq).1;by_cases hik:i=k;subst hik;rw[h.no i q t hq hd hi,hat.no i q t hq hd (by omega)];rcases(Wv hst ho hk hik hd).2 ht with hp |hp;have hLk:=Eg hst hL hrd hp;have hlt:=Vc hst i k hp;by_cases htl:t<tm₀.length;rw[h.yes k q t hq hd htl hLk,hat.yes k q t hq hd htl hlt];rw[List.getElem?_eq_none (by rw[h.len];omega),List.getElem?_eq_none (by rw[hat.len];omega)];have hnk:¬ L k:=fun x=>hi (Qg hst hL k i x hp)
 have hlt:=Vc hst k i hp;rw[h.no k q t hq hd hnk,hat.no k q t hq hd (by omega)]
omit hst in
theorem QJ{p q:Nat}(hpq:p<=q)(hq:q<=rs.length)(hno : ∀(e:Nat)(r:cT),p<=e->e<q->rs[e]? = some r->r.act=false): fK rs σ' p=fK rs σ' q:=by
  induction q with
  | zero => have : p = 0 := by omega
            rw[this]
  |succ q ih=>
    rcases Nat.lt_or_ge q p with h |h;have:p=q+1:=by omega
    rw[this];rw[ih h (by omega) fun e r h1 h2 h3=> hno e r h1 (by omega) h3];have hr:rs[q]? = some rs[q]:=by simp[show q<rs.length by omega]
    obtain⟨_,g2,g3,_⟩:=htr.all q _ hr;rw[g3,g2.quiet (hno q _ h (zN _) hr)];simp[fK,hr]
omit htr hst in
theorem lu{i p:Nat}(h:∃(e:Nat)(q:cT),i<e/\e<p/\rs[e]? = some q/\q.act=true):∃(e:Nat)(q:cT),i<e/\e<p/\rs[e]? = some q/\q.act=true/\∀(e':Nat)(q':cT),e<e'->e'<p->rs[e']? = some q'->q'.act=false:=by
 obtain⟨e,q,g1,g2,g3,g5⟩:=h;have:∀(n e:Nat)(q:cT),p-e=n->i<e->e<p->rs[e]? = some q->q.act=true->∃(e:Nat)(q:cT),i<e/\e<p/\rs[e]? = some q/\q.act=true/\∀(e':Nat)(q':cT),e<e'->e'<p->rs[e']? = some q'->q'.act=false:=by
  intro n;induction n using Nat.strongRecOn with
  |_ n ihn=>intro e q hne g1 g2 g3 g5;by_cases hmore:∃(e':Nat)(q':cT),e<e'/\e'<p/\rs[e']? = some q'/\q'.act=true;obtain⟨e',q',k1,k2,k3,k4⟩:=hmore;exact ihn (p-e') (by omega) e' q' rfl (by omega) k2 k3 k4;exact⟨e,q,g1,g2,g3,g5,fun e' q' k1 k2 k3=>by cases hb:q'.act with |false=>rfl |true=>exact absurd ⟨e',q',k1,k2,k3,hb⟩ hmore⟩
 exact this _ e q rfl g1 g2 g3 g5
omit htr hst in
theorem pw{i p:Nat}(h:∃(e:Nat)(q:cT),p<=e/\e<i/\rs[e]? = some q/\q.act=true):∃(e:Nat)(q:cT),p<=e/\e<i/\rs[e]? = some q/\q.act=true/\∀(e':Nat)(q':cT),p<=e'->e'<e->rs[e']? = some q'->q'.act=false:=by
 obtain⟨e,q,g1,g2,g3,g5⟩:=h;have:∀(e:Nat)(q:cT),p<=e->e<i->rs[e]? = some q->q.act=true->∃(e:Nat)(q:cT),p<=e/\e<i/\rs[e]? = some q/\q.act=true/\∀(e':Nat)(q':cT),p<=e'->e'<e->rs[e']? = some q'->q'.act=false:=by
  intro e;induction e using Nat.strongRecOn with
  |_ e ihn=>intro q g1 g2 g3 g5;by_cases hmore:∃(e':Nat)(q':cT),p<=e'/\e'<e/\rs[e']? = some q'/\q'.act=true;obtain⟨e',q',k1,k2,k3,k4⟩:=hmore;exact ihn e' k2 q' k1 (by omega) k3 k4;exact⟨e,q,g1,g2,g3,g5,fun e' q' k1 k2 k3=>by cases hb:q'.act with |false=>rfl |true=>exact absurd ⟨e',q',k1,k2,k3,hb⟩ hmore⟩
 exact this e q g1 g2 g3 g5
variable(hch:Uq T ops.toList rs)
include hT hch
theorem ue{ro:Option Nat}{x0:Cx}{m0:Nm}{w0:World}{E:Exit->Act->World->Prop}{df:List Deferred}(hQ:∀y tv m w a,y.σ=σ'->St F y tm' tv m w a->bA m0 x0.s w0 m y.s w->Ke n0 x0 y->n0<=y.σ.nx->a.defers=df->E .normal a w):
  ∀(fuel:Nat)(listed:Array Bool)(a:Act)(w:World)(m:Nm)(p:Nat)(tm:List U)(tv:List Value)(x:Cx),listed.size=ops.size->listed.toList.count false=fuel->
   Closed ops.toList (fun k=>listed.getD k false=true)->(∀(e:Nat)(r:cT),rs[e]? = some r->r.act=false->r.mv=true->listed.getD e false=true)->CS tm₀ rs (fun k=>listed.getD k false=true) tm->p<=rs.length->
   (∀(e:Nat)(r:cT),rs[e]? = some r->r.act=true->(listed.getD e false=true↔e<p))->x.σ=fK rs σ' p->St F x tm tv m w a->bA m0 x0.s w0 m x.s w->Ke n0 x0 x->n0<=x.σ.nx->a.defers=df->
   wpAnyIn (qI ro) 0 P .any ops E fuel listed a w:=by
 have hn:rs.length=ops.size:=by simpa using htr.len
 intro fuel;induction fuel with
 |zero=>
  intro listed a w m p tm tv x hsz hcnt hcl hqa hsees hp hacts hxσ hstt hadv hke hnx hdf;have hall:∀k,k<ops.size->listed.getD k false=true:=fun k hk=>by
   have hk':k<listed.size:=by omega
   have:listed[k]≠false:=fun hf=>by
    have hm:false∈listed.toList:=by rw[<-hf];simp
    have:=List.count_pos_iff.2 hm;omega
   have this':listed[k]=true:=by simpa using this
   simp[Array.getD,hk',this']
  have hready:Region.ready .any ops listed=[]:=by
   apply List.filter_eq_nil_iff.2;intro k hk;simp only[List.mem_range]at hk;have hk':k<listed.size:=by omega
   have:=hall k hk;simp[Array.getD,hk']at this;simp[Array.getD,hk',this]
  refine⟨hready,?_⟩;have es:fK rs σ' p=σ':=by rw[QJ ops htr hp (zF _) fun e r h1 h2 h3=>by rcases hb:r.act with _|_;rfl;have:=(hacts e r h3 hb).1 (hall e (by omega));omega];simp[fK]
  have et:tm=tm':=by
   have h1:=Ol ops htr hst rs.length (zF _);have e1:oE rs tm' rs.length=tm':=by simp[oE]
   rw[e1]at h1;refine I' (L:=fun k=>k<rs.length) ⟨hsees.len,fun k r d g1 g2 g3 g4=>hsees.yes k r d g1 g2 g3 (hall k (by omega)),fun k r d g1 g2 g3=>?_,hsees.other⟩ h1;have:=(zG.1 g1).1;exact absurd this g3
  rw[et]at hstt;exact hQ x tv m w a (hxσ.trans es) hstt hadv hke hnx hdf
 |succ fuel ih=>
  intro listed a w m p tm tv x hsz hcnt hcl hqa hsees hp hacts hxσ hstt hadv hke hnx hdf;have mem_ready:∀i,i∈Region.ready .any ops listed↔i<ops.size/\listed.getD i true=false/\∃o,ops[i]? = some o/\∀e∈o.after.toList,Region.binds .any e=true->listed.getD e.on false=true:=by
   intro i;unfold Region.ready;rw[List.mem_filter,List.mem_range];refine and_congr_right fun hi=>?_;have ho:ops[i]? = some ops[i]:=by simp[hi]
   simp only[ho,zM,Option.getD_some,Bool.and_eq_true,Bool.not_eq_true',Array.all_eq_true_iff_forall_mem,Bool.or_eq_true];refine and_congr_right fun _=>?_;constructor;intro h;refine⟨_,rfl,fun e he hb=>?_⟩;rcases h e (by simpa using he)with h1 |h1
   simp[hb]at h1;exact h1;rintro⟨o,ho',h⟩ e he;cases ho';rcases hb:Region.binds .any e with _|_;exact .inl rfl;exact .inr (h e (by simpa using he) hb)
  refine⟨fun hnil=>?_,fun i hi=>?_⟩;exfalso;have hex:∃i,i<ops.size/\listed.getD i true=false:=by
   have hpos:0<listed.toList.count false:=by omega
   obtain⟨i,hi,e⟩:=List.mem_iff_getElem.1 (List.count_pos_iff.1 hpos);simp at hi;refine⟨i,by omega,?_⟩;simp only[Array.getElem_toList]at e;simp[Array.getD,hi,e]
  have hmin:∀n,n<ops.size->listed.getD n true=false->False:=by
   intro n;induction n using Nat.strongRecOn with
   |_ n ihn=>
    intro Sw Ja;have:n∈Region.ready .any ops listed:=(mem_ready n).2 ⟨Sw,Ja,ops[n],by simp[Sw],fun e he hb=>by
     have hlt:=Kb hst (i:=n) (o:=ops[n]) (by simp[Sw]) e he hb;have hk':e.on<listed.size:=by omega
     cases hv:listed[e.on]with|true=>simp[Array.getD,hk',hv]|false=>exact(ihn e.on hlt (by omega) (by simp[Array.getD,hk',hv])).elim⟩
    rw[hnil]at this;cases this
  obtain⟨i,h1,h2⟩:=hex;exact hmin i h1 h2;obtain⟨hilt,hil,o,ho,hedges⟩:=(mem_ready i).1 hi;have hisz:i<listed.size:=by omega
  have hLi:¬ listed.getD i false=true:=by simp[Array.getD,hisz]at hil ⊢;exact hil
  have hol:ops.toList[i]? = some o:=by simpa using ho
  obtain⟨r,hr,hro⟩:=JY ops htr hol;subst hro;have hrd:∀q,ops.toList[i]? = some q->∀e∈q.after.toList,Region.binds .any e=true->listed.getD e.on false=true:=fun q hq=>by rw[hol]at hq;cases hq;exact hedges
  have hlooks:=ar ops htr hst hcl hsees hr hLi hrd;obtain⟨_,hgood,C3,_⟩:=htr.all i r hr;have hsi:fK rs σ' i=r.s:=by simp[fK,hr]
  have hget:∀k,((listed.setIfInBounds i true).getD k false=true)↔(listed.getD k false=true\/k=i):=fun k=>by by_cases hk:k=i;subst hk;simp[Array.getD,hisz];by_cases hks:k<listed.size;simp[Array.getD,hks,hk,Ne.symm hk];simp[Array.getD,hks,hk]
  have hcl':Closed ops.toList (fun k=>(listed.setIfInBounds i true).getD k false=true):=fun k q hk hq e he hb=>by refine(hget e.on).2 (.inl ?_);rcases(hget k).1 hk with hk |rfl;exact hcl k q hk hq e he hb;exact hrd q hq e he hb
  have hqa':∀(e:Nat)(r:cT),rs[e]? = some r->r.act=false->r.mv=true->(listed.setIfInBounds i true).getD e false=true:=fun e q h1 h2 h3=>(hget e).2 (.inl (hqa e q h1 h2 h3));have hsees':CS tm₀ rs (fun k=>(listed.setIfInBounds i true).getD k false=true) (cQ tm r.o.dst r.u):=by have:=qx ops htr hst hsees hr;exact⟨this.len,fun k q d a b c hL=>this.yes k q d a b c ((hget k).1 hL),fun k q d a b hL=>this.no k q d a b fun x=>hL ((hget k).2 x),this.other⟩
  have hcnt':(listed.setIfInBounds i true).toList.count false=fuel:=by
   have hv:listed[i]=false:=by simpa[Array.getD,hisz]using hil
   rw[Array.toList_setIfInBounds,List.count_set (by simpa using hisz)];have E5:Array.count false listed=fuel+1:=by simpa using hcnt
   simp[hv];omega
  obtain⟨hopc,hwc⟩:=MB hlooks;have stay:r.act=false->∀y tv' aF w₁ aS,y.σ=fK rs σ' p->St F y (cQ tm r.o.dst r.u) tv' aF w₁ aS->bA m0 x0.s w0 aF y.s w₁->Ke n0 x0 y->n0<=y.σ.nx->aS.defers=df->wpAnyIn (qI ro) 0 P .any ops E fuel (listed.setIfInBounds i true) aS w₁:=fun hk y tv' aF w₁ aS h1 h2 h3 h4 h5 h6=>by refine ih _ _ _ aF p _ tv' y (by simpa using hsz) hcnt' hcl' hqa' hsees' hp (fun e q hq hqk=>?_) h1 h2 h3 h4 h5 h6;rw[hget];by_cases hei:e=i;subst hei;rw[hr]at hq;cases hq;rw[hk]at hqk;cases hqk;simp only[hei,or_false];exact hacts e q hq hqk
  have past:r.act=true->fK rs σ' p=r.s/\∀y tv' aF w₁ aS,y.σ=r.s'->St F y (cQ tm r.o.dst r.u) tv' aF w₁ aS->bA m0 x0.s w0 aF y.s w₁->Ke n0 x0 y->n0<=y.σ.nx->aS.defers=df->wpAnyIn (qI ro) 0 P .any ops E fuel (listed.setIfInBounds i true) aS w₁:=fun hk=>by
   have hpi:p<=i:=by rcases Nat.lt_or_ge i p with h |h;exact absurd ((hacts i r hr hk).2 h) hLi;exact h
   have hil':i<rs.length:=(zG.1 hr).1;have hbetween:∀(e:Nat)(q:cT),p<=e->e<i->rs[e]? = some q->q.act=false:=fun e q h1 h2 h3=>by rcases hb:q.act with _|_;rfl;have:=Eg hst hcl hrd (hch.acts i e r q hr h3 hk hb h2);have:=(hacts e q h3 hb).1 this;omega
   refine⟨(QJ ops htr hpi (by omega) hbetween).trans hsi,fun y tv' aF w₁ aS h1 h2 h3 h4 h5 h6=>?_⟩;refine ih _ _ _ aF (i+1) _ tv' y (by simpa using hsz) hcnt' hcl' hqa' hsees' (by omega) (fun e q hq hqk=>?_) (h1.trans C3.symm) h2 h3 h4 h5 h6;rw[hget];by_cases hei:e=i;subst hei;simp;simp only[hei,or_false];constructor;intro hLe;have:=(hacts e q hq hqk).1 hLe;omega;intro hlt;exact Eg hst hcl hrd (hch.acts i e r q hr hq hk hqk (by omega))
  unfold wpOpIn;simp only[ho];rw[Pg (hstt.act m (aG.refl _ _)) ops r.o];rcases hgood with⟨hw,hu,ha,_⟩|⟨hw,hop,hqu⟩|⟨hw,ha,f,args,hcall,hev⟩|⟨hw,ha,_,hfree⟩|⟨ha,hm,_⟩|⟨hw,ha,u1,s1,d,hop,hd,hdl,hgh,hnl⟩;rw[wW hstt.e (hwc.trans hw)];simp only[Bool.false_eq_true,if_false];rw[hu]at stay;exact⟨fun _ _=>trivial,stay ha x _ m w _ hxσ (hstt.skip r.o.dst) hadv hke hnx ((wY _ _ _).trans hdf)⟩;rw[wW hstt.e (hwc.trans hw)];simp only[if_true];cases ha:r.act with
  |true=>
   obtain⟨j7,kW⟩:=past ha;have hop':aV T x.σ tm r.o.op=some (r.u,r.s'):=by rw[hxσ,j7,Ei hopc];exact hop
   exact oM (FJ hop') (hstt.op hT r.o hop' fun y tv' aF w₁ aS e1 st' hadv' hke' hnx' hdf'=>kW y tv' aF w₁ aS e1 st' (hadv.trans hadv') (hke.trans (hke'.le hnx)) (by omega) (hdf'.trans hdf))
  |false=>
   have hss:=hqu ha;have hval:aV T (fK rs σ' p) r.tm r.o.op=some (r.u,fK rs σ' p):=by
    rcases Nat.lt_or_ge i p with hip |hip;by_cases hex:∃(e:Nat)(q:cT),i<e/\e<p/\rs[e]? = some q/\q.act=true;obtain⟨e,q,g1,g2,g3,g5,g6⟩:=lu hex;have es:fK rs σ' (e+1)=fK rs σ' p:=QJ ops htr (by omega) hp fun e' q' k1 k2 k3=>g6 e' q' (by omega) k2 k3
    have eq':fK rs σ' (e+1)=q.s':=(htr.all e q g3).2.2.1;rw[<-es,eq'];rcases hch.hi i e r q hr g3 ha hw hop g5 g1 with k4 |k4 |k4;have hLe:listed.getD e false=true:=(hacts e q g3 g5).2 g2;exact absurd (Qg hst hcl e i hLe k4) hLi;rw[k4,hop,hss];exact k4;have es:fK rs σ' i=fK rs σ' p:=QJ ops htr (by omega) hp fun e q k1 k2 k3=>by
     rcases Nat.lt_or_ge i e with h |h;rcases hb:q.act with _|_;rfl;exact absurd ⟨e,q,h,k2,k3,hb⟩ hex;have:e=i:=by omega
     subst this;rw[hr]at k3;cases k3;exact ha
    rw[<-es,hsi,hop,hss];by_cases hex:∃(e:Nat)(q:cT),p<=e/\e<i/\rs[e]? = some q/\q.act=true;obtain⟨e,q,g1,g2,g3,g5,g6⟩:=pw hex;have es:fK rs σ' p=fK rs σ' e:=QJ ops htr g1 (by have:=(zG.1 g3).1;omega) fun e' q' k1 k2 k3=>g6 e' q' k1 k2 k3;have eq':fK rs σ' e=q.s:=by simp[fK,g3]
    rw[es,eq'];rcases hch.lo i e r q hr g3 ha hw hop g5 g2 with k4 |k4 |k4;have hLe:=Eg hst hcl hrd k4;have:=(hacts e q g3 g5).1 hLe;omega;rw[k4,hop,hss];exact k4;have es:fK rs σ' p=fK rs σ' i:=QJ ops htr hip (by have:=(zG.1 hr).1;omega) fun e q k1 k2 k3=>by rcases hb:q.act with _|_;rfl;exact absurd ⟨e,q,k1,k2,k3,hb⟩ hex
    rw[es,hsi,hop,hss]
   have hop':aV T x.σ tm r.o.op=some (r.u,fK rs σ' p):=by rw[hxσ,Ei hopc];exact hval
   exact oM (FJ hop') (hstt.op hT r.o hop' fun y tv' aF w₁ aS e1 st' hadv' hke' hnx' hdf'=>stay ha y tv' aF w₁ aS e1 st' (hadv.trans hadv') (hke.trans (hke'.le hnx)) (by omega) (hdf'.trans hdf))
  rw[wW hstt.e (hwc.trans hw)];simp only[if_true];obtain⟨j7,kW⟩:=past ha;have hev':aO P f args x.σ (fun u σ=>u=r.u/\σ=r.s'):=by rw[hxσ,j7];exact hev
  refine oM (Eb ((Qq hopc).trans hcall)) (hstt.call hT r.o ((Qq hopc).trans hcall) hev' fun y u tv' aF w₁ aS hR st' hadv' hke' hnx' hdf'=>?_);obtain⟨rfl,Th⟩:=hR;exact kW y tv' aF w₁ aS Th st' (hadv.trans hadv') (hke.trans (hke'.le hnx)) (by omega) (hdf'.trans hdf);rw[wW hstt.e (hwc.trans hw)];simp only[if_true];exact oM (hfree.congr hopc).nd (hstt.free hT r.o (hfree.congr hopc) fun y tv' aF w₁ aS e1 st' hadv' hke' hnx' hdf'=>stay ha y tv' aF w₁ aS (e1.trans hxσ) st' (hadv.trans hadv') (hke.trans (hke'.le hnx)) (by omega) (hdf'.trans hdf));exact absurd (hqa i r hr ha hm) hLi;rw[wW hstt.e (hwc.trans hw)];simp only[if_true];obtain⟨j7,kW⟩:=past ha;have hop':aV T x.σ tm r.o.op=some (u1,s1):=by rw[hxσ,j7,Ei hopc];exact hop
  have hlen:tm.length=r.tm.length:=by
   have h1:=(Ol ops htr hst i (Nat.le_of_lt (zG.1 hr).1)).len;have e1:oE rs tm' i=r.tm:=by simp[oE,hr]
   rw[e1]at h1;rw[hsees.len,h1]
  exact oM (FJ hop') (hstt.opfz hT r.o hop' hd (by rw[hlen];exact hdl) hgh hnl fun y tv' aF w₁ aS e1 st' hadv' hke' hnx' hdf'=>kW y tv' aF w₁ aS e1 st' (hadv.trans hadv') (hke.trans (hke'.le hnx)) (by omega) (hdf'.trans hdf))
end
end Go.Vx
namespace Go.Vx
open Go Go.Rx
def RD(P:Program)(T:Tb)(ops:List Oper):List Oper->List U->Sg->(List cT->List U->Sg->Prop)->Prop
 |[],tm,σ,K=>K [] tm σ|o::r,tm,σ,K=>(bO ops tm o=some true/\∃u,aV T σ tm o.op=some (u,σ)/\RD P T ops r (cQ tm o.dst u) σ (fun rs=>K (⟨tm,o,u,false,false,σ,σ⟩::rs)))\/ (bO ops tm o=some true/\∃u σ',aV T σ tm o.op=some (u,σ')/\RD P T ops r (cQ tm o.dst u) σ' (fun rs=>K (⟨tm,o,u,true,true,σ,σ'⟩::rs)))\/ (bO ops tm o=some true/\∃f args u,fQ T tm o.op=some (f,args)/\aO P f args σ (fun u' σ'=>u'=u/\σ'=σ)/\RD P T ops r (cQ tm o.dst u) σ (fun rs=>K (⟨tm,o,u,true,false,σ,σ⟩::rs)))\/ (bO ops tm o=some true/\∃f args u σ',fQ T tm o.op=some (f,args)/\aO P f args σ (fun u' s'=>u'=u/\s'=σ')/\RD P T ops r (cQ tm o.dst u) σ' (fun rs=>K (⟨tm,o,u,true,true,σ,σ'⟩::rs)))\/ (bO ops tm o=some false/\RD P T ops r (cQ tm o.dst (.tup [])) σ (fun rs=>K (⟨tm,o,.tup [],false,false,σ,σ⟩::rs)))\/ (bO ops tm o=some true/\∃u,mO P T tm o.op u/\RD P T ops r (cQ tm o.dst u) σ (fun rs=>K (⟨tm,o,u,false,false,σ,σ⟩::rs)))\/ (bO ops tm o=some true/\∃u1 s1 d u σ',aV T σ tm o.op=some (u1,s1)/\o.dst=some d/\d<tm.length/\Gh s1.nx [u1] s1 [u] σ'/\s1.nx<=σ'.nx/\RD P T ops r (cQ tm o.dst u) σ' (fun rs=>K (⟨tm,o,u,true,true,σ,σ'⟩::rs)))
theorem F5{P:Program}{T:Tb}{ops:List Oper}:∀(rest:List Oper)(tm:List U)(σ:Sg)(K:List cT->List U->Sg->Prop),RD P T ops rest tm σ K->
  ∃rs tm' σ',K rs tm' σ'/\rs.length=rest.length/\fK rs σ' 0=σ/\oE rs tm' 0=tm/\
   ∀(i:Nat)(r:cT),rs[i]? = some r->rest[i]? = some r.o/\Good P T ops r/\fK rs σ' (i+1)=r.s'/\oE rs tm' (i+1)=cQ r.tm r.o.dst r.u/\(r.mv=false->r.s'=r.s)/\(r.mv=true->r.act=true)
 |[],tm,σ,K,h=>⟨[],tm,σ,h,rfl,rfl,rfl,fun i r hr=>by simp at hr⟩|o::rest,tm,σ,K,h=>by
  have step:∀(u:U)(ac mv:Bool)(cC:Sg),RD P T ops rest (cQ tm o.dst u) cC (fun rs=>K (⟨tm,o,u,ac,mv,σ,cC⟩::rs))->Good P T ops ⟨tm,o,u,ac,mv,σ,cC⟩->(mv=false->cC=σ)->(mv=true->ac=true)->
    ∃rs tm' σ',K rs tm' σ'/\rs.length=(o::rest).length/\fK rs σ' 0=σ/\oE rs tm' 0=tm/\
     ∀(i:Nat)(r:cT),rs[i]? = some r->(o::rest)[i]? = some r.o/\Good P T ops r/\fK rs σ' (i+1)=r.s'/\oE rs tm' (i+1)=cQ r.tm r.o.dst r.u/\(r.mv=false->r.s'=r.s)/\(r.mv=true->r.act=true):=by
   intro u ac mv cC h hg h1 h2;obtain⟨rs,tm',σ',g1,g2,g3,g4,g5⟩:=F5 rest _ _ _ h;refine⟨_,tm',σ',g1,by simp[g2],rfl,rfl,fun i r hr=>?_⟩;cases i with
   |zero=>simp at hr;subst hr;refine⟨rfl,hg,?_,?_,h1,h2⟩;simp only[fK,zH];exact g3;simp only[oE,zH];exact g4|succ i=>simp only[zH]at hr;obtain⟨k1,k2,k3,k4,k5⟩:=g5 i r hr;refine⟨by simpa using k1,k2,?_,?_,k5⟩;simp only[fK,zH];exact k3;simp only[oE,zH];exact k4
  simp only[RD]at h;rcases h with⟨hw,u,h1,h2⟩|⟨hw,u,cC,h1,h2⟩|⟨hw,f,args,u,h1,h2,h3⟩|⟨hw,f,args,u,cC,h1,h2,h3⟩|⟨hw,h1⟩|⟨hw,u,h1,h3⟩|⟨hw,u1,s1,d,u,cC,h1,h2,h3,h4,h5,h6⟩;exact step u false false σ h2 (.inr (.inl ⟨hw,h1,fun _=>rfl⟩)) (fun _=>rfl) (by simp);exact step u true true cC h2 (.inr (.inl ⟨hw,h1,by simp⟩)) (by simp) (by simp);exact step u true false σ h3 (.inr (.inr (.inl ⟨hw,rfl,f,args,h1,h2⟩))) (fun _=>rfl) (by simp);exact step u true true cC h3 (.inr (.inr (.inl ⟨hw,rfl,f,args,h1,h2⟩))) (by simp) (by simp);exact step _ false false σ h1 (.inl ⟨hw,rfl,rfl,rfl⟩) (fun _=>rfl) (by simp);exact step u false false σ h3 (.inr (.inr (.inr (.inl ⟨hw,rfl,rfl,h1⟩)))) (fun _=>rfl) (by simp);exact step u true true cC h6 (.inr (.inr (.inr (.inr (.inr ⟨hw,rfl,u1,s1,d,h1,h2,h3,h4,h5⟩))))) (by simp) (by simp)
section
variable{C:PG}{T:Tb}(hT:eZ C.prog T){n0:Nat}{Q:Exit->List U->Sg->Prop}{tm:List U}{σ:Sg}
include hT
theorem WPU.drawn{id:Nat}{ops:Array Oper}(hst:KX ops.toList=true){rs:List cT}{tm':List U}{σ':Sg}(htr:Jm C.prog T ops.toList tm σ rs tm' σ')(hch:Uq T ops.toList rs)(hmv:∀(i:Nat)(r:cT),rs[i]? = some r->r.mv=true->r.act=true)(hQ:Q .normal tm' σ'):WPU C n0 (.region id ops true) tm σ Q:=fun hn F x tv m w a b0 hx st hG hd ro hro=>by
 refine wpIn_region_any hT.mixed ?_;have hno:∀k,(Array.replicate ops.size false).getD k false=false:=fun k=>by by_cases hk:k<ops.size<;>simp[Array.getD,hk]
 have hdr:=bA.draw (w.drawn+1) st.fits;refine ue (ro:=ro) hT ops htr hst hch (n0:=n0) (F:=F) (x0:=x) (m0:=m) (w0:=w) (df:=a.defers) (fun y tv' m' w' a' h1 h2 h3 h4 h5 h6=>⟨y,tm',tv',m',h1 ▸ hQ,h2,h3,h4,h5,by rw[h6];exact hd.adv st.fits h3⟩) ops.size (Array.replicate ops.size false) a _ m 0 tm tv x (by simp) (by simp) ?_ (fun e r h1 h2 h3=>by have:=hmv e r h1 h3;rw[h2]at this;cases this) ?_ (Nat.zero_le _) ?_ ?_ ?_ ?_ (Ke.refl _ _) (hx ▸ hn) rfl;intro k q hk;rw[hno]at hk;cases hk;have:=wq (rs:=rs) (tm₀:=tm);exact⟨this.len,fun k r d _ _ _ hL=>(by rw[hno]at hL;cases hL),fun k r d g1 g2 _=>this.no k r d g1 g2 (fun x=>x),this.other⟩;intro e r _ _;rw[hno];simp;rw[htr.s0];exact hx;exact⟨st.h,st.fr,st.e,(bA.draw _ st.fits).fits,st.act⟩;exact bA.draw _ st.fits
end
section
variable{K:List U->Sg->Prop}{Q:Exit->List U->Sg->Prop}{tm:List U}{σ:Sg}{i j:Nat}
theorem YT(h:Q .normal tm σ):pS i Q (.exit i) tm σ:=by simp only[pS,if_true];exact h
theorem YS(hij:¬ j=i)(h:Q (.exit j) tm σ):pS i Q (.exit j) tm σ:=by simp only[pS,hij,if_false];exact h
end
variable{C:PG}
variable{T:Tb}
variable{ops:List Oper}
variable{r:List Oper}
variable{o:Oper}
variable{tm:List U}
variable{σ:Sg}
variable{f:FuncId}
variable{args:List U}
theorem RU.call{K:List U->Sg->Prop}{R:U->Sg->Prop}(hw:bO ops tm o=some true)(hc:fQ T tm o.op=some (f,args))(hev:aO C.prog f args σ R)
  (h:∀u σ',R u σ'->RU C T ops r (cQ tm o.dst u) σ' K):RU C T ops (o::r) tm σ K:=.inr (.inl ⟨hw,f,args,R,hc,hev,h⟩)
theorem WPU.loopG{n0:Nat}{Q:Exit->List U->Sg->Prop}{c:Code}(I:Nat->List U->Sg->Prop)(n:Nat)(xZ:I n tm σ)
  (round:∀n tm σ,I n tm σ->WPU C n0 c tm σ (tE (fun tm' σ'=>∃n' tm'' aN,n'<n/\I n' tm'' aN/\n0<=aN.nx/\Gh n0 tm' σ' tm'' aN) Q)):WPU C n0 (.loop c) tm σ Q:=by
 refine WPU.loop I n xZ fun n tm σ hI=>?_;refine WPU.after (round n tm σ hI) ?_;intro e Li cC hn h;cases e with
 |normal=>obtain⟨n',tm'',aN,h1,h2,h3,h4⟩:=h;exact⟨tm'',aN,h3,h4,n',h1,h2⟩
 |_=>exact⟨Li,cC,hn,Gh.refl _ _ _,h⟩
theorem Gh.to{n0 n1:Nat}{tm':List U}{σ':Sg}(mask:List Bool)(ht:CQ mask tm=tm')(hs:(⟨Vx.cut n1 σ.h,n1⟩:Sg)=σ')(h1:n0<=n1)(h2:n1<=σ.nx)(hb:aE n1 tm')(hh:uW n1 σ'.h):Gh n0 tm σ tm' σ':=by
 subst ht;subst hs;exact(Gh.junk n0 mask tm σ).trans (Gh.cut h1 h2 hb hh)
theorem o5{α:Type}{n:Nat}(f:α->List U)(h:∀x,aE n (f x))(l:List α):fW n (l.map f):=by
 rw[QV];intro c hc;obtain⟨x,_,rfl⟩:=List.mem_map.1 hc;exact h x
def RF(P:Program)(T:Tb)(ops rest:List Oper)(tm:List U)(σ:Sg)(fl:List (Bool×Bool))(K:List (Bool×Bool)->List U->Sg->Prop):Prop :=
 RD P T ops rest tm σ (fun rs tm' σ'=>K (fl++rs.map fun r=>(r.act,r.mv)) tm' σ')
theorem RF.eq(P:Program)(T:Tb)(ops:List Oper){f g:List cT->List U->Sg->Prop}(h:f=g){rest:List Oper}(hr:RD P T ops rest tm σ f):RD P T ops rest tm σ g:=h ▸ hr
theorem pu{K:List (Bool×Bool)->List U->Sg->Prop}(fl:List (Bool×Bool))(r:cT)(a b:Bool)(h1:r.act=a)(h2:r.mv=b):
  (fun(rs:List cT) (tm:List U) (σ:Sg)=>K (fl++[(a,b)]++rs.map fun r=>(r.act,r.mv)) tm σ)=(fun rs=>(fun(rs:List cT) tm σ=>K (fl++rs.map fun r=>(r.act,r.mv)) tm σ) (r::rs)):=by
 subst h1;subst h2;funext rs tm σ;simp
variable{u:U}
theorem RF.call{P:Program}{fl:List (Bool×Bool)}{K:List (Bool×Bool)->List U->Sg->Prop}(hw:bO ops tm o=some true)(hc:fQ T tm o.op=some (f,args))(hev:aO P f args σ (fun u' σ'=>u'=u/\σ'=σ))
  (h:RF P T ops r (cQ tm o.dst u) σ (fl++[(true,false)]) K):RF P T ops (o::r) tm σ fl K:=by
 simp only[RF,RD];exact .inr (.inr (.inl ⟨hw,f,args,u,hc,hev,RF.eq P T ops (pu fl _ true false rfl rfl) h⟩))
theorem RU.pcall{K:List U->Sg->Prop}(hw:bO ops tm o=some true)(hc:fQ T tm o.op=some (f,args))(hev:aO C.prog f args σ (fun u' σ'=>u'=u/\σ'=σ))
  (h:RU C T ops r (cQ tm o.dst u) σ K):RU C T ops (o::r) tm σ K:=RU.call hw hc hev (fun u' σ' ⟨h1,h2⟩=>by subst h1;subst h2;exact h)
theorem aO.pure1{P:Program}(h:aO P f args ⟨[],0⟩ (fun u' _=>u'=u/\aJ 0 u'))(ha:aE 0 args)(σ:Sg):aO P f args σ (fun u' σ'=>u'=u/\σ'=σ):=aO.pure h ha σ
end Go.Vx
