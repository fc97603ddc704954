import GoSem.ClaimChange
import Derived.Test.YtldlchbgolpkaaaGreatP7
set_option linter.all false
namespace Go.Vx
open Go Go.Rx
mutual
def Rep(W:PL):U->O->Prop
 |.bool b,v=>v=.bool b|.int k n,v=>v=.int k n
 |.str l,v=>v=.string ⟨⟨l⟩⟩|.isl t l,v=>t=false/\((l=[]/\(v=.slice none 0 0\/∃b off p,v=.slice (some ⟨b,off,some p⟩) 0 0))\/∃b off c,v=.slice (some ⟨b,off,none⟩) l.length c/\c<bY/\l.length<=c/\
   (l=[]\/∃cs e fr sz,W.heap[b]? = some (.cells cs e fr)/\N6 W sz l (cs.toList.drop off)))
 |.agg l,v=>∃vs,v=.agg ⟨vs⟩/\o3 W l vs/\l.length=vs.length/\okL l=true|_,_=>False
def o3(W:PL):V U->V O->Prop
 |[],_=>True|u::us,vs=>match vs with
  |[]=>False|v::vs=>Rep W u v/\o3 W us vs
def N6(W:PL)(sz:Nat):V (V U)->V O->Prop
 |[],_=>True|c::cs,vs=>c.length=sz/\okL c=true/\o3 W c vs/\N6 W sz cs (vs.drop sz)
end
def cx(s:S):Cx:=⟨fun _=>none,⟨[],0⟩,s⟩
def Kj(s:S):Prop:=∀i b,lk s.h i=some b->Own b=false
structure Grow(m:Nm)(s:S)(m':Nm)(s':S):Prop where
 agree:aI s.nx m m'
 nx:s.nx<=s'.nx
 rows:∀i b,lk s.h i=some b->lk s'.h i=some b
def Grow.refl(m:Nm)(s:S):Grow m s m s:=⟨aI.refl _ _,zF _,fun _ _ h=>h⟩
def Grow.trans{m m' m'':Nm}{s s' s'':S}(h:Grow m s m' s')(h':Grow m' s' m'' s''):Grow m s m'' s'':=⟨h.agree.trans h'.agree h.nx,Nat.le_trans h.nx h'.nx,fun i b hb=>h'.rows i b (h.rows i b hb)⟩
variable{m:Nm}
variable{m':Nm}
variable{s:S}
variable{s':S}
def Grow.mo(h:Grow m s m' s'):Mo 0 (cx s) (cx s'):=⟨fun k hk=>by omega,fun i row e hl=>h.rows i _ hl⟩
def Grow.rel(h:Grow m s m' s'){u:U}{v:O}(hr:aD (cx s) u v):aD (cx s') u v:=h.mo.ke u v (aD.bel _ _ hr) hr
def Grow.relE(h:Grow m s m' s'){l:V U}{vs:V O}(hr:bB (cx s) l vs):bB (cx s') l vs:=h.mo.ke.E hr.bel hr
def z1d(m:Nm)(n:Nat):n7 m n [] []:=fun _ _=>by simp[aE]
def z75{n:Nat}{v cv:O}{vs nH:V O}(h:eT m n v cv)(h':n7 m n vs nH):n7 m n (v::vs) (cv::nH):=fun m' ha=>by simp[aE,h m' ha,h' m' ha]
def qoz{x:Cx}{sz:Nat}:∀{l:V (V U)}{vs:V O},bB x l.flatten vs->(∀c∈l,c.length=sz/\okL c=true)->iX x sz l vs
 |[],vs,h,hs=>by simp[iX]
 |c::l,vs,h,hs=>by have⟨h1,h2⟩:=hs c (by simp);simp[iX];rw[List.flatten_cons]at h;refine⟨h1,h2,?_,qoz (by have:=h.drop sz;rwa [List.drop_append_of_le_length (by omega),List.drop_of_length_le (by omega),List.nil_append]at this) fun d hd=>hs d (by simp[hd])⟩;rw[J5];intro i u hu;have aF:i<c.length:=(zG.1 hu).1;exact h.get (by rw[List.getElem?_append_left aF];exact hu)
def z1g{W:PL}{sz:Nat}:∀{l:V (V U)}{vs:V O},N6 W sz l vs->∀c∈l,c.length=sz/\okL c=true
 |[],vs,h=>by simp
 |d::l,vs,h=>fun c hc=>by simp[N6]at h;rcases zI.1 hc with rfl |hc;exact⟨h.1,h.2.1⟩;exact z1g h.2.2.2 c hc
def Got(W:PL)(m:Nm)(s:S)(u:U)(cv:O):Prop:=∃m' s' v,Grow m s m' s'/\fY m' s' W/\Kj s'/\(∀i b,lk s'.h i=some b->i<s'.nx)/\eT m' s'.nx v cv/\aD (cx s') u v
def Zz(W:PL)(m:Nm)(s:S)(us:V U)(nH:V O):Prop:=∃m' s' vs,Grow m s m' s'/\fY m' s' W/\Kj s'/\(∀i b,lk s'.h i=some b->i<s'.nx)/\n7 m' s'.nx vs nH/\bB (cx s') us vs
mutual
def X3{W:PL}:(u:U)->(cv:O)->Rep W u cv->∀m s,fY m s W->Kj s->(∀i b,lk s.h i=some b->i<s.nx)->Got W m s u cv
 |.bool b,cv,h,m,s,hf,hn,gW=>by simp only[Rep]at h;subst h;exact⟨m,s,.bool b,Grow.refl _ _,hf,hn,gW,B7 fun _=>by simp[ren],by simp[aD]⟩
 |.int k n,cv,h,m,s,hf,hn,gW=>by simp only[Rep]at h;subst h;exact⟨m,s,.int k n,Grow.refl _ _,hf,hn,gW,B7 fun _=>by simp[ren],by simp[aD]⟩
 |.str l,cv,h,m,s,hf,hn,gW=>by simp only[Rep]at h;subst h;exact⟨m,s,_,Grow.refl _ _,hf,hn,gW,B7 fun _=>by simp[ren],by simp[aD]⟩
 |.agg l,cv,h,m,s,hf,hn,gW=>by simp only[Rep]at h;obtain⟨nH,rfl,h1,h2,h3⟩:=h;obtain⟨m',s',vs,g1,g2,g3,g4,g5,g6⟩:=wh l nH h1 m s hf hn gW;rw[h2,List.take_length]at g5;exact⟨m',s',.agg ⟨vs⟩,g1,g2,g3,g4,fun m'' ha=>by simp[ren,g5 m'' ha],by simp only[aD];exact⟨vs,rfl,g6.1,g6.2,h3⟩⟩
 |.isl t l,cv,h,m,s,hf,hn,gW=>by
  simp only[Rep]at h;obtain⟨rfl,h⟩:=h;rcases h with⟨rfl,rfl |⟨b,off,p,rfl⟩⟩|⟨b,off,c,rfl,hc,pg,h⟩;exact⟨m,s,.slice none 0 0,Grow.refl _ _,hf,hn,gW,B7 fun _=>by simp[ren],by simp[aD]⟩;refine⟨m.set s.nx b off p,⟨s.h,s.nx+1⟩,.chan (some s.nx),⟨Nm.agree_set _ _ _ _ _,Nat.le_succ _,fun _ _ h=>h⟩,(bG.ghost hf b off p).fits,hn,fun i b hb=>Nat.lt_succ_of_lt (gW i b hb),fun m' ha=>?_,by simp[aD]⟩;obtain⟨q1,q2,q3⟩:=ha s.nx (zN _);simp[ren,q1,q2,q3,Nm.set];by_cases hl:l=[];subst hl;refine⟨m.set s.nx b off 0,⟨s.h,s.nx+1⟩,.slice (some ⟨s.nx,0,none⟩) 0 c,⟨Nm.agree_set _ _ _ _ _,Nat.le_succ _,fun _ _ h=>h⟩,(bG.ghost hf b off 0).fits,hn,fun i b hb=>Nat.lt_succ_of_lt (gW i b hb),fun m' ha=>?_,?_⟩;obtain⟨q1,q2,_⟩:=ha s.nx (zN _);simp[ren,q1,q2,Nm.set,bX,hc];simp only[aD];exact .inr ⟨s.nx,0,c,rfl,by simp,.inl trivial⟩;rcases h with h |⟨cs,e,fr,sz,hw,hr⟩;exact absurd h hl;obtain⟨m',s',vs,g1,g2,g3,g4,g5,g6⟩:=z7e l _ hr m s hf hn gW;have cU:=z1g hr;have iC:∀m'',aI (s'.nx+1) (m'.set s'.nx b off 0) m''->aI s'.nx m' m'':=fun m'' ha=>(Nm.agree_set m' s'.nx b off 0).trans ha (Nat.le_succ _)
  have pE:∀m'',aI (s'.nx+1) (m'.set s'.nx b off 0) m''->m''.blk s'.nx=b/\m''.sh s'.nx=off:=fun m'' ha=>by obtain⟨q1,q2,_⟩:=ha s'.nx (zN _);simp[Nm.set]at q1 q2;exact⟨q1,q2⟩
  refine⟨m'.set s'.nx b off 0,⟨(s'.nx,.inl (vs,0,1))::s'.h,s'.nx+1⟩,.slice (some ⟨s'.nx,0,none⟩) l.length c,g1.trans ⟨Nm.agree_set _ _ _ _ _,Nat.le_succ _,fun i b hb=>?_⟩,fun m'' ha=>⟨fun i d hd=>?_,fun i j d d' hd bF lM ho=>?_,fun i d hd=>?_⟩,fun i d hd=>?_,fun i d hd=>?_,fun m'' ha=>?_,?_⟩;have:=g4 i b hb;simp[n9,show s'.nx≠i by omega,hb];simp only[n9]at hd;split at hd;rename_i e;subst e;cases hd;obtain⟨q1,q2⟩:=pE m'' ha;refine⟨cs,e,fr,by rw[q1];exact hw,fun k v hk=>?_,fun n hn=>absurd hn (by simp)⟩;have:=congrArg (fun z=>z[k]?) (g5 m'' (iC m'' ha));simp only[kE,List.getElem?_map,hk,zM,List.getElem?_take,List.getElem?_drop]at this;split at this;rw[q2];simpa using this.symm;cases this;exact(g2 m'' (iC m'' ha)).ok i d hd;simp only[n9]at hd bF;split at hd;cases hd;simp[Own]at ho;rw[g3 i d hd]at ho;cases ho;simp only[n9]at hd;split at hd;show i<s'.nx+1;omega;exact Nat.lt_succ_of_lt (g4 i d hd);simp only[n9]at hd;split at hd;cases hd;rfl;exact g3 i d hd;simp only[n9]at hd;split at hd;show i<s'.nx+1;omega;exact Nat.lt_succ_of_lt (g4 i d hd);obtain⟨q1,q2⟩:=pE m'' ha;simp[ren,q1,q2,bX,hc];have hg:Grow m' s' (m'.set s'.nx b off 0) ⟨(s'.nx,.inl (vs,0,1))::s'.h,s'.nx+1⟩:=⟨Nm.agree_set _ _ _ _ _,Nat.le_succ _,fun i b hb=>by have:=g4 i b hb;simp[n9,show s'.nx≠i by omega,hb]⟩;simp only[aD];exact .inr ⟨s'.nx,0,c,rfl,by simp,.inr ⟨vs,0,sz,by simp[cx,n9],qoz (hg.relE g6) cU,.inl ⟨hc,pg⟩⟩⟩
 |.junk,cv,h,m,s,hf,hn,gW=>by simp[Rep]at h
 |.nilp,cv,h,m,s,hf,hn,gW=>by simp[Rep]at h
 |.ptr _ _ _,cv,h,m,s,hf,hn,gW=>by simp[Rep]at h
 |.iptr _,cv,h,m,s,hf,hn,gW=>by simp[Rep]at h
 |.nils,cv,h,m,s,hf,hn,gW=>by simp[Rep]at h
 |.sl _ _ _ _,cv,h,m,s,hf,hn,gW=>by simp[Rep]at h
 |.vl _ _ _ _,cv,h,m,s,hf,hn,gW=>by simp[Rep]at h
 |.nilm,cv,h,m,s,hf,hn,gW=>by simp[Rep]at h
 |.map _,cv,h,m,s,hf,hn,gW=>by simp[Rep]at h
 |.fn _ _ _,cv,h,m,s,hf,hn,gW=>by simp[Rep]at h
 |.nilf,cv,h,m,s,hf,hn,gW=>by simp[Rep]at h
 |.nili,cv,h,m,s,hf,hn,gW=>by simp[Rep]at h
 |.tup _,cv,h,m,s,hf,hn,gW=>by simp[Rep]at h
def wh{W:PL}:(us:V U)->(nH:V O)->o3 W us nH->∀m s,fY m s W->Kj s->(∀i b,lk s.h i=some b->i<s.nx)->Zz W m s us (nH.take us.length)
 |[],nH,h,m,s,hf,hn,gW=>⟨m,s,[],Grow.refl _ _,hf,hn,gW,by simpa using z1d m s.nx,bB.nil _⟩|u::us,[],h,m,s,hf,hn,gW=>by simp[o3]at h
 |u::us,cv::nH,h,m,s,hf,hn,gW=>by simp[o3]at h;have⟨m',s',v,g1,g2,g3,g4,g5,g6⟩:=X3 u cv h.1 m s hf hn gW;have⟨m'',s'',vs,k1,k2,k3,k4,k5,k6⟩:=wh us nH h.2 m' s' g2 g3 g4;exact⟨m'',s'',v::vs,g1.trans k1,k2,k3,k4,by simpa using z75 (g5.ext k1.agree k1.nx) k5,bB.cons (k1.rel g6) k6⟩
def z7e{W:PL}{sz:Nat}:(l:V (V U))->(nH:V O)->N6 W sz l nH->∀m s,fY m s W->Kj s->(∀i b,lk s.h i=some b->i<s.nx)->Zz W m s l.flatten (nH.take (l.length*sz))
 |[],nH,h,m,s,hf,hn,gW=>⟨m,s,[],Grow.refl _ _,hf,hn,gW,by simpa using z1d m s.nx,bB.nil _⟩|c::l,nH,h,m,s,hf,hn,gW=>by
  simp[N6]at h;have⟨m',s',v,g1,g2,g3,g4,g5,g6⟩:=wh c nH h.2.2.1 m s hf hn gW;have⟨m'',s'',vs,k1,k2,k3,k4,k5,k6⟩:=z7e l _ h.2.2.2 m' s' g2 g3 g4;refine⟨m'',s'',v++vs,g1.trans k1,k2,k3,k4,?_,by rw[List.flatten_cons];exact(k1.relE g6).append k6⟩;have e:nH.take ((c::l).length*sz)=nH.take c.length++(nH.drop sz).take (l.length*sz):=by rw[zO,Nat.succ_mul,Nat.add_comm,List.take_add,h.1]
  rw[e];exact(g5.ext k1.agree k1.nx).append k5
end
def law_calls{P:H0}{f:FuncId}{us:V U}{W:PL}{args:V O}(h:b7 P f us ⟨[],0⟩ (fun u _=>u=.bool true))(hr:o3 W us args)(hl:us.length=args.length):
  Calls P f args.toArray W fun e w'=>e=.returned (.bool true)/\RowKit.Below W.heap.size W w':=by have h0:fY ⟨id,id,id⟩ ⟨[],0⟩ W:=fun m' _=>⟨fun i b hb=>by simp[lk]at hb,fun i j b c hb=>by simp[lk]at hb,fun i b hb=>by simp[lk]at hb⟩;have⟨m,s,vs,g1,g2,g3,g4,g5,g6⟩:=wh us args hr ⟨id,id,id⟩ ⟨[],0⟩ h0 (fun i b hb=>by simp[lk]at hb) (fun i b hb=>by simp[lk]at hb);rw[hl,List.take_length]at g5;refine(h (fun _ _=>False) (cx s) vs m W args rfl ⟨fun k b hb=>by simp[cx,gt]at hb,fun k k' b b' i hb=>by simp[cx,gt]at hb,g4⟩ (fun _ _ J=>J.elim) g6 g2 g5).mono ?_;rintro e w' ⟨y,aK,u,v,cv,rfl,rfl,aS,fU,_,_,xG,_,_⟩;simp[aD]at xG;subst xG;have:=fU.at;simp[ren]at this;exact⟨by rw[<-this],aS.below fun b ⟨i,c,hc,ho,_⟩=>by rw[g3 i c hc]at ho;cases ho⟩
def OfTy(P:H0):Nat->TypeId->V U->Prop
 |0,_,_=>False|n+1,t,us=>match P.underlying t with
  |some .bool=>∃b,us=[.bool b]|some (.int k)=>∃i,us=[.int k i]/\(Lit.int k i).wf=true
  |some .string=>∃s,us=[.str s]/\s.length<=maxLen|some (.slice e)=>∃l,us=[.isl false l]/\l.length<=maxLen/\∀c∈l,OfTy P n e c
  |some (.struct fs)=>us.length=P.cellsOf t/\∀f∈fs.toList,OfTy P n f.type ((us.drop f.offset).take (P.cellsOf f.type))|some (.array k e)=>us.length=P.cellsOf t/\∀i,i<k->OfTy P n e ((us.drop (i*P.cellsOf e)).take (P.cellsOf e))
  |_=>False
end Go.Vx
namespace Go.Vx
open Go Go.Rx
variable{tm:V U}
variable{tm':V U}
def nq{l:V EW}(h:∀t∈tmpsOf l,tm[t]? = tm'[t]?){x:EW}(hx:x∈l):cB tm x=cB tm' x:=by cases x with|tmp t=>simp[cB,jD];exact h t (z2x hx)|_=>rfl
def Pd{l:V EW}(h:∀x∈l,cB tm x=cB tm' x):mJ tm l=mJ tm' l:=by induction l with|nil=>rfl|cons x l ih=>simp[mJ];rw[h x (by simp),ih fun y hy=>h y (by simp[hy])]
def qol{l:V (Nat×EW)}(h:∀x∈l.map (·.2),cB tm x=cB tm' x):B6 tm l=B6 tm' l:=by induction l with|nil=>rfl|cons x l ih=>have⟨i,x⟩:=x;simp[B6];rw[h x (by simp),ih fun y hy=>h y (by simp only[zQ,zI];exact .inr hy)]
def og{x:M EW}(h:∀y,x=some y->cB tm y=cB tm' y):xX tm x=xX tm' x:=by rcases x with _|y;rfl;simp[xX];rw[h y rfl]
section
variable{T:Tb}{tm tm':V U}{X:Sg}{op:Op}
def qyv(h:∀x∈op.operands.toList,cB tm x=cB tm' x):j4 T X tm op=j4 T X tm' op:=by
 cases op<;>simp only[Op.operands]at h<;>try rfl
 case move x=>simp only[j4];exact h x (by simp)
 case assign x=>simp only[j4];exact h x (by simp)
 case pick c a b=>simp only[j4];rw[h c (by simp),h a (by simp),h b (by simp)]
 case build t ps=>simp only[j4];rw[qol (by simpa using h)]
 case nilCheck x=>simp only[j4];rw[h x (by simp)]
 case binOp o t x y ty=>simp only[j4];rw[h x (by simp),h y (by simp)]
 case unOp o t x=>simp only[j4];rw[h x (by simp)]
 case convert a b x=>simp only[j4];rw[h x (by simp)]
 case makeFunc f a b=>simp only[j4];rw[Pd fun x hx=>h x (by simp at hx ⊢;exact .inl hx),Pd fun x hx=>h x (by simp at hx ⊢;exact .inr hx)]
 case slice t x lo hi mx=>simp only[j4];rw[h x (by simp),og (x:=lo) fun y hy=>h y (by subst hy;simp),og (x:=hi) fun y hy=>h y (by subst hy;simp),og (x:=mx) fun y hy=>h y (by subst hy;simp)]
 case fieldAddr t x f=>simp only[j4];rw[h x (by simp)]
 case field t x f=>simp only[j4];rw[h x (by simp)]
 case indexAddr t x i=>simp only[j4];rw[h x (by simp),h i (by simp)]
 case index t x i=>simp only[j4];rw[h x (by simp),h i (by simp)]
 case extract x i=>simp only[j4];rw[h x (by simp)]
 case call c=>simp[j4];rw[Pd (l:=c.args.toList) fun x hx=>h x (by simp[Call.operands]at hx ⊢;exact .inr hx)]
def qyz(h:∀x∈op.operands.toList,cB tm x=cB tm' x):qG T X tm op=qG T X tm' op:=by
 cases op<;>simp only[Op.operands]at h<;>try rfl
 case load t x=>simp only[qG];rw[h x (by simp)]
 case lookup t x k ok=>simp only[qG];rw[h x (by simp),h k (by simp)]
def z2n(h:∀x∈op.operands.toList,cB tm x=cB tm' x):oY T X tm op=oY T X tm' op:=by
 cases op<;>simp only[Op.operands]at h<;>try rfl
 case box t x=>simp only[oY];rw[h x (by simp)]
 case store t x y=>simp only[oY];rw[h x (by simp),h y (by simp)]
 case buildSlice t n ps=>simp only[oY];rw[qol (by simpa using h)]
 case makeSlice t x y=>simp only[oY];rw[h x (by simp),h y (by simp)]
 case makeMap t r=>cases r<;>rfl
 case mapUpdate t x y z=>simp only[oY];rw[h x (by simp),h y (by simp),h z (by simp)]
 case insert t x y z=>simp only[oY];rw[h x (by simp),h y (by simp),h z (by simp)]
 case mapEntry t x y=>simp only[oY];rw[h x (by simp),h y (by simp)]
 case entryStore t x y z=>simp only[oY];rw[h x (by simp),h y (by simp),h z (by simp)]
 case call c=>simp[oY];rw[Pd (l:=c.args.toList) fun x hx=>h x (by simp[Call.operands]at hx ⊢;exact .inr hx)]
def nw(h:∀x∈op.operands.toList,cB tm x=cB tm' x):kN T tm op=kN T tm' op:=by
 cases op<;>simp[Op.operands]at h<;>try rfl
 case call c=>
  simp[kN];rw[Pd (l:=c.args.toList) fun x hx=>h x (by simp[Call.operands]at hx ⊢;exact .inr hx)];cases hc:c.callee with
  |value f=>simp[];rw[h f (by simp[Call.operands,hc])]|_=>rfl
def jh(h:∀x∈op.operands.toList,cB tm x=cB tm' x):bO T X tm op=bO T X tm' op:=by unfold bO;rw[qyv h,qyz h,z2n h]
end
def ZG{aB:V Oper}{o:Oper}(h:∀t∈NV aB o,tm[t]? = tm'[t]?):(∀x∈o.op.operands.toList,cB tm x=cB tm' x)/\cX aB tm o=cX aB tm' o:=by
 unfold NV at h;unfold cX;cases hg:o.guard with
 |none=>simp[hg]at h;exact⟨fun x hx=>nq h hx,rfl⟩|some g=>
  have⟨j,want⟩:=g;simp[hg]at h;cases hd:C3 aB j with
  |none=>simp[hd]at h;exact⟨fun x hx=>nq h hx,by simp[hd]⟩|some d=>simp only[hd]at h;refine⟨fun x hx=>nq (fun t ht=>h t (by simp[ht])) hx,?_⟩;simp only[hd,jD];rw[h d (by simp)]
variable{K:Nat}
variable{k:Nat}
def OF(h:Nat.beq k K=false)(b:B)(sz st off n:Nat):fz K b sz (.vl k st off n)=.vl k st off n:=by simp[fz,h]
def YJ(h:Nat.beq k K=false)(b:B)(sz off n c:Nat):fz K b sz (.sl k off n c)=.sl k off n c:=by simp[fz,h]
def YK(h:Nat.beq k K=false)(b:B)(sz st off:Nat):fz K b sz (.ptr k st off)=.ptr k st off:=by simp[fz,h]
def U9(K:Nat)(l:V U)(e:TypeId)(sz n:Nat)(h:n*sz<=l.length):fz K (.row l e) sz (.sl K 0 n n)=.isl false (cE sz n l):=by
 have:Nat.beq n n=true:=by simp[beq_eq]
 simp[fz,beq_eq,h]
def Xf(K:Nat)(l:V U)(e:TypeId)(sz:Nat):fz K (.row l e) sz (.ptr K 0 0)=.iptr l:=by simp[fz,beq_eq]
def C4(K:Nat)(b:B)(sz:Nat)(k:IntKind)(n:Int):fz K b sz (.int k n)=.int k n:=by simp[fz]
def FE(K:Nat)(b:B)(sz:Nat)(x:D1):fz K b sz (.bool x)=.bool x:=by simp[fz]
def F7(K:Nat)(b:B)(sz:Nat)(x:V Xv):fz K b sz (.str x)=.str x:=by simp[fz]
def DV(K:Nat)(b:B)(sz:Nat):fz K b sz .nils=.nils:=by simp[fz]
def H8(K:Nat)(b:B)(sz:Nat):fz K b sz .nilp=.nilp:=by simp[fz]
def H9(K:Nat)(b:B)(sz:Nat):fz K b sz .nilm=.nilm:=by simp[fz]
def HA(K:Nat)(b:B)(sz:Nat):fz K b sz .nilf=.nilf:=by simp[fz]
def FD(K:Nat)(b:B)(sz:Nat):fz K b sz .junk=.junk:=by simp[fz]
def F8(K:Nat)(b:B)(sz:Nat)(t:D1)(l:V (V U)):fz K b sz (.isl t l)=.isl t l:=by simp[fz]
def H4(K:Nat)(b:B)(sz:Nat)(k:Nat):fz K b sz (.map k)=.map k:=by simp[fz]
def DS(K:Nat)(b:B)(sz:Nat)(l:V U):fz K b sz (.agg l)=.agg (jW K b sz l):=by simp[fz]
def F6(K:Nat)(b:B)(sz:Nat)(l:V U):fz K b sz (.tup l)=.tup (jW K b sz l):=by simp[fz]
def DO(K:Nat)(b:B)(sz:Nat)(f:Fn)(a c:V U):fz K b sz (.fn f a c)=.fn f (jW K b sz a) (jW K b sz c):=by simp[fz]
def v6(K:Nat)(b:B)(sz:Nat):jW K b sz []=[]:=by simp[jW]
def sG(K:Nat)(b:B)(sz:Nat)(u:U)(l:V U):jW K b sz (u::l)=fz K b sz u::jW K b sz l:=by simp[jW]
mutual
def zf{K:Nat}(b:B)(sz:Nat):(u:U)->bA K u->fz K b sz u=u
 |.sl k _ _ _,h=>YJ (by simp[bA]at h;simp[beq_eq];omega) _ _ _ _ _|.vl k _ _ _,h=>OF (by simp[bA]at h;simp[beq_eq];omega) _ _ _ _ _
 |.ptr k _ _,h=>YK (by simp[bA]at h;simp[beq_eq];omega) _ _ _ _|.agg l,h=>by simp[bA]at h;rw[DS,oH b sz l h]
 |.tup l,h=>by simp[bA]at h;rw[F6,oH b sz l h]
 |.fn f a c,h=>by simp[bA]at h;rw[DO,oH b sz a h.1,oH b sz c h.2]
 |.int _ _,_=>C4 _ _ _ _ _|.bool _,_=>FE _ _ _ _
 |.str _,_=>F7 _ _ _ _|.nils,_=>DV _ _ _
 |.nilp,_=>H8 _ _ _|.nilm,_=>H9 _ _ _
 |.nilf,_=>HA _ _ _|.nili,_=>by simp[fz]
 |.junk,_=>FD _ _ _|.isl _ _,_=>F8 _ _ _ _ _
 |.iptr _,_=>by simp[fz]
 |.map _,_=>H4 _ _ _ _
def oH{K:Nat}(b:B)(sz:Nat):(l:V U)->aM K l->jW K b sz l=l
 |[],_=>v6 _ _ _|u::l,h=>by simp[aM]at h;rw[sG,zf b sz u h.1,oH b sz l h.2]
end
variable{x:Cx}
def oB.belB{b:B}(h:oB x k b):BelB x.X.nx b:=by
 cases b with
 |row l e=>have⟨_,_,_,_,_,e3⟩:=h;exact e3.bel
 |vec l e sz st=>have⟨_,_,h3⟩:=h;rcases h3 with⟨rfl,_⟩|⟨_,_,_,_,e3⟩;simp[BelB,aM];exact e3.bel
 |map es cl=>have⟨_,es',_,_,e3⟩:=h;intro e he;obtain⟨j,hj,rfl⟩:=List.getElem_of_mem he;obtain⟨v,_,q2,q3,_⟩:=e3.2 j _ (List.getElem?_eq_getElem hj);exact⟨aD.bel _ _ q2,aD.bel _ _ q3⟩
variable{n0:Nat}
variable{X:Sg}
def Gh.same(h':V (Nat×B))(hg:∀k,gt h' k=gt X.h k):Gh n0 tm X tm ⟨h',X.nx⟩:=fun F x tv hx hr hf he=>by
 subst hx;have gI:Mo x.X.nx x ⟨x.Y,⟨h',x.X.nx⟩,x.s⟩:=⟨fun k _ h2=>⟨h2,fun b hb=>⟨b,by rw[<-hg];exact hb,zF _,fun _=>⟨rfl,fun l e sz st h=>⟨l,h⟩⟩⟩⟩,fun _ _ _ h=>h⟩;refine⟨⟨x.Y,⟨h',x.X.nx⟩,x.s⟩,fun m w hf=>bG.refl hf,rfl,⟨fun k b hb=>?_,fun k k' b b' i hb cP=>?_,hr.bd⟩,fun i b J=>?_,gI.ke.E he.bel he,fun u v hb hr=>gI.ke u v (aD.bel u v hr) hr⟩;have cP:gt x.X.h k=some b:=by rw[<-hg];exact hb
 have⟨h1,h2⟩:=hr.ok k b cP;exact⟨h1,h2.mono gI rfl fun _ _ _ h=>h⟩;exact hr.inj k k' b b' i (by rw[<-hg];exact hb) (by rw[<-hg];exact cP);have⟨h1,h2⟩:=hf i b J;exact⟨h1,fun k c hc=>h2 k c (by rw[<-hg];exact hc)⟩
variable{T:Tb}
variable{op:Op}
def z4e{q:FuncId×V U}(h:kN T tm op=some q):bO T X tm op=none:=by
 cases op with
 |call c=>
  simp[kN]at h;cases hc:c.callee with
  |value f=>simp[bO,j4,qG,oY,hc]|_=>simp[hc]at h
 |_=>simp[kN]at h
def Gh.cutG{n1:Nat}(h1:n0<=n1)(h2:n1<=X.nx)(hb:aM n1 tm)(hh:∀k b,gt (Vx.cut n1 X.h) k=some b->BelB n1 b):Gh n0 tm X tm ⟨Vx.cut n1 X.h,n1⟩:=fun F x tv hx hr hf he=>by
 subst hx;have gI:Mo n1 x ⟨x.Y,⟨Vx.cut n1 x.X.h,n1⟩,x.s⟩:=by refine⟨fun k hk _=>⟨hk,fun b hb=>?_⟩,fun _ _ _ h=>h⟩;simp[Ff,hk,if_true]at hb;exact⟨b,hb,zF _,fun _=>⟨rfl,fun l e sz st h=>⟨l,h⟩⟩⟩
 have sub:∀{k b},gt (Vx.cut n1 x.X.h) k=some b->k<n1/\gt x.X.h k=some b:=fun{k b} hg=>by simp only[Ff]at hg;split at hg;exact⟨by assumption,hg⟩;cases hg
 refine⟨⟨x.Y,⟨Vx.cut n1 x.X.h,n1⟩,x.s⟩,fun m w hf=>bG.refl hf,rfl,⟨fun k b hg=>?_,fun k k' b b' i g1 g2=>hr.inj k k' b b' i (sub g1).2 (sub g2).2,hr.bd⟩,fun i b J=>?_,gI.ke.E hb he,gI.ke.le h1⟩;exact⟨(sub hg).1,(hr.ok k b (sub hg).2).2.monoB (hh k b hg) gI rfl fun _ _ _ h=>h⟩;exact⟨(hf i b J).1,fun k c hc=>(hf i b J).2 k c (sub hc).2⟩
def qsh{k:Nat}(sz:Nat):∀(n:Nat)(l:V U),aM k l->mR k (cE sz n l)
 |0,l,_=>by simp[cE,mR]
 |n+1,l,h=>by simp[cE,mR];exact⟨(HE k _).2 fun u hu=>(HE k _).1 h u (List.mem_of_mem_take hu),qsh sz n _ ((HE k _).2 fun u hu=>(HE k _).1 h u (List.mem_of_mem_drop hu))⟩
def B5(P:H0)(T:Tb)(tm:V U)(op:Op)(u:U):Prop :=
 (∃f args,kN T tm op=some (f,args)/\∀s,b7 P f args s (fun u' X=>u'=u/\X=s))\/ (∃n sz cs e,(∀X,bO T X tm op=some (.sl X.nx 0 n n,newU X (.row cs e)))/\n*sz<=cs.length/\aM 0 cs/\u=.isl false (cE sz n cs))
def Gh.quiet{n sz:Nat}{cs:V U}{e:TypeId}{d:M Tmp}(h0:n0<=X.nx)(hb:aM X.nx tm)(hs:∀k b,gt X.h k=some b->k<X.nx/\BelB X.nx b)(hl:n*sz<=cs.length)(o9:aM 0 cs):Gh n0 (eS tm d (.sl X.nx 0 n n)) (newU X (.row cs e)) (eS tm d (.isl false (cE sz n cs))) X:=by
 have e0:gt (newU X (.row cs e)).h X.nx=some (.row cs e):=by simp[newU,eN]
 have et:jW X.nx (.row cs e) sz (eS tm d (.sl X.nx 0 n n))=eS tm d (.isl false (cE sz n cs)):=by
  rcases d with _|t;simp[eS];exact oH _ _ _ hb;simp[eS];have key:∀(l:V U)(t:Nat),aM X.nx l->jW X.nx (.row cs e) sz (l.set t (.sl X.nx 0 n n))=l.set t (.isl false (cE sz n cs)):=by
   intro l;induction l with
   |nil=>intro t _;simp[jW]|cons u l ih=>
    intro t h;simp[aM]at h;cases t with
    |zero=>simp[List.set_cons_zero,sG,oH _ _ l h.2,U9 X.nx cs e sz n hl]|succ t=>simp[List.set_cons_succ,sG,zf _ _ u h.1,ih t h.2]
  exact key tm t hb
 have hbt:aM X.nx (eS tm d (.isl false (cE sz n cs))):=by
  rcases d with _|t;simpa only[eS]using hb;simp[eS];have key:∀(l:V U)(t:Nat),aM X.nx l->aM X.nx (l.set t (.isl false (cE sz n cs))):=by
   intro l;induction l with
   |nil=>intro t _;simp[aM]|cons u l ih=>
    intro t h;simp[aM]at h;cases t with
    |zero=>simp[List.set_cons_zero,aM];exact⟨by simp[bA];exact qsh sz n cs (aM.le (Nat.zero_le _) _ o9),h.2⟩|succ t=>simp[List.set_cons_succ,aM];exact⟨h.1,ih t h.2⟩
  exact key tm t hb
 have eg:∀k,gt (Vx.cut X.nx (fzH X.nx (.row cs e) sz (newU X (.row cs e)).h)) k=gt X.h k:=fun k=>by
  rw[Ff];by_cases hk:k<X.nx;rw[if_pos hk,Fe,if_neg (by omega)];have:gt (newU X (.row cs e)).h k=gt X.h k:=by simp only[newU,eN];rw[if_neg (by omega)]
  rw[this];rcases hg:gt X.h k with _|b;rfl;have hb:=(hs k b hg).2;simp[zM,zA];cases b with
  |row l e=>simp[fzB];rw[oH _ _ _ hb]|vec l e s st=>simp[fzB];rw[oH _ _ _ hb]
  |map es cl=>
   simp[fzB];congr 1;have:∀q∈es,({ q with val:=fz X.nx (.row cs e) sz q.val }:_)=q:=fun q hq=>by rw[zf _ _ _ (hb q hq).2]
   exact(List.map_congr_left this).trans (List.map_id _)
  rw[if_neg hk];rcases hg:gt X.h k with _|b;rfl;exact absurd (hs k b hg).1 hk
 refine(Gh.freeze (n0:=n0) sz e0 (by simp)).trans ?_;rw[et];refine(Gh.cutG (n0:=n0) (n1:=X.nx) h0 (by simp[newU]) hbt ?_).trans ?_;intro k b hg;rw[eg]at hg;exact(hs k b hg).2;exact Gh.same (X:=⟨Vx.cut X.nx (fzH X.nx (.row cs e) sz (newU X (.row cs e)).h),X.nx⟩) X.h fun k=>(eg k).symm
variable{P:H0}
variable{u:U}
def B5.noop(h:B5 P T tm op u)(X:Sg):bO T X tm op≠some (u,X):=fun hc=>by
 rcases h with⟨f,args,h,_⟩|⟨n,sz,cs,e,h,_⟩;rw[z4e h]at hc;cases hc;rw[h X]at hc;simp[zA,zB]at hc;have:=congrArg Sg.nx hc.2;simp only[newU]at this;omega
def B5.congr(h:∀x∈op.operands.toList,cB tm x=cB tm' x)(hf:B5 P T tm' op u):B5 P T tm op u:=by rcases hf with⟨f,args,h1,h2⟩|⟨n,sz,cs,e,h1,h2⟩;exact .inl ⟨f,args,(nw h).trans h1,h2⟩;exact .inr ⟨n,sz,cs,e,fun X=>(jh h).trans (h1 X),h2⟩
def B5.nd(h:B5 P T tm op u):∀c,op≠.defer c:=by rcases h with⟨f,args,h1,_⟩|⟨n,sz,cs,e,h1,_⟩;exact Oc h1;exact v05 (h1 ⟨[],0⟩)
variable{F:Nat->lP->Prop}
def St.free(hT:kT P T){tv:V O}{m:Nm}{w:PL}{a:Act}(st:St F x tm tv m w a)(o:Oper)(h:B5 P T tm o.op u){next:Act->PL->Prop}{Q:Exit->Act->PL->Prop}
  (hn:∀y d8 aK w₁ bE,y.X=x.X->St F y (eS tm o.dst u) d8 aK w₁ bE->bG m x.s w aK y.s w₁->Ke x.X.nx x y->x.X.nx<=y.X.nx->bE.defers=a.defers->next bE w₁):o.wp P a w next Q:=by
 rcases h with⟨f,args,h1,h2⟩|⟨n,sz,cs,e,h1,h2,h3,rfl⟩;refine st.call hT o h1 (h2 x.X) fun y u' d8 aK w₁ bE hR cD bP dA oO gK=>?_
 have⟨rfl,hR2⟩:=hR;exact hn y d8 aK w₁ bE hR2 cD bP dA oO gK;refine st.op hT o (h1 x.X) fun y d8 aK w₁ bE e1 cD bP dA oO gK=>?_;have⟨z,g1,g2,g3,g4,g5,g6⟩:=Gh.quiet (n0:=x.X.nx) (X:=x.X) (d:=o.dst) (e:=e) (zF _) st.e.bel (fun k b hg=>⟨(st.h.ok k b hg).1,(st.h.ok k b hg).2.belB⟩) h2 h3 F y d8 e1 cD.h cD.fr cD.e;have cW:=g1 aK w₁ cD.fits;exact hn z d8 aK w₁ bE g2 ⟨g3,g4,g5,cW.fits,cD.act.ext cW.agree cW.nx⟩ (bP.trans cW) (dA.trans g6) (by rw[g2];exact zF _) gK
def St.opfz(hT:kT P T){tv:V O}{m:Nm}{w:PL}{a:Act}(st:St F x tm tv m w a)(o:Oper){u1:U}{s1 s':Sg}{d:Nat}(rL:bO T x.X tm o.op=some (u1,s1))(hd:o.dst=some d)(CW:d<tm.length)
  (hg:Gh s1.nx [u1] s1 [u] s') (hn:s1.nx<=s'.nx) {next:Act->PL->Prop} {Q:Exit->Act->PL->Prop}
  (hk:∀y d8 aK w₁ bE,y.X=s'->St F y (eS tm o.dst u) d8 aK w₁ bE->bG m x.s w aK y.s w₁->Ke x.X.nx x y->x.X.nx<=y.X.nx->bE.defers=a.defers->next bE w₁):o.wp P a w next Q:=by
 refine st.op hT o rL fun y d8 aK w₁ bE e1 cD bP dA oO gK=>?_;have he:=cD.e;rw[hd]at he hk;simp[eS]at he hk;have⟨v1,hv1,Jb⟩:=he.get (List.getElem?_set_self (by simpa using CW));have⟨z,g1,g2,g3,g4,g5,g6⟩:=hg F y [v1] e1 cD.h cD.fr (bB.cons Jb (bB.nil y));have cW:=g1 aK w₁ cD.fits;have⟨v1',_,hv1',Up,_⟩:=g5.inv;cases hv1';have hez:bB z (tm.set d u) d8:=by refine⟨(J5 z _ _).2 fun i u' HI=>?_,by have:=he.2;simpa using this⟩;by_cases hi:d=i;subst hi;rw[List.getElem?_set_self (by simpa using CW)]at HI;cases HI;exact⟨v1,hv1,Up⟩;rw[List.getElem?_set_ne hi]at HI;have⟨v,hv,hr⟩:=he.get (i:=i) (u:=u') (by rw[List.getElem?_set_ne hi];exact HI);refine⟨v,hv,g6 u' v ?_ hr⟩;have hb:=(HE y.X.nx _).1 he.bel u' (by rw[List.mem_iff_getElem?];exact⟨i,by rw[List.getElem?_set_ne hi];exact HI⟩);rw[e1]at hb;exact hb
 exact hk z d8 aK w₁ bE g2 ⟨g3,g4,hez,cW.fits,cD.act.ext cW.agree cW.nx⟩ (bP.trans cW) (dA.trans (g6.le (by rw[<-e1];exact oO))) (by rw[g2];rw[e1]at oO;omega) gK
structure eX where
 tm:V U
 o:Oper
 u:U
 act:D1
 mv:D1
 s:Sg
 s':Sg
def Good(P:H0)(T:Tb)(aB:V Oper)(r:eX):Prop :=
 (cX aB r.tm r.o=some false/\r.u=.tup []/\r.act=false/\r.s'=r.s)\/ (cX aB r.tm r.o=some true/\bO T r.s r.tm r.o.op=some (r.u,r.s')/\(r.act=false->r.s'=r.s))\/ (cX aB r.tm r.o=some true/\r.act=true/\∃f args,kN T r.tm r.o.op=some (f,args)/\b7 P f args r.s (fun u X=>u=r.u/\X=r.s'))\/ (cX aB r.tm r.o=some true/\r.act=false/\r.s'=r.s/\B5 P T r.tm r.o.op r.u)\/ (r.act=false/\r.mv=true/\r.s'=r.s)\/ (cX aB r.tm r.o=some true/\r.act=true/\∃u1 s1 d,bO T r.s r.tm r.o.op=some (u1,s1)/\r.o.dst=some d/\d<r.tm.length/\Gh s1.nx [u1] s1 [r.u] r.s'/\s1.nx<=r.s'.nx)
variable{r:eX}
def Good.quiet{aB:V Oper}(h:Good P T aB r)(ha:r.act=false):r.s'=r.s:=by rcases h with⟨_,_,_,h⟩|⟨_,_,h⟩|⟨_,h,_⟩|⟨_,_,h,_⟩|⟨_,_,h⟩|⟨_,h,_⟩;exact h;exact h ha;rw[ha]at h;cases h;exact h;exact h;rw[ha]at h;cases h
def kL(rs:V eX)(X':Sg)(p:Nat):Sg:=match rs[p]? with
 |some r=>r.s|none=>X'
def yE(rs:V eX)(tm':V U)(p:Nat):V U:=match rs[p]? with
 |some r=>r.tm|none=>tm'
structure gp(P:H0)(T:Tb)(aB:V Oper)(tm₀:V U)(HV:Sg)(rs:V eX)(tm':V U)(X':Sg):Prop where
 len:rs.length=aB.length
 s0:kL rs X' 0=HV
 t0:yE rs tm' 0=tm₀
 all:∀(i:Nat)(r:eX),rs[i]? = some r->aB[i]? = some r.o/\Good P T aB r/\kL rs X' (i+1)=r.s'/\yE rs tm' (i+1)=eS r.tm r.o.dst r.u
structure ChU(T:Tb)(aB:V Oper)(rs:V eX):Prop where
 acts:∀(i k:Nat)(r q:eX),rs[i]? = some r->rs[k]? = some q->r.act=true->q.act=true->k<i->Pre aB i k
 lo:∀(i k:Nat)(r q:eX),rs[i]? = some r->rs[k]? = some q->r.act=false->cX aB r.tm r.o=some true->bO T r.s r.tm r.o.op=some (r.u,r.s')->q.act=true->k<i->Pre aB i k\/q.s=r.s\/bO T q.s r.tm r.o.op=some (r.u,q.s)
 hi:∀(i k:Nat)(r q:eX),rs[i]? = some r->rs[k]? = some q->r.act=false->cX aB r.tm r.o=some true->bO T r.s r.tm r.o.op=some (r.u,r.s')->q.act=true->i<k->Pre aB k i\/q.s'=r.s\/bO T q.s' r.tm r.o.op=some (r.u,q.s')
structure NS(tm₀:V U)(rs:V eX)(L:Nat->Prop)(tm:V U):Prop where
 len:tm.length=tm₀.length
 yes:∀(k:Nat)(r:eX)(d:Nat),rs[k]? = some r->r.o.dst=some d->d<tm₀.length->L k->tm[d]? = some r.u
 no:∀(k:Nat)(r:eX)(d:Nat),rs[k]? = some r->r.o.dst=some d->¬ L k->tm[d]? = tm₀[d]?
 other:∀(t:Nat),(∀(k:Nat)(r:eX),rs[k]? = some r->r.o.dst≠some t)->tm[t]? = tm₀[t]?
section
variable{P:H0}{T:Tb}(hT:kT P T)(aB:H2 Oper){tm₀:V U}{HV:Sg}{rs:V eX}{tm':V U}{X':Sg}
 (jV:gp P T aB.toList tm₀ HV rs tm' X') (cK:Y9 aB.toList=true)
include jV cK
omit cK in
def WY{i:Nat}{o:Oper}(ho:aB.toList[i]? = some o):∃r,rs[i]? = some r/\r.o=o:=by
 have hi:i<rs.length:=by rw[jV.len];exact(zG.1 ho).1
 have hr:rs[i]? = some rs[i]:=by simp[hi]
 refine⟨_,hr,?_⟩;have:=(jV.all i _ hr).1;rw[ho]at this;exact(Option.some.inj this).symm
variable{i:Nat}
def qzu{q:eX}(hr:rs[i]? = some r)(hq:rs[k]? = some q)(FZ:i≠k){d:Tmp}(hd:q.o.dst=some d):r.o.dst≠some d :=
 (z7w cK (jV.all i r hr).1 (jV.all k q hq).1 FZ hd).1
def qxk{L:Nat->Prop}(h:NS tm₀ rs L tm)(hr:rs[i]? = some r):NS tm₀ rs (fun k=>L k\/k=i) (eS tm r.o.dst r.u):=by
 cases hd:r.o.dst with
 |none=>simp[eS];refine⟨h.len,fun k q d hq FW aF hL=>?_,fun k q d hq FW hL=>h.no k q d hq FW fun x=>hL (.inl x),h.other⟩;rcases hL with hL |rfl;exact h.yes k q d hq FW aF hL;rw[hr]at hq;cases hq;rw[hd]at FW;cases FW
 |some Ct=>
  simp[eS];refine⟨by simp[h.len],fun k q d hq FW aF hL=>?_,fun k q d hq FW hL=>?_,fun t ht=>?_⟩;by_cases Ve:k=i;subst Ve;rw[hr]at hq;cases hq;rw[hd]at FW;cases FW;rw[List.getElem?_set_self (by rw[h.len];exact aF)];have d5:Ct≠d:=fun e=>by have:=qzu aB jV cK hr hq (fun x=>Ve x.symm) FW;exact this (by rw[hd,e])
  rw[List.getElem?_set_ne d5];rcases hL with hL |hL;exact h.yes k q d hq FW aF hL;exact absurd hL Ve;have Ve:k≠i:=fun e=>hL (.inr e)
  have d5:Ct≠d:=fun e=>by have:=qzu aB jV cK hr hq (fun x=>Ve x.symm) FW;exact this (by rw[hd,e])
  rw[List.getElem?_set_ne d5];exact h.no k q d hq FW fun x=>hL (.inl x);have d5:Ct≠t:=fun e=>ht i r hr (by rw[hd,e]);rw[List.getElem?_set_ne d5];exact h.other t ht
omit jV cK in
def qsx:NS tm₀ rs (fun _=>False) tm₀:=⟨rfl,fun _ _ _ _ _ _ h=>h.elim,fun _ _ _ _ _ _=>rfl,fun _ _=>rfl⟩
def ax(p:Nat)(hp:p<=rs.length):NS tm₀ rs (fun k=>k<p) (yE rs tm' p):=by
 induction p with
 |zero=>rw[jV.t0];have:=qsx (rs:=rs) (tm₀:=tm₀);refine⟨this.len,fun k r d _ _ _ hL=>by omega,fun k r d h1 h2 _=>this.no k r d h1 h2 (fun x=>x),this.other⟩|succ p ih=>
  have hr:rs[p]? = some rs[p]:=by simp[show p<rs.length by omega]
  have h5:=(jV.all p _ hr).2.2.2;have sr:=ih (by omega);have e1:yE rs tm' p=rs[p].tm:=by simp[yE,hr]
  rw[e1]at sr;have:=qxk aB jV cK sr hr;rw[h5];refine⟨this.len,fun k q d a b c hL=>this.yes k q d a b c (by omega),fun k q d a b hL=>this.no k q d a b (by omega),this.other⟩
omit jV cK in
def z38{L:Nat->Prop}{a b:V U}(ha:NS tm₀ rs L a)(hb:NS tm₀ rs L b):a=b:=by
 apply List.ext_getElem?;intro t;by_cases ht:∀(k:Nat)(r:eX),rs[k]? = some r->r.o.dst≠some t;rw[ha.other t ht,hb.other t ht];have:∃(k:Nat)(r:eX),rs[k]? = some r/\r.o.dst=some t:=by apply Classical.byContradiction;intro hn;exact ht fun k r hr hd=>hn ⟨k,r,hr,hd⟩
 have⟨k,r,hr,hd⟩:=this;by_cases hL:L k;by_cases aF:t<tm₀.length;rw[ha.yes k r t hr hd aF hL,hb.yes k r t hr hd aF hL];rw[List.getElem?_eq_none (by rw[ha.len];omega),List.getElem?_eq_none (by rw[hb.len];omega)];rw[ha.no k r t hr hd hL,hb.no k r t hr hd hL]
def qz4{L:Nat->Prop}(hL:Closed aB.toList L)(h:NS tm₀ rs L tm)(hr:rs[i]? = some r)(hi:¬ L i)
  (xH:∀o,aB.toList[i]? = some o->∀e∈o.after.toList,Region.binds .any e=true->L e.on):∀t∈NV aB.toList r.o,tm[t]? = r.tm[t]?:=by
 have Jg:i<rs.length:=(zG.1 hr).1;have pE:=ax aB jV cK i (Nat.le_of_lt Jg);have e1:yE rs tm' i=r.tm:=by simp[yE,hr]
 rw[e1]at pE;intro(t:Nat) ht;by_cases fD:∀(k:Nat)(q:eX),rs[k]? = some q->q.o.dst≠some t;rw[h.other t fD,pE.other t fD];have:∃(k:Nat)(q:eX),rs[k]? = some q/\q.o.dst=some t:=by apply Classical.byContradiction;intro hn;exact fD fun k r hr hd=>hn ⟨k,r,hr,hd⟩
 have⟨k,q,hq,hd⟩:=this;have ho:=(jV.all i r hr).1;have hk:=(jV.all k q hq).1;by_cases FZ:i=k;subst FZ;rw[h.no i q t hq hd hi,pE.no i q t hq hd (by omega)];rcases(z7w cK ho hk FZ hd).2 ht with hp |hp;have hLk:=jg cK hL xH hp;have aF:=zbz cK i k hp;by_cases P3:t<tm₀.length;rw[h.yes k q t hq hd P3 hLk,pE.yes k q t hq hd P3 aF];rw[List.getElem?_eq_none (by rw[h.len];omega),List.getElem?_eq_none (by rw[pE.len];omega)];have hnk:¬ L k:=fun x=>hi (iz cK hL k i x hp)
 have aF:=zbz cK k i hp;rw[h.no k q t hq hd hnk,pE.no k q t hq hd (by omega)]
omit cK in
def Fx{p q:Nat}(TR:p<=q)(hq:q<=rs.length)(fD : ∀(e:Nat)(r:eX),p<=e->e<q->rs[e]? = some r->r.act=false): kL rs X' p=kL rs X' q:=by
  induction q with
  | zero => have : p = 0 := by omega
            rw[this]
  |succ q ih=>
    rcases Nat.lt_or_ge q p with h |h;have:p=q+1:=by omega
    rw[this];rw[ih h (by omega) fun e r h1 h2 h3=> fD e r h1 (by omega) h3];have hr:rs[q]? = some rs[q]:=by simp[show q<rs.length by omega]
    have⟨_,g2,g3,_⟩:=jV.all q _ hr;rw[g3,g2.quiet (fD q _ h (zN _) hr)];simp[kL,hr]
omit jV cK in
def zd7{i p:Nat}(h:∃(e:Nat)(q:eX),i<e/\e<p/\rs[e]? = some q/\q.act=true):∃(e:Nat)(q:eX),i<e/\e<p/\rs[e]? = some q/\q.act=true/\∀(e':Nat)(q':eX),e<e'->e'<p->rs[e']? = some q'->q'.act=false:=by
 have⟨e,q,g1,g2,g3,g5⟩:=h;have:∀(n e:Nat)(q:eX),p-e=n->i<e->e<p->rs[e]? = some q->q.act=true->∃(e:Nat)(q:eX),i<e/\e<p/\rs[e]? = some q/\q.act=true/\∀(e':Nat)(q':eX),e<e'->e'<p->rs[e']? = some q'->q'.act=false:=by
  intro n;induction n using Nat.strongRecOn with
  |_ n ihn=>intro e q d5 g1 g2 g3 g5;by_cases A8:∃(e':Nat)(q':eX),e<e'/\e'<p/\rs[e']? = some q'/\q'.act=true;have⟨e',q',k1,k2,k3,k4⟩:=A8;exact ihn (p-e') (by omega) e' q' rfl (by omega) k2 k3 k4;exact⟨e,q,g1,g2,g3,g5,fun e' q' k1 k2 k3=>by cases hb:q'.act with |false=>rfl |true=>exact absurd ⟨e',q',k1,k2,k3,hb⟩ A8⟩
 exact this _ e q rfl g1 g2 g3 g5
omit jV cK in
def z9k{i p:Nat}(h:∃(e:Nat)(q:eX),p<=e/\e<i/\rs[e]? = some q/\q.act=true):∃(e:Nat)(q:eX),p<=e/\e<i/\rs[e]? = some q/\q.act=true/\∀(e':Nat)(q':eX),p<=e'->e'<e->rs[e']? = some q'->q'.act=false:=by
 have⟨e,q,g1,g2,g3,g5⟩:=h;have:∀(e:Nat)(q:eX),p<=e->e<i->rs[e]? = some q->q.act=true->∃(e:Nat)(q:eX),p<=e/\e<i/\rs[e]? = some q/\q.act=true/\∀(e':Nat)(q':eX),p<=e'->e'<e->rs[e']? = some q'->q'.act=false:=by
  intro e;induction e using Nat.strongRecOn with
  |_ e ihn=>intro q g1 g2 g3 g5;by_cases A8:∃(e':Nat)(q':eX),p<=e'/\e'<e/\rs[e']? = some q'/\q'.act=true;have⟨e',q',k1,k2,k3,k4⟩:=A8;exact ihn e' k2 q' k1 (by omega) k3 k4;exact⟨e,q,g1,g2,g3,g5,fun e' q' k1 k2 k3=>by cases hb:q'.act with |false=>rfl |true=>exact absurd ⟨e',q',k1,k2,k3,hb⟩ A8⟩
 exact this e q g1 g2 g3 g5
variable(PH:ChU T aB.toList rs)
include hT PH
def zcg{ro:M Nat}{x0:Cx}{m0:Nm}{w0:PL}{E:Exit->Act->PL->Prop}{df:V Deferred}(hQ:∀y tv m w a,y.X=X'->St F y tm' tv m w a->bG m0 x0.s w0 m y.s w->Ke n0 x0 y->n0<=y.X.nx->a.defers=df->E .normal a w):
  ∀(fuel:Nat)(bH:H2 D1)(a:Act)(w:PL)(m:Nm)(p:Nat)(tm:V U)(tv:V O)(x:Cx),bH.size=aB.size->bH.toList.count false=fuel->
   Closed aB.toList (fun k=>bH.getD k false=true)->(∀(e:Nat)(r:eX),rs[e]? = some r->r.act=false->r.mv=true->bH.getD e false=true)->NS tm₀ rs (fun k=>bH.getD k false=true) tm->p<=rs.length-> (∀(e:Nat)(r:eX),rs[e]? = some r->r.act=true->(bH.getD e false=true↔e<p))->x.X=kL rs X' p->St F x tm tv m w a->bG m0 x0.s w0 m x.s w->Ke n0 x0 x->n0<=x.X.nx->a.defers=df->
   wpAnyIn (nO ro) 0 P .any aB E fuel bH a w:=by
 have hn:rs.length=aB.size:=by simpa using jV.len
 intro fuel;induction fuel with
 |zero=>
  intro bH a w m p tm tv x dU Wc eZ hqa tN hp qO rK nW aS eC lL j7;have cU:∀k,k<aB.size->bH.getD k false=true:=fun k hk=>by
   have vF:k<bH.size:=by omega
   have:bH[k]≠false:=fun hf=>by
    have hm:false∈bH.toList:=by rw[<-hf];simp
    have:=List.count_pos_iff.2 hm;omega
   have this':bH[k]=true:=by simpa using this
   simp[Array.getD,vF,this']
  have Ah:Region.ready .any aB bH=[]:=by
   apply List.filter_eq_nil_iff.2;intro k hk;simp[List.mem_range]at hk;have vF:k<bH.size:=by omega
   have:=cU k hk;simp[Array.getD,vF]at this;simp[Array.getD,vF,this]
  refine⟨Ah,?_⟩;have es:kL rs X' p=X':=by rw[Fx aB jV hp (zF _) fun e r h1 h2 h3=>by rcases hb:r.act with _|_;rfl;have:=(qO e r h3 hb).1 (cU e (by omega));omega];simp[kL]
  have et:tm=tm':=by
   have h1:=ax aB jV cK rs.length (zF _);have e1:yE rs tm' rs.length=tm':=by simp[yE]
   rw[e1]at h1;refine z38 (L:=fun k=>k<rs.length) ⟨tN.len,fun k r d g1 g2 g3 g4=>tN.yes k r d g1 g2 g3 (cU k (by omega)),fun k r d g1 g2 g3=>?_,tN.other⟩ h1;have:=(zG.1 g1).1;exact absurd this g3
  rw[et]at nW;exact hQ x tv m w a (rK.trans es) nW aS eC lL j7
 |succ fuel ih=>
  intro bH a w m p tm tv x dU Wc eZ hqa tN hp qO rK nW aS eC lL j7;have mem_ready:∀i,i∈Region.ready .any aB bH↔i<aB.size/\bH.getD i true=false/\∃o,aB[i]? = some o/\∀e∈o.after.toList,Region.binds .any e=true->bH.getD e.on false=true:=by
   intro i;unfold Region.ready;rw[List.mem_filter,List.mem_range];refine and_congr_right fun hi=>?_;have ho:aB[i]? = some aB[i]:=by simp[hi]
   simp only[ho,zM,Option.getD_some,Bool.and_eq_true,Bool.not_eq_true',Array.all_eq_true_iff_forall_mem,Bool.or_eq_true];refine and_congr_right fun _=>?_;constructor;intro h;refine⟨_,rfl,fun e he hb=>?_⟩;rcases h e (by simpa using he)with h1 |h1
   simp[hb]at h1;exact h1;rintro⟨o,ho',h⟩ e he;cases ho';rcases hb:Region.binds .any e with _|_;exact .inl rfl;exact .inr (h e (by simpa using he) hb)
  refine⟨fun CP=>?_,fun i hi=>?_⟩;exfalso;have uM:∃i,i<aB.size/\bH.getD i true=false:=by
   have gA:0<bH.toList.count false:=by omega
   have⟨i,hi,e⟩:=List.mem_iff_getElem.1 (List.count_pos_iff.1 gA);simp at hi;refine⟨i,by omega,?_⟩;simp[Array.getElem_toList]at e;simp[Array.getD,hi,e]
  have pO:∀n,n<aB.size->bH.getD n true=false->False:=by
   intro n;induction n using Nat.strongRecOn with
   |_ n ihn=>
    intro Jd Am;have:n∈Region.ready .any aB bH:=(mem_ready n).2 ⟨Jd,Am,aB[n],by simp[Jd],fun e he hb=>by
     have aF:=bg cK (i:=n) (o:=aB[n]) (by simp[Jd]) e he hb;have vF:e.on<bH.size:=by omega
     cases hv:bH[e.on]with|true=>simp[Array.getD,vF,hv]|false=>exact(ihn e.on aF (by omega) (by simp[Array.getD,vF,hv])).elim⟩
    rw[CP]at this;cases this
  have⟨i,h1,h2⟩:=uM;exact pO i h1 h2;have⟨hilt,Jg,o,ho,Bc⟩:=(mem_ready i).1 hi;have P8:i<bH.size:=by omega
  have pz:¬ bH.getD i false=true:=by simp[Array.getD,P8]at Jg ⊢;exact Jg
  have A6:aB.toList[i]? = some o:=by simpa using ho
  have⟨r,hr,kH⟩:=WY aB jV A6;subst kH;have xH:∀q,aB.toList[i]? = some q->∀e∈q.after.toList,Region.binds .any e=true->bH.getD e.on false=true:=fun q hq=>by rw[A6]at hq;cases hq;exact Bc
  have Ap:=qz4 aB jV cK eZ tN hr pz xH;have⟨_,KC,xF,_⟩:=jV.all i r hr;have Ja:kL rs X' i=r.s:=by simp[kL,hr]
  have tU:∀k,((bH.setIfInBounds i true).getD k false=true)↔(bH.getD k false=true\/k=i):=fun k=>by by_cases hk:k=i;subst hk;simp[Array.getD,P8];by_cases tS:k<bH.size;simp[Array.getD,tS,hk,Ne.symm hk];simp[Array.getD,tS,hk]
  have PE:Closed aB.toList (fun k=>(bH.setIfInBounds i true).getD k false=true):=fun k q hk hq e he hb=>by refine(tU e.on).2 (.inl ?_);rcases(tU k).1 hk with hk |rfl;exact eZ k q hk hq e he hb;exact xH q hq e he hb
  have Ur:∀(e:Nat)(r:eX),rs[e]? = some r->r.act=false->r.mv=true->(bH.setIfInBounds i true).getD e false=true:=fun e q h1 h2 h3=>(tU e).2 (.inl (hqa e q h1 h2 h3));have K1:NS tm₀ rs (fun k=>(bH.setIfInBounds i true).getD k false=true) (eS tm r.o.dst r.u):=by have:=qxk aB jV cK tN hr;exact⟨this.len,fun k q d a b c hL=>this.yes k q d a b c ((tU k).1 hL),fun k q d a b hL=>this.no k q d a b fun x=>hL ((tU k).2 x),this.other⟩
  have U2:(bH.setIfInBounds i true).toList.count false=fuel:=by
   have hv:bH[i]=false:=by simpa[Array.getD,P8]using Jg
   rw[Array.toList_setIfInBounds,List.count_set (by simpa using P8)];have Jl:Array.count false bH=fuel+1:=by simpa using Wc
   simp[hv];omega
  have⟨CO,Ug⟩:=ZG Ap;have stay:r.act=false->∀y d8 aK w₁ bE,y.X=kL rs X' p->St F y (eS tm r.o.dst r.u) d8 aK w₁ bE->bG m0 x0.s w0 aK y.s w₁->Ke n0 x0 y->n0<=y.X.nx->bE.defers=df->wpAnyIn (nO ro) 0 P .any aB E fuel (bH.setIfInBounds i true) bE w₁:=fun hk y d8 aK w₁ bE h1 h2 h3 h4 h5 h6=>by refine ih _ _ _ aK p _ d8 y (by simpa using dU) U2 PE Ur K1 hp (fun e q hq Jc=>?_) h1 h2 h3 h4 h5 h6;rw[tU];by_cases hei:e=i;subst hei;rw[hr]at hq;cases hq;rw[hk]at Jc;cases Jc;simp only[hei,or_false];exact qO e q hq Jc
  have past:r.act=true->kL rs X' p=r.s/\∀y d8 aK w₁ bE,y.X=r.s'->St F y (eS tm r.o.dst r.u) d8 aK w₁ bE->bG m0 x0.s w0 aK y.s w₁->Ke n0 x0 y->n0<=y.X.nx->bE.defers=df->wpAnyIn (nO ro) 0 P .any aB E fuel (bH.setIfInBounds i true) bE w₁:=fun hk=>by
   have hpi:p<=i:=by rcases Nat.lt_or_ge i p with h |h;exact absurd ((qO i r hr hk).2 h) pz;exact h
   have hil':i<rs.length:=(zG.1 hr).1;have KH:∀(e:Nat)(q:eX),p<=e->e<i->rs[e]? = some q->q.act=false:=fun e q h1 h2 h3=>by rcases hb:q.act with _|_;rfl;have:=jg cK eZ xH (PH.acts i e r q hr h3 hk hb h2);have:=(qO e q h3 hb).1 this;omega
   refine⟨(Fx aB jV hpi (by omega) KH).trans Ja,fun y d8 aK w₁ bE h1 h2 h3 h4 h5 h6=>?_⟩;refine ih _ _ _ aK (i+1) _ d8 y (by simpa using dU) U2 PE Ur K1 (by omega) (fun e q hq Jc=>?_) (h1.trans xF.symm) h2 h3 h4 h5 h6;rw[tU];by_cases hei:e=i;subst hei;simp;simp only[hei,or_false];constructor;intro Wm;have:=(qO e q hq Jc).1 Wm;omega;intro aF;exact jg cK eZ xH (PH.acts i e r q hr hq hk Jc (by omega))
  unfold wpOpIn;simp[ho];rw[ja (nW.act m (aI.refl _ _)) aB r.o];rcases KC with⟨hw,hu,ha,_⟩|⟨hw,rL,hqu⟩|⟨hw,ha,f,args,EE,lN⟩|⟨hw,ha,_,TX⟩|⟨ha,hm,_⟩|⟨hw,ha,u1,s1,d,rL,hd,CW,KD,vA⟩;rw[B8 nW.e (Ug.trans hw)];simp[Bool.false_eq_true,if_false];rw[hu]at stay;exact⟨fun _ _=>trivial,stay ha x _ m w _ rK (nW.skip r.o.dst) aS eC lL ((OC _ _ _).trans j7)⟩;rw[B8 nW.e (Ug.trans hw)];simp[if_true];cases ha:r.act with
  |true=>
   have⟨HJ,BJ⟩:=past ha;have A4:bO T x.X tm r.o.op=some (r.u,r.s'):=by rw[rK,HJ,jh CO];exact rL
   exact DT (v05 A4) (nW.op hT r.o A4 fun y d8 aK w₁ bE e1 cD bP dA oO gK=>BJ y d8 aK w₁ bE e1 cD (aS.trans bP) (eC.trans (dA.le lL)) (by omega) (gK.trans j7))
  |false=>
   have Iy:=hqu ha;have eP:bO T (kL rs X' p) r.tm r.o.op=some (r.u,kL rs X' p):=by
    rcases Nat.lt_or_ge i p with hip |hip;by_cases uM:∃(e:Nat)(q:eX),i<e/\e<p/\rs[e]? = some q/\q.act=true;have⟨e,q,g1,g2,g3,g5,g6⟩:=zd7 uM;have es:kL rs X' (e+1)=kL rs X' p:=Fx aB jV (by omega) hp fun e' q' k1 k2 k3=>g6 e' q' (by omega) k2 k3
    have eq':kL rs X' (e+1)=q.s':=(jV.all e q g3).2.2.1;rw[<-es,eq'];rcases PH.hi i e r q hr g3 ha hw rL g5 g1 with k4 |k4 |k4;have Wm:bH.getD e false=true:=(qO e q g3 g5).2 g2;exact absurd (iz cK eZ e i Wm k4) pz;rw[k4,rL,Iy];exact k4;have es:kL rs X' i=kL rs X' p:=Fx aB jV (by omega) hp fun e q k1 k2 k3=>by
     rcases Nat.lt_or_ge i e with h |h;rcases hb:q.act with _|_;rfl;exact absurd ⟨e,q,h,k2,k3,hb⟩ uM;have:e=i:=by omega
     subst this;rw[hr]at k3;cases k3;exact ha
    rw[<-es,Ja,rL,Iy];by_cases uM:∃(e:Nat)(q:eX),p<=e/\e<i/\rs[e]? = some q/\q.act=true;have⟨e,q,g1,g2,g3,g5,g6⟩:=z9k uM;have es:kL rs X' p=kL rs X' e:=Fx aB jV g1 (by have:=(zG.1 g3).1;omega) fun e' q' k1 k2 k3=>g6 e' q' k1 k2 k3;have eq':kL rs X' e=q.s:=by simp[kL,g3]
    rw[es,eq'];rcases PH.lo i e r q hr g3 ha hw rL g5 g2 with k4 |k4 |k4;have Wm:=jg cK eZ xH k4;have:=(qO e q g3 g5).1 Wm;omega;rw[k4,rL,Iy];exact k4;have es:kL rs X' p=kL rs X' i:=Fx aB jV hip (by have:=(zG.1 hr).1;omega) fun e q k1 k2 k3=>by rcases hb:q.act with _|_;rfl;exact absurd ⟨e,q,k1,k2,k3,hb⟩ uM
    rw[es,Ja,rL,Iy]
   have A4:bO T x.X tm r.o.op=some (r.u,kL rs X' p):=by rw[rK,jh CO];exact eP
   exact DT (v05 A4) (nW.op hT r.o A4 fun y d8 aK w₁ bE e1 cD bP dA oO gK=>stay ha y d8 aK w₁ bE e1 cD (aS.trans bP) (eC.trans (dA.le lL)) (by omega) (gK.trans j7))
  rw[B8 nW.e (Ug.trans hw)];simp[if_true];have⟨HJ,BJ⟩:=past ha;have hev':b7 P f args x.X (fun u X=>u=r.u/\X=r.s'):=by rw[rK,HJ];exact lN
  refine DT (Oc ((nw CO).trans EE)) (nW.call hT r.o ((nw CO).trans EE) hev' fun y u d8 aK w₁ bE hR cD bP dA oO gK=>?_);obtain⟨rfl,hR2⟩:=hR;exact BJ y d8 aK w₁ bE hR2 cD (aS.trans bP) (eC.trans (dA.le lL)) (by omega) (gK.trans j7);rw[B8 nW.e (Ug.trans hw)];simp[if_true];exact DT (TX.congr CO).nd (nW.free hT r.o (TX.congr CO) fun y d8 aK w₁ bE e1 cD bP dA oO gK=>stay ha y d8 aK w₁ bE (e1.trans rK) cD (aS.trans bP) (eC.trans (dA.le lL)) (by omega) (gK.trans j7));exact absurd (hqa i r hr ha hm) pz;rw[B8 nW.e (Ug.trans hw)];simp[if_true];have⟨HJ,BJ⟩:=past ha;have A4:bO T x.X tm r.o.op=some (u1,s1):=by rw[rK,HJ,jh CO];exact rL
  have aZ:tm.length=r.tm.length:=by
   have h1:=(ax aB jV cK i (Nat.le_of_lt (zG.1 hr).1)).len;have e1:yE rs tm' i=r.tm:=by simp[yE,hr]
   rw[e1]at h1;rw[tN.len,h1]
  exact DT (v05 A4) (nW.opfz hT r.o A4 hd (by rw[aZ];exact CW) KD vA fun y d8 aK w₁ bE e1 cD bP dA oO gK=>BJ y d8 aK w₁ bE e1 cD (aS.trans bP) (eC.trans (dA.le lL)) (by omega) (gK.trans j7))
end
end Go.Vx
namespace Go.Vx
open Go Go.Rx
def RD(P:H0)(T:Tb)(aB:V Oper):V Oper->V U->Sg->(V eX->V U->Sg->Prop)->Prop
 |[],tm,X,K=>K [] tm X|o::r,tm,X,K=>(cX aB tm o=some true/\∃u,bO T X tm o.op=some (u,X)/\RD P T aB r (eS tm o.dst u) X (fun rs=>K (⟨tm,o,u,false,false,X,X⟩::rs)))\/ (cX aB tm o=some true/\∃u X',bO T X tm o.op=some (u,X')/\RD P T aB r (eS tm o.dst u) X' (fun rs=>K (⟨tm,o,u,true,true,X,X'⟩::rs)))\/ (cX aB tm o=some true/\∃f args u,kN T tm o.op=some (f,args)/\b7 P f args X (fun u' X'=>u'=u/\X'=X)/\RD P T aB r (eS tm o.dst u) X (fun rs=>K (⟨tm,o,u,true,false,X,X⟩::rs)))\/ (cX aB tm o=some true/\∃f args u X',kN T tm o.op=some (f,args)/\b7 P f args X (fun u' s'=>u'=u/\s'=X')/\RD P T aB r (eS tm o.dst u) X' (fun rs=>K (⟨tm,o,u,true,true,X,X'⟩::rs)))\/ (cX aB tm o=some false/\RD P T aB r (eS tm o.dst (.tup [])) X (fun rs=>K (⟨tm,o,.tup [],false,false,X,X⟩::rs)))\/ (cX aB tm o=some true/\∃u,B5 P T tm o.op u/\RD P T aB r (eS tm o.dst u) X (fun rs=>K (⟨tm,o,u,false,false,X,X⟩::rs)))\/ (cX aB tm o=some true/\∃u1 s1 d u X',bO T X tm o.op=some (u1,s1)/\o.dst=some d/\d<tm.length/\Gh s1.nx [u1] s1 [u] X'/\s1.nx<=X'.nx/\RD P T aB r (eS tm o.dst u) X' (fun rs=>K (⟨tm,o,u,true,true,X,X'⟩::rs)))
def QY{P:H0}{T:Tb}{aB:V Oper}:∀(rest:V Oper)(tm:V U)(X:Sg)(K:V eX->V U->Sg->Prop),RD P T aB rest tm X K->
  ∃rs tm' X',K rs tm' X'/\rs.length=rest.length/\kL rs X' 0=X/\yE rs tm' 0=tm/\
   ∀(i:Nat)(r:eX),rs[i]? = some r->rest[i]? = some r.o/\Good P T aB r/\kL rs X' (i+1)=r.s'/\yE rs tm' (i+1)=eS r.tm r.o.dst r.u/\(r.mv=false->r.s'=r.s)/\(r.mv=true->r.act=true)
 |[],tm,X,K,h=>⟨[],tm,X,h,rfl,rfl,rfl,fun i r hr=>by simp at hr⟩|o::rest,tm,X,K,h=>by
  have step:∀(u:U)(ac mv:D1)(X1:Sg),RD P T aB rest (eS tm o.dst u) X1 (fun rs=>K (⟨tm,o,u,ac,mv,X,X1⟩::rs))->Good P T aB ⟨tm,o,u,ac,mv,X,X1⟩->(mv=false->X1=X)->(mv=true->ac=true)->
    ∃rs tm' X',K rs tm' X'/\rs.length=(o::rest).length/\kL rs X' 0=X/\yE rs tm' 0=tm/\
     ∀(i:Nat)(r:eX),rs[i]? = some r->(o::rest)[i]? = some r.o/\Good P T aB r/\kL rs X' (i+1)=r.s'/\yE rs tm' (i+1)=eS r.tm r.o.dst r.u/\(r.mv=false->r.s'=r.s)/\(r.mv=true->r.act=true):=by
   intro u ac mv X1 h hg h1 h2;have⟨rs,tm',X',g1,g2,g3,g4,g5⟩:=QY rest _ _ _ h;refine⟨_,tm',X',g1,by simp[g2],rfl,rfl,fun i r hr=>?_⟩;cases i with
   |zero=>simp at hr;subst hr;refine⟨rfl,hg,?_,?_,h1,h2⟩;simp[kL,zH];exact g3;simp[yE,zH];exact g4|succ i=>simp[zH]at hr;have⟨k1,k2,k3,k4,k5⟩:=g5 i r hr;refine⟨by simpa using k1,k2,?_,?_,k5⟩;simp[kL,zH];exact k3;simp[yE,zH];exact k4
  simp only[RD]at h;rcases h with⟨hw,u,h1,h2⟩|⟨hw,u,X1,h1,h2⟩|⟨hw,f,args,u,h1,h2,h3⟩|⟨hw,f,args,u,X1,h1,h2,h3⟩|⟨hw,h1⟩|⟨hw,u,h1,h3⟩|⟨hw,u1,s1,d,u,X1,h1,h2,h3,h4,h5,h6⟩;exact step u false false X h2 (.inr (.inl ⟨hw,h1,fun _=>rfl⟩)) (fun _=>rfl) (by simp);exact step u true true X1 h2 (.inr (.inl ⟨hw,h1,by simp⟩)) (by simp) (by simp);exact step u true false X h3 (.inr (.inr (.inl ⟨hw,rfl,f,args,h1,h2⟩))) (fun _=>rfl) (by simp);exact step u true true X1 h3 (.inr (.inr (.inl ⟨hw,rfl,f,args,h1,h2⟩))) (by simp) (by simp);exact step _ false false X h1 (.inl ⟨hw,rfl,rfl,rfl⟩) (fun _=>rfl) (by simp);exact step u false false X h3 (.inr (.inr (.inr (.inl ⟨hw,rfl,rfl,h1⟩)))) (fun _=>rfl) (by simp);exact step u true true X1 h6 (.inr (.inr (.inr (.inr (.inr ⟨hw,rfl,u1,s1,d,h1,h2,h3,h4,h5⟩))))) (by simp) (by simp)
section
variable{C:PG}{T:Tb}(hT:kT C.prog T){n0:Nat}{Q:Exit->V U->Sg->Prop}{tm:V U}{X:Sg}
include hT
def WPU.drawn{id:Nat}{aB:H2 Oper}(cK:Y9 aB.toList=true){rs:V eX}{tm':V U}{X':Sg}(jV:gp C.prog T aB.toList tm X rs tm' X')(PH:ChU T aB.toList rs)(hmv:∀(i:Nat)(r:eX),rs[i]? = some r->r.mv=true->r.act=true)(hQ:Q .normal tm' X'):WPU C n0 (.region id aB true) tm X Q:=fun hn F x tv m w a b0 hx st hG hd ro kH=>by
 apply wpIn_region_any hT.mixed;have fD:∀k,(Array.replicate aB.size false).getD k false=false:=fun k=>by by_cases hk:k<aB.size<;>simp[Array.getD,hk]
 have HL:=bG.draw (w.drawn+1) st.fits;refine zcg (ro:=ro) hT aB jV cK PH (n0:=n0) (F:=F) (x0:=x) (m0:=m) (w0:=w) (df:=a.defers) (fun y d8 m' w' a' h1 h2 h3 h4 h5 h6=>⟨y,tm',d8,m',h1 ▸ hQ,h2,h3,h4,h5,by rw[h6];exact hd.adv st.fits h3⟩) aB.size (Array.replicate aB.size false) a _ m 0 tm tv x (by simp) (by simp) ?_ (fun e r h1 h2 h3=>by have:=hmv e r h1 h3;rw[h2]at this;cases this) ?_ (Nat.zero_le _) ?_ ?_ ?_ ?_ (Ke.refl _ _) (hx ▸ hn) rfl;intro k q hk;rw[fD]at hk;cases hk;have:=qsx (rs:=rs) (tm₀:=tm);exact⟨this.len,fun k r d _ _ _ hL=>(by rw[fD]at hL;cases hL),fun k r d g1 g2 _=>this.no k r d g1 g2 (fun x=>x),this.other⟩;intro e r _ _;rw[fD];simp;rw[jV.s0];exact hx;exact⟨st.h,st.fr,st.e,(bG.draw _ st.fits).fits,st.act⟩;exact bG.draw _ st.fits
end
section
variable{K:V U->Sg->Prop}{Q:Exit->V U->Sg->Prop}{tm:V U}{X:Sg}{i j:Nat}
def Tz(h:Q .normal tm X):C5 i Q (.exit i) tm X:=by simp[C5,if_true];exact h
def Tx(lM:¬ j=i)(h:Q (.exit j) tm X):C5 i Q (.exit j) tm X:=by simp[C5,lM,if_false];exact h
end
variable{C:PG}
variable{T:Tb}
variable{aB:V Oper}
variable{r:V Oper}
variable{o:Oper}
variable{tm:V U}
variable{X:Sg}
variable{f:FuncId}
variable{args:V U}
def RU.call{K:V U->Sg->Prop}{R:U->Sg->Prop}(hw:cX aB tm o=some true)(hc:kN T tm o.op=some (f,args))(lN:b7 C.prog f args X R)
  (h:∀u X',R u X'->RU C T aB r (eS tm o.dst u) X' K):RU C T aB (o::r) tm X K:=.inr (.inl ⟨hw,f,args,R,hc,lN,h⟩)
def WPU.loopG{n0:Nat}{Q:Exit->V U->Sg->Prop}{c:Code}(v08:Nat->V U->Sg->Prop)(n:Nat)(h₀:v08 n tm X)
  (round:∀n tm X,v08 n tm X->WPU C n0 c tm X (C1 (fun tm' X'=>∃n' jG bT,n'<n/\v08 n' jG bT/\n0<=bT.nx/\Gh n0 tm' X' jG bT) Q)):WPU C n0 (.loop c) tm X Q:=by
 refine WPU.loop v08 n h₀ fun n tm X hI=>?_;apply WPU.after (round n tm X hI);intro e GT X1 hn h;cases e with
 |normal=>have⟨n',jG,bT,h1,h2,h3,h4⟩:=h;exact⟨jG,bT,h3,h4,n',h1,h2⟩
 |_=>exact⟨GT,X1,hn,Gh.refl _ _ _,h⟩
def Gh.to{n0 n1:Nat}{tm':V U}{X':Sg}(mask:V D1)(ht:B4 mask tm=tm')(hs:(⟨Vx.cut n1 X.h,n1⟩:Sg)=X')(h1:n0<=n1)(h2:n1<=X.nx)(hb:aM n1 tm')(hh:GN n1 X'.h):Gh n0 tm X tm' X':=by subst ht;subst hs;exact(Gh.junk n0 mask tm X).trans (Gh.cut h1 h2 hb hh)
def uH{v11:Type}{n:Nat}(f:v11->V U)(h:∀x,aM n (f x))(l:V v11):mR n (l.map f):=by rw[qzg];intro c hc;obtain⟨x,_,rfl⟩:=List.mem_map.1 hc;exact h x
def RF(P:H0)(T:Tb)(aB rest:V Oper)(tm:V U)(X:Sg)(fl:V (D1×D1))(K:V (D1×D1)->V U->Sg->Prop):Prop :=
 RD P T aB rest tm X (fun rs tm' X'=>K (fl++rs.map fun r=>(r.act,r.mv)) tm' X')
def RF.eq(P:H0)(T:Tb)(aB:V Oper){f g:V eX->V U->Sg->Prop}(h:f=g){rest:V Oper}(hr:RD P T aB rest tm X f):RD P T aB rest tm X g:=h ▸ hr
def z9l{K:V (D1×D1)->V U->Sg->Prop}(fl:V (D1×D1))(r:eX)(a b:D1)(h1:r.act=a)(h2:r.mv=b):
  (fun(rs:V eX) (tm:V U) (X:Sg)=>K (fl++[(a,b)]++rs.map fun r=>(r.act,r.mv)) tm X)=(fun rs=>(fun(rs:V eX) tm X=>K (fl++rs.map fun r=>(r.act,r.mv)) tm X) (r::rs)):=by subst h1;subst h2;funext rs tm X;simp
variable{u:U}
def RF.call{P:H0}{fl:V (D1×D1)}{K:V (D1×D1)->V U->Sg->Prop}(hw:cX aB tm o=some true)(hc:kN T tm o.op=some (f,args))(lN:b7 P f args X (fun u' X'=>u'=u/\X'=X))
  (h:RF P T aB r (eS tm o.dst u) X (fl++[(true,false)]) K):RF P T aB (o::r) tm X fl K:=by simp only[RF,RD];exact .inr (.inr (.inl ⟨hw,f,args,u,hc,lN,RF.eq P T aB (z9l fl _ true false rfl rfl) h⟩))
def RU.pcall{K:V U->Sg->Prop}(hw:cX aB tm o=some true)(hc:kN T tm o.op=some (f,args))(lN:b7 C.prog f args X (fun u' X'=>u'=u/\X'=X))
  (h:RU C T aB r (eS tm o.dst u) X K):RU C T aB (o::r) tm X K:=RU.call hw hc lN (fun u' X' ⟨h1,h2⟩=>by subst h1;subst h2;exact h)
def b7.pure1{P:H0}(h:b7 P f args ⟨[],0⟩ (fun u' _=>u'=u/\bA 0 u'))(ha:aM 0 args)(X:Sg):b7 P f args X (fun u' X'=>u'=u/\X'=X):=b7.pure h ha X
end Go.Vx
