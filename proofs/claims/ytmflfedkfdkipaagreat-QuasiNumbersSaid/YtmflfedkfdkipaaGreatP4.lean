import Derived.Laws.Append
import Derived.Test.YtmflfedkfdkipaaGreatP3
set_option linter.all false
namespace Go.Rx
open Go
def Eff(P:Program)(m:Nm)(s:S)(w:World)(x:Sem Value)(v:Value)(aU:S):Prop :=
 ∃aF w₁ cv,x.run P w=.ok cv w₁/\bA m s w aF aU w₁/\cZ aF aU.nx v cv
def EN(P:Program)(m:Nm)(s:S)(w:World)(x:Sem Unit)(aU:S):Prop :=
 ∃aF w₁,x.run P w=.ok () w₁/\bA m s w aF aU w₁
theorem cZ.cells{m:Nm}{n:Nat}{v cv:Value}(h:cZ m n v cv):j5 m n v.cells.toList cv.cells.toList:=fun m' ha=>by
 rw[<-h m' ha,En,gN]
variable{m:Nm}
variable{n:Nat}
variable{l:List Value}
theorem Er(h:∀m',aD m' l=l):j5 m n l l:=fun m' _=>h m'
variable{v:Value}
theorem oO(h:∀m',ren m' v=v):cZ m n v v:=fun m' _=>h m'
theorem j5.append{a b ca cb:List Value}(h:j5 m n a ca)(h':j5 m n b cb):j5 m n (a++b) (ca++cb):=fun m' ha=>by
 rw[BO,h m' ha,h' m' ha]
theorem pR(m:Nm)(i b sh cp:Nat):(m.set i b sh cp).blk i=b/\(m.set i b sh cp).sh i=sh/\(m.set i b sh cp).cp i=cp:=by simp[Nm.set]
variable{s:S}
theorem Yx(b sh cp n:Nat)(hn:s.nx<n):cZ (m.set s.nx b sh cp) n (.pointer (some ⟨s.nx,0,none⟩)) (.pointer (some ⟨b,sh,none⟩)):=fun m' ha=>by
 obtain⟨h1,h2,_⟩:=ha s.nx hn;obtain⟨e1,e2,_⟩:=pR m s.nx b sh cp;simp[ren,h1,h2,e1,e2]
variable{w:World}
theorem Dk(hf:dS m s w){cl:List Value}(hl:j5 m s.nx l cl)(e:TypeId)(cp:Nat):
  bA m s w (m.set s.nx w.heap.size 0 cp) (newRow s l e 0) (w.alloc (.cells ⟨cl⟩ e)):=by
 refine bA.alloc hf _ _ cp fun m' ha=>?_;have ha':aG s.nx m m':=(Nm.agree_set m s.nx w.heap.size 0 cp).trans ha (Nat.le_succ _);obtain⟨h1,h2,_⟩:=ha s.nx (zN _);obtain⟨e1,e2,_⟩:=pR m s.nx w.heap.size 0 cp;refine⟨by rw[h2,e2],?_⟩;rw[h1,e1,hl m' ha'];show(w.heap.push _)[w.heap.size]? = _;simp
theorem Ft(hf:dS m s w){cl rest:List Value}(hl:j5 m s.nx l cl)(e:TypeId)(cp sz:Nat)(hlen:l.length+rest.length=cp*sz):
  bA m s w (m.set s.nx w.heap.size 0 cp) (newRow s l e (sz+2)) (w.alloc (.cells ⟨cl++rest⟩ e)):=by
 refine bA.alloc hf _ _ cp fun m' ha=>?_;have ha':aG s.nx m m':=(Nm.agree_set m s.nx w.heap.size 0 cp).trans ha (Nat.le_succ _);obtain⟨h1,h2,h3⟩:=ha s.nx (zN _);obtain⟨e1,e2,e3⟩:=pR m s.nx w.heap.size 0 cp;refine⟨[],rest,?_,by simp[h2,e2],by rw[h3,e3,hlen]⟩;rw[h1,e1,hl m' ha'];show(w.heap.push _)[w.heap.size]? = _;simp
theorem Pm{e:TypeId}{md:Nat}(h:md≠1):Own (.inl (l,e,md))=true:=by
 rcases md with _ |_ |n<;>simp_all[Own]
theorem Ee{P:Program}(hf:dS m s w){i off:Nat}{l' vs cvs:List Value}{e:TypeId}{md:Nat}(hr:bR s i=some (l,e,md))(hp:lV l off vs=some l')
  (hv:j5 m s.nx vs cvs) (h1:lI vs=true):
  ∃w₁,(storeCells ⟨m.blk i,m.sh i+off,none⟩ cvs 0).run P w=.ok () w₁/\bA m s w m ⟨up s.h i (.inl (l',e,md)),s.nx⟩ w₁:=by
 obtain⟨hl,hmd⟩:=Fi hr;obtain⟨hlen,hl'⟩:=ze hp;have hone:∀v∈cvs,v.oneCell'=true:=by rw[<-hv.at];exact xi h1
 have hcl:cvs.length=vs.length:=by rw[<-hv.at];simp
 rcases md with _ |_ |n;have h0:∀m',aG s.nx m m'->m'.sh i=0/\w.heap[m'.blk i]? = some (.cells (aD m' l).toArray e (0,0)):=fun m' ha=>(hf m' ha).ok i _ hl
 obtain⟨hsh,hb⟩:=h0 m (aG.refl _ _);have hst:=run_storeCells_at P (m.blk i) off e cvs 0 _ w hb (by simp;omega) hone;simp only[Nat.add_zero]at hst;rw[hsh,Nat.zero_add];refine⟨_,hst,bA.write hf hl (Pm hmd) (fun k hk=>setRow_other w _ k _ hk) (by simp) rfl rfl rfl (zF _) fun m' ha=>?_⟩;obtain⟨hsh',hb'⟩:=h0 m' ha;have hbi:m'.blk i=m.blk i:=(ha i ((hf.fits).bd i _ hl)).1;refine⟨hsh',?_⟩;rw[hbi,setRow_heap w _ _ _ e (0,0) hb];rw[hbi]at hb';have hrl:aD m' l=aD m l:=by have:=hb.symm.trans hb';simp at this;exact this.symm
 rw[hl',BO,BO,hv m' ha];have e1:aD m' (l.take off)=(aD m l).take off:=by rw[<-hrl];simp[hX,List.map_take]
 have e2:aD m' (l.drop (off+vs.length))=(aD m l).drop (off+cvs.length):=by rw[<-hrl,hcl];simp[hX,List.map_drop]
 rw[e1,e2];exact absurd rfl hmd;have h0:∀m',aG s.nx m m'->∃pr rest,w.heap[m'.blk i]? = some (.cells (pr++aD m' l++rest).toArray e (0,0))/\pr.length=m'.sh i/\l.length+rest.length=m'.cp i*n:=fun m' ha=>(hf m' ha).ok i _ hl;obtain⟨pr,rest,hb,hpr,hrest⟩:=h0 m (aG.refl _ _);have hst:=run_storeCells_at P (m.blk i) (m.sh i+off) e cvs 0 _ w hb (by simp;omega) hone;simp only[Nat.add_zero]at hst;refine⟨_,hst,bA.write hf hl (Pm hmd) (fun k hk=>setRow_other w _ k _ hk) (by simp) rfl rfl rfl (zF _) fun m' ha=>?_⟩;obtain⟨pr',rest',hb',hpr',hrest'⟩:=h0 m' ha;obtain⟨hbi,hsi,hci⟩:=ha i ((hf.fits).bd i _ hl);rw[hbi]at hb';have hall:pr'++aD m' l++rest'=pr++aD m l++rest:=by have:=hb.symm.trans hb';simp at this;simpa using this.symm
 have hpp:pr'=pr/\aD m' l=aD m l/\rest'=rest:=by rw[zT,zT]at hall;obtain⟨e1,e2⟩:=List.append_inj hall (by rw[hpr',hpr,hsi]);obtain⟨e3,e4⟩:=List.append_inj e2 (by simp);exact⟨e1,e3,e4⟩
 refine⟨pr,rest,?_,by rw[hsi,hpr],?_⟩;rw[hbi,setRow_heap w _ _ _ e (0,0) hb];rw[hl',BO,BO,hv m' ha];have e1:aD m' (l.take off)=(aD m l).take off:=by rw[<-hpp.2.1];simp[hX,List.map_take]
 have e2:aD m' (l.drop (off+vs.length))=(aD m l).drop (off+cvs.length):=by rw[<-hpp.2.1,hcl];simp[hX,List.map_drop]
 rw[e1,e2];congr 2;simp only[zT];rw[<-hpr,List.take_append,zW (by omega),Nat.add_sub_cancel_left,List.take_append_of_le_length (by simp;omega)];rw[List.drop_append,List.drop_of_length_le (by omega),List.nil_append,show pr.length+off+cvs.length-pr.length=off+cvs.length by omega,List.drop_append_of_le_length (by simp;omega)];simp;rw[hci,<-hrest,hl'];simp;omega
section
variable{P:Program}{T:Tb}(hT:eZ P T){m:Nm}{s:S}{w:World}(hf:dS m s w)
include hT hf
theorem uj{t:TypeId}{p cp cv u:Value}{aU:S}(hp:cZ m s.nx p cp)(hv:cZ m s.nx v cv)(h:PO T s t p v=some (u,aU)):
  EN P m s w (Instr.storeAt t cp cv) aU/\u=undef:=by
 unfold PO at h;cases p with
 |pointer q=>
  rcases q with _|a;simp at h;simp only[beq_eq]at h;rcases hs:bJ T t with _|n;simp[hs]at h;simp only[hs]at h;by_cases hn:v.cells.toList.length=n;simp only[hn,yC,zC]at h;rcases h1:lI v.cells.toList with _|_;simp[h1]at h;simp only[h1,zC]at h;rcases hr:bR s a.block with _|r;simp[hr]at h;obtain⟨l,e,md⟩:=r;simp only[hr]at h;rcases hq:lV l a.off v.cells.toList with _|l';simp[hq]at h;simp only[hq,zA,zB]at h;obtain⟨rfl,rfl⟩:=h;refine⟨?_,rfl⟩;obtain⟨w₁,hrun,hadv⟩:=Ee (P:=P) hf hr hq hv.cells h1;refine⟨m,w₁,?_,hadv⟩;have hcp:cp=.pointer (some ⟨m.blk a.block,m.sh a.block+a.off,none⟩):=by rw[<-hp.at];simp[ren]
  have hsz:cv.cells.size=n:=by
   have:cv.cells.toList.length=n:=by rw[<-hv.cells.at];simpa using hn
   simpa using this
  subst hcp;simp[Instr.storeAt,Instr.sureAddr,storeVar,i4 hT w hs,hsz,hrun];simp only[hn,yB,zD]at h;cases h
 |_=>simp at h
omit hT hf in
theorem V6(z:Array Value)(n:Nat):(Array.range (n*z.size)).map (fun i=>z[i%z.size]!)=⟨bI z.toList n⟩:=by
 apply Array.ext';simp only[Array.toList_map,Array.toList_range];rcases Nat.eq_zero_or_pos z.size with h0 |hpos;have hz:z= #[]:=by simpa using h0
 subst hz;induction n with
 |zero=>simp[bI]|succ n ih=>simp[bI]at ih ⊢;exact ih
 induction n with
 |zero=>simp[bI]|succ n ih=>
  have e:(n+1)*z.size=z.size+n*z.size:=by rw[Nat.add_mul];omega
  rw[e,List.range_add,List.map_append,bI,<-ih];congr 1;apply List.ext_getElem?;intro i;by_cases hi:i<z.size;simp[hi,Nat.mod_eq_of_lt hi];simp[hi];rw[List.map_map];apply List.map_congr_left;intro i _;simp
omit hT hf in
theorem Ed(z:List Value)(n:Nat):(bI z n).length=n*z.length:=by
 induction n with|zero=>simp[bI]|succ n ih=>simp[bI,ih,Nat.add_mul];omega
omit hT hf in
theorem VS{z:List Value}(h:∀m',aD m' z=z)(n:Nat)(m':Nm):aD m' (bI z n)=bI z n:=by
 induction n with|zero=>simp[bI,aD]|succ n ih=>simp[bI,BO,ih,h]
omit hf in
theorem R3{t:TypeId}{x:Nat×Nat×Value}(h:T.inf t=some x)(m':Nm):aD m' x.2.2.cells.toList=x.2.2.cells.toList:=by
 have:=(tM hT m' default h).2;rw[<-gN,<-En,this]
omit hT hf in
theorem DB{b sh cp n len c c':Nat}(hn:s.nx<n)(hc:∀m',aG n (m.set s.nx b sh cp) m'->bF m' s.nx c=c'):
  cZ (m.set s.nx b sh cp) n (.slice (some ⟨s.nx,0,none⟩) len c) (.slice (some ⟨b,sh,none⟩) len c'):=fun m' ha=>by
 obtain⟨h1,h2,_⟩:=ha s.nx hn;obtain⟨e1,e2,_⟩:=pR m s.nx b sh cp;simp[ren,h1,h2,e1,e2,hc m' ha]
theorem da{t:TypeId}{ps:List (Nat×Value)}{aU:S}{cps:List (Nat×Value)}(hps:∀m',aG s.nx m m'->ps.map (fun p=>(p.1,ren m' p.2))=cps)
  (h:VU T s t n ps=some (v,aU)):Eff P m s w (Instr.buildSlice t n cps.toArray) v aU:=by
 unfold VU at h;rcases hd:T.und t with _|d;simp[hd]at h;cases d with
 |slice e=>
  simp only[hd]at h;rcases hi:T.inf e with _|x;simp[hi]at h;obtain⟨sz,by_,z⟩:=x;have hsz:bJ T e=some sz:=by simp[bJ,hi]
  have hz:=fun m'=>tM hT m' w hi;have hzc:=R3 hT hi;simp only at hz hzc;simp only[hi,beq_eq]at h;rcases h1:Nat.ble (n*sz) 16777216 with _|_
  simp[h1]at h;simp only[h1,zC]at h;have mW:n*sz<=16777216:=by simpa[Nat.ble_eq]using h1
  by_cases h2:z.cells.toList.length=sz;simp only[h2,yC,zC]at h;rcases h3:tH (fun i=>some (i*sz,sz)) (bI z.cells.toList n) ps with _|cs;simp[h3]at h;rcases h4:Nat.blt n b7 with _|_;simp[h3,h4]at h;have Tn:n<b7:=by simpa[Nat.blt_eq]using h4
  simp only[h3,h4,zC,zA,zB]at h;obtain⟨rfl,rfl⟩:=h;have hfill:∀m',aG s.nx m m'->Instr.fill (fun i=>some (i*sz,sz)) ⟨bI z.cells.toList n⟩ cps=some ⟨aD m' cs⟩:=fun m' ha=>by have:=V4 m' _ ps _ _ h3;rw[hps m' ha,VS hzc]at this;exact this
  obtain⟨cl,hcl⟩:∃cl,j5 m s.nx cs cl:=⟨aD m cs,fun m' ha=>by have e1:=hfill m' ha;have e2:=hfill m (aG.refl _ _);rw[e1]at e2;simpa using e2⟩;have hcells:z.cells.size=sz:=by simpa using h2
  refine⟨_,_,.slice (some ⟨w.heap.size,0,none⟩) n n,?_,Dk hf hcl e 0,?_⟩;have hzeros:(Array.range (n*sz)).map (fun i=>(if n*sz=0 then(#[]:Array Value)else z.cells)[i%(if n*sz=0 then(#[]:Array Value)else z.cells).size]!)=⟨bI z.cells.toList n⟩:=by
   by_cases h0:n*sz=0;rw[h0];apply Array.ext';have:(bI z.cells.toList n).length=0:=by rw[Ed,h2,h0]
   simp[List.length_eq_zero_iff.1 this];simp only[if_neg h0];have:=V6 z.cells n;rw[hcells]at this;rw[<-this];simp[hcells]
  have hf2:=hfill m (aG.refl _ _);rw[hcl.at]at hf2;have hnot:¬ n*sz>2^24:=by omega
  have hzz:=(hz m).1;by_cases h0:n*sz=0;simp only[if_pos h0]at hzeros;simp only[Instr.buildSlice,zK,dH hT w hd,zJ,i4 hT w hsz,Sem.run_ite,if_neg hnot,zL,if_pos h0];rw[hzeros,hf2];simp[Go.newRow];simp only[if_neg h0]at hzeros;simp only[Instr.buildSlice,zK,dH hT w hd,zJ,i4 hT w hsz,Sem.run_ite,if_neg hnot,zL,if_neg h0,hzz];rw[hzeros,hf2];simp[Go.newRow];refine DB (zN _) fun m' _=>?_;simp[bF,Tn];simp only[h2,yB,zD]at h;cases h
 |_=>simp[hd]at h
end
variable{n:Nat}
theorem tu{m:Nm}{s:S}{w:World}(hf:dS m s w){b:Option Addr}{cs:List Value}(h:jQ s b n=some cs):
  cs.length=n/\∃ccs,j5 m s.nx cs ccs/\∀a,b=some a->∀j u,ccs[j]? = some u->w.cell? ((⟨m.blk a.block,m.sh a.block+a.off,none⟩:Addr).add j)=some u:=by
 cases n with
 |zero=>simp[jQ]at h;subst h;exact⟨rfl,[],fun _ _=>by simp[aD],fun _ _ j u hu=>by simp at hu⟩|succ n=>
  simp only[jQ]at h;rcases b with _|a;simp at h;simp only at h;rcases hl:lk s.h a.block with _|blk;simp[hl]at h;rcases blk with⟨l,e,md⟩|x;simp only[hl]at h;have hc:∀m',aG s.nx m m'->∀j v,cs[j]? = some v->w.cell? ⟨m.blk a.block,m.sh a.block+(a.off+j),none⟩=some (ren m' v):=fun m' ha j v hj=>by have hr:pN m' a.block l e w md:=(hf m' ha).ok _ _ hl;have:=hr.cell (Wz h hj);obtain⟨e1,e2,_⟩:=ha a.block ((hf.fits).bd _ _ hl);rw[e1,e2]at this;exact this
  refine⟨Mw h,aD m cs,fun m' ha=>?_,?_⟩;rw[hX,hX];apply List.map_congr_left;intro v hv;obtain⟨j,hj⟩:=List.getElem?_of_mem hv;have e1:=hc m' ha j v hj;have e2:=hc m (aG.refl _ _) j v hj;rw[e1]at e2;simpa using e2;rintro _ ⟨rfl⟩ j u hu;rw[hX,List.getElem?_map]at hu;rcases hj:cs[j]? with _|v;simp[hj]at hu;simp[hj]at hu;subst hu;rw[o3,Nat.add_assoc];exact hc m (aG.refl _ _) j v hj;simp[hl]at h
theorem ui(x K d n k z:Nat):x+K*z-(x+d*z+n*z+k*z)=(K-(d+n+k))*z:=by
 rw[Nat.sub_mul,Nat.add_mul,Nat.add_mul];omega
theorem bq(n k K d:Nat)(h:n+k<=K-d):n+k+(K-(d+n+k))=K-d:=by omega
def iB(m:Nm):Option Addr->Nat->Nat
 |none,c=>c|some a,c=>bF m a.block c
theorem bA.rename{m:Nm}{s:S}{w w':World}(h:dS m s w){i:Nat}{b b':i5}(hb:lk s.h i=some b)(hob:Own b=true)(sh' cp':Nat)
  (hw:∀k,k≠m.blk i->w'.heap[k]? = w.heap[k]?) (hsz:w'.heap.size=w.heap.size) (h1:w'.os=w.os) (h2:w'.tape=w.tape) (h3:w'.output=w.output) (_h4:w.drawn<=w'.drawn)
  (hc:∀m',aG (s.nx+1) (m.set s.nx (m.blk i) sh' cp') m'->nX m' s.nx w' b'):
  bA m s w (m.set s.nx (m.blk i) sh' cp') ⟨(s.nx,b')::rm s.h i,s.nx+1⟩ w':=by
 have hbi:i<s.nx:=(h.fits).bd i b hb;have key:∀j d,s.nx≠j->lk ((s.nx,b')::rm s.h i) j=some d->lk s.h j=some d/\i≠j:=fun j d hj hd=>by simp only[iD,hj,if_false,PE]at hd;by_cases e:i=j;simp[e]at hd;simp only[e,if_false]at hd;exact⟨hd,e⟩
 refine⟨Nm.agree_set m _ _ _ _,Nat.le_succ _,?_,?_,?_,by omega,h1,h2,h3⟩;intro m' ha;have ha':aG s.nx m m':=(Nm.agree_set m s.nx (m.blk i) sh' cp').trans ha (Nat.le_succ _);have hf:=h m' ha';have hnew:m'.blk s.nx=m.blk i:=by have:=(ha s.nx (zN _)).1;simpa[Nm.set]using this
 have hmi:m'.blk i=m.blk i:=(ha' i hbi).1;refine⟨fun j d hd=>?_,fun j k d d' hd hd' hjk ho=>?_,fun j d hd=>?_⟩;by_cases e:s.nx=j;subst e;simp only[iD,if_true,zA]at hd;subst hd;exact hc m' ha;obtain⟨hd',hij⟩:=key j d e hd;refine(hf.ok j d hd').world (hw _ ?_);rw[<-hmi];exact fun x=>hf.inj i j b d hb hd' hij hob x.symm;by_cases e:s.nx=j;subst e;obtain⟨hk,hik⟩:=key k d' hjk hd';rw[hnew,<-hmi];exact hf.inj i k b d' hb hk hik hob;obtain⟨hj,hij⟩:=key j d e hd;by_cases e2:s.nx=k;subst e2;rw[hnew,<-hmi];exact fun x=>hf.inj i j b d hb hj hij hob x.symm;obtain⟨hk,hik⟩:=key k d' e2 hd';exact hf.inj j k d d' hj hk hjk ho;by_cases e:s.nx=j;subst e;exact zN _;exact Nat.lt_succ_of_lt (hf.bd j d (key j d e hd).1);rintro k ⟨j,d,hd,ho,rfl⟩;left;by_cases e:s.nx=j;subst e;exact⟨i,b,hb,hob,by simp[Nm.set]⟩;obtain⟨hj,_⟩:=key j d e hd;have:=(h.fits).bd j d hj;exact⟨j,d,hj,ho,by simp[Nm.set,show j≠s.nx by omega]⟩;intro k hk hn;exact hw k fun e=>hn ⟨i,b,hb,hob,e.symm⟩
theorem dV(z:Array Value)(n:Nat):(Builtin.zeroCells z n).size=n*z.size:=by simp[Builtin.zeroCells]
theorem wt{b:Nat}(h:oK n b=true):n*b<=140737488355328/\n<=140737488355328:=by
 unfold oK at h;rcases h1:Nat.ble (n*b) 140737488355328 with _|_;simp[h1]at h;simp only[h1,zC]at h;exact⟨by simpa[Nat.ble_eq]using h1,by simpa[Nat.ble_eq]using h⟩
theorem KZ(m:Nm)(i:Nat):bF m i b7=m.cp i:=by simp[bF,aW]
section
variable{P:Program}{T:Tb}(hT:eZ P T){m:Nm}{s:S}{w:World}(hf:dS m s w)
include hT hf
variable{t:TypeId}
variable{v:Value}
variable{aU:S}
theorem lp{l c cl cc:Value}(hl:cZ m s.nx l cl)(hc:cZ m s.nx c cc)(h:U4 T s t l c=some (v,aU)):Eff P m s w (Instr.makeSlice t cl cc) v aU:=by
 unfold U4 at h;rcases hd:T.und t with _|d;simp[hd]at h;cases d with
 |slice e=>
  simp only[hd]at h;cases l with
  |int k1 a=>
   cases c with
   |int k2 b=>
    simp only at h;have e1:cl=.int k1 a:=by rw[<-hl.at];simp[ren]
    have e2:cc=.int k2 b:=by rw[<-hc.at];simp[ren]
    subst e1 e2;rcases hi:T.inf e with _|x;simp[hi]at h;obtain⟨sz,by_,z⟩:=x;have hsz:bJ T e=some sz:=by simp[bJ,hi]
    have hz:=fun m'=>tM hT m' w hi;have hzc:=R3 hT hi;simp only at hz hzc;obtain⟨_,i,y5,ZA,GY,kq⟩:=hT.inf e _ _ _ hi;simp only[hi,beq_eq]at h;cases hwa:IntKind.i64.wrap a with
    |negSucc x=>simp[hwa]at h|ofNat n=>
     cases hwb:IntKind.i64.wrap b with
     |negSucc x=>simp[hwa,hwb]at h|ofNat k=>
      simp only[hwa,hwb]at h;rcases h1:Nat.ble n k with _|_;simp[h1]at h;rcases h2:Nat.ble (by_*k) 281474976710656 with _|_;simp[h1,h2]at h;by_cases h3:z.cells.toList.length=sz;rcases h4:Nat.blt k b7 with _|_;simp only[h1,h2,h3,h4,zC,yC,zD]at h;cases h;simp only[h1,h2,h3,h4,zC,yC,zA,zB]at h;obtain⟨rfl,rfl⟩:=h;have mW:n<=k:=by simpa[Nat.ble_eq]using h1
      have sQ:by_*k<=281474976710656:=zY h2;have Tn:k<b7:=by simpa[Nat.blt_eq]using h4
      have hcells:z.cells.size=sz:=by simpa using h3
      refine⟨_,_,.slice (some ⟨w.heap.size,0,none⟩) n k,?_,Dk hf (Er (VS hzc k)) e 0,?_⟩;have hlarge:∀q:Nat,q<=k->(decide ((q:Int)<0)||decide ((i.bytes:Int)*(q:Int)>2^48))=false:=by intro q hq;have:by_*q<=281474976710656:=Nat.le_trans (Nat.mul_le_mul_left _ hq) sQ;have h':((by_*q:Nat):Int)<=((281474976710656:Nat):Int):=Int.ofNat_le.2 this;simp only[Bool.or_eq_false_iff,decide_eq_false_iff_not,GY];refine⟨by omega,?_⟩;rw[Int.natCast_mul]at h';simp only[gt_iff_lt,Int.not_lt];exact h'
      have hzeros:(Array.range (k*sz)).map (fun i=>(if k*sz=0 then(#[]:Array Value)else z.cells)[i%(if k*sz=0 then(#[]:Array Value)else z.cells).size]!)=⟨bI z.cells.toList k⟩:=by
       by_cases h0:k*sz=0;rw[h0];apply Array.ext';have:(bI z.cells.toList k).length=0:=by rw[Ed,h3,h0]
       simp[List.length_eq_zero_iff.1 this];simp only[if_neg h0];have:=V6 z.cells k;rw[hcells]at this;rw[<-this];simp[hcells]
      have hno:(((decide ((k:Int)<0)||decide ((i.bytes:Int)*(k:Int)>2^48))||decide ((n:Int)<0))||decide ((n:Int)>(k:Int)))=false:=by rw[hlarge k (zF _)];simp;omega
      have hwa':IntKind.i64.wrap a=(n:Int):=hwa;have hwb':IntKind.i64.wrap b=(k:Int):=hwb;have hzz:=(hz m).1;simp only[Instr.makeSlice,zK,dH hT w hd,zJ,asInt,asIntOf,zL,typeInfo,run_program,y5,hwa',hwb',Sem.run_ite,hno,Bool.false_eq_true,if_false,run_askRoom,zZ,i4 hT w hsz];by_cases h0:k*sz=0;simp only[if_pos h0]at hzeros;simp only[if_pos h0];rw[hzeros];simp[Go.newRow];simp only[if_neg h0]at hzeros;simp only[if_neg h0,hzz,zJ];rw[hzeros];simp[Go.newRow];refine DB (zN _) fun m' _=>?_;simp[bF,Tn];simp only[h1,h2,h3,zC,yB,zD]at h;cases h
   |_=>simp at h
  |_=>simp at h
 |_=>simp[hd]at h
omit hf in
theorem WM{t xt ty e e2:TypeId}{size:Nat}(ht:T.und t=some (.slice e))(hx:T.und xt=some (.slice e2))(hs:bJ T e=some size){base xb:Option Addr}{n C k xc:Nat}{cnew:Array Value}{w₁:World}
  (hnew:(Builtin.firstCells size k (.slice xb k xc)).run P w=.ok cnew w) (hroom:n+k<=C)
  (hst:∀a,base=some a->(storeCells (a.add (n*size)) cnew.toList).run P w=.ok () w₁) (hno:base=none->w₁=w):
  (Builtin.append_ #[t,xt] ty #[.slice base n C,.slice xb k xc]).run P w=.ok (.slice base (n+k) C) w₁:=by
 cases base with|none=>rw[hno rfl];simp[Builtin.append_,dH hT w ht,dH hT w hx,i4 hT w hs,Builtin.lenOf,hroom,hnew]|some a=>simp[Builtin.append_,dH hT w ht,dH hT w hx,i4 hT w hs,Builtin.lenOf,hroom,hnew,hst a rfl]
omit hf in
theorem eN{t xt ty e e2:TypeId}{size by_:Nat}{z:Value}(ht:T.und t=some (.slice e))(hx:T.und xt=some (.slice e2))(hi:T.inf e=some (size,by_,z)){base xb:Option Addr}{n C k xc:Nat}{cnew cold:Array Value}
  (hnew:∀w',w'.heap=w.heap->(Builtin.firstCells size k (.slice xb k xc)).run P w'=.ok cnew w') (hold:∀w',w'.heap=w.heap->(Builtin.firstCells size n (.slice base n C)).run P w'=.ok cold w')
  (hroom:C<n+k) (hr:oK (n+k) by_=true):
  (Builtin.append_ #[t,xt] ty #[.slice base n C,.slice xb k xc]).run P w=
   .ok (.slice (some ⟨w.heap.size,0,none⟩) (n+k) ((Question.appendCap (n+k) C e).cut (w.tape w.drawn (.appendCap (n+k) C e)))) ((w.drew).alloc (.cells (cold++cnew++Builtin.zeroCells z.cells (((Question.appendCap (n+k) C e).cut (w.tape w.drawn (.appendCap (n+k) C e)))-(n+k))) e)):=by
 obtain⟨r1,r2⟩:=wt hr;obtain⟨_,i,y5,ZA,GY,kq⟩:=hT.inf e _ _ _ hi;have hs:bJ T e=some size:=by simp[bJ,hi]
 have g1:¬ n+k<=C:=by omega
 have g2:¬ (((n+k:Nat):Int)>IntKind.i64.max/\(False\/i.bytes=0)):=by rw[IntKind.max_i64];omega
 have g3:¬ Builtin.nextslicecap (n+k) C*i.bytes>2^48:=by have:=growslice_fits (bytes:=i.bytes) hroom (by rw[GY];exact r1);omega
 have hn:=hnew w.drew rfl;have ho:=hold w.drew rfl;have hdr:({ w with drawn:=w.drawn+1 }:World)=w.drew:=rfl;have hz:(zeroValue e).run P w.drew=.ok z w.drew:=(tM hT (⟨id,id,id⟩:Nm) w.drew hi).1;simp[Builtin.append_,dH hT w ht,dH hT w hx,i4 hT w hs,Builtin.lenOf,if_neg g1,typeInfo,y5];have rz:¬ (9223372036854775807<(n:Int)+(k:Int)/\i.bytes=0):=by omega
 have ru:¬ 281474976710656<Builtin.nextslicecap (n+k) C*i.bytes:=g3;have hff:(Question.appendCap (n+k) C e).forced=false:=rfl;simp only[if_neg rz,if_neg ru,hff,Bool.false_eq_true,if_false,ho,hn,hz,zJ];simp[Go.newRow];rfl
omit hf in
theorem xw{t xt ty e e2:TypeId}{size by_:Nat}{z:Value}(ht:T.und t=some (.slice e))(hx:T.und xt=some (.slice e2))(hi:T.inf e=some (size,by_,z)){base xb:Option Addr}{n C k xc:Nat}{cnew cold:Array Value}
  (hnew:∀w',w'.heap=w.heap->(Builtin.firstCells size k (.slice xb k xc)).run P w'=.ok cnew w') (hold:∀w',w'.heap=w.heap->(Builtin.firstCells size n (.slice base n C)).run P w'=.ok cold w')
  (hroom:C<n+k) (hr:oK (n+k) by_=true):
  ∃nc,n+k<=nc/\(Builtin.append_ #[t,xt] ty #[.slice base n C,.slice xb k xc]).run P w=
   .ok (.slice (some ⟨w.heap.size,0,none⟩) (n+k) nc) ((w.drew).alloc (.cells (cold++cnew++Builtin.zeroCells z.cells (nc-(n+k))) e)):=
 ⟨_,by simp[Question.cut],eN hT ht hx hi hnew hold hroom hr⟩
omit hT in
theorem VM{b:Option Addr}{n size:Nat}{cs:List Value}(h:jQ s b (n*size)=some cs):
  ∃ccs,j5 m s.nx cs ccs/\cs.length=n*size/\∀w',w'.heap=w.heap->∀len cap,(Builtin.firstCells size n (.slice (b.map fun a=>⟨m.blk a.block,m.sh a.block+a.off,none⟩) len cap)).run P w'=.ok ⟨ccs⟩ w':=by
 obtain⟨h1,ccs,h2,h3⟩:=tu hf h;refine⟨ccs,h2,h1,fun w' hw len cap=>?_⟩;have hl:ccs.length=n*size:=by rw[<-h2.at];simp[h1]
 cases b with
 |none=>
  have:n*size=0:=by cases hz:n*size with|zero=>rfl|succ k=>rw[hz]at h;simp[jQ]at h
  have:ccs=[]:=List.length_eq_zero_iff.1 (by omega);subst this;simp[Builtin.firstCells]
 |some a=>exact run_firstCells_some w' size n _ len cap ccs hl (fun j u hu=>by have:=h3 a rfl j u hu;rw[<-this];simp[World.cell?,hw])
omit hT in
theorem ym{i c sz:Nat}{l:List Value}{e:TypeId}(hl:lk s.h i=some (.inl (l,e,sz+1+2))){off n:Nat}(ho:off=aW c*(sz+1))(hn:off+n*(sz+1)<=l.length):n+aW c<=m.cp i:=by
 obtain⟨pr,rest,_,_,h3⟩:=(hf.fits).ok i _ hl;have:(n+aW c)*(sz+1)<=m.cp i*(sz+1):=by rw[Nat.add_mul];omega
 exact Nat.le_of_mul_le_mul_right this (by omega)
variable{xt:TypeId}
variable{ty:TypeId}
variable{csv:Value}
theorem am{e e2:TypeId}{sz by_:Nat}{z:Value}(hd:T.und t=some (.slice e))(bX:T.und xt=some (.slice e2))(hi:T.inf e=some (sz+1,by_,z)){a:Addr}{l p new cnew:List Value}{c k:Nat}{xb:Option Addr}{xc:Nat}
  (hr:bR s a.block=some (l,e,sz+1+2)) (hoff:a.off=aW c*(sz+1)) (hc:¬ c<b7) (hroom:oK (n+(k+1)) by_=true) (hzl:z.cells.toList.length=sz+1)
  (hg:nS l a.off (n*(sz+1))=some p) (hcn:j5 m s.nx new cnew) (hnl:new.length=(k+1)*(sz+1)) (h1:lI new=true)
  (hfirst:∀w',w'.heap=w.heap->∀len cap,(Builtin.firstCells (sz+1) (k+1) (.slice (xb.map fun a=>⟨m.blk a.block,m.sh a.block+a.off,none⟩) len cap)).run P w'=.ok ⟨cnew⟩ w')
  {cx:Value} (ecx:cx=.slice (xb.map fun a=>⟨m.blk a.block,m.sh a.block+a.off,none⟩) (k+1) (iB m xb xc)) (ecs:csv=.slice ((some a).map fun a=>⟨m.blk a.block,m.sh a.block+a.off,none⟩) n (iB m (some a) c)):
  Eff P m s w (Builtin.append_ #[t,xt] ty #[csv,cx]) (.slice (some ⟨s.nx,0,none⟩) (n+(k+1)) b7) ⟨(s.nx,.inl (p++new,e,sz+1+2))::rm s.h a.block,s.nx+1⟩:=by
 have hsz:bJ T e=some (sz+1):=by simp[bJ,hi]
 obtain⟨hl,hmd⟩:=Fi hr;obtain⟨j7,kW⟩:=V8 hg;have hpl:=Mw hg;have hcap:iB m (some a) c=m.cp a.block-aW c:=by simp[iB,bF,hc]
 have hbd:=(hf.fits).bd _ _ hl;have hcell:jQ s (some a) (n*(sz+1))=some p:=by cases hn:n*(sz+1)with|zero=>rw[hn]at hpl;simp[jQ,List.length_eq_zero_iff.1 hpl]|succ q=>rw[hn]at hg;simp[jQ,hl,hg]
 obtain⟨cold,hcold,_,hfirsto⟩:=VM (P:=P) hf hcell;have hcl:cnew.length=(k+1)*(sz+1):=by rw[<-hcn.at];simp[hnl]
 rw[hcap]at ecs;by_cases hle:n+(k+1)<=m.cp a.block-aW c
 ·-- dW is room
  obtain⟨pr,rest,hb,hpr,hrest⟩:=(hf.fits).ok _ _ hl;have htot:a.off+n*(sz+1)+cnew.length<=l.length+rest.length:=by rw[hrest,hoff,hcl,<-Nat.add_mul,<-Nat.add_mul];exact Nat.mul_le_mul_right _ (by omega)
  have hone:∀v∈cnew,v.oneCell'=true:=by rw[<-hcn.at];exact xi h1
  have hwl:(pr++aD m l++rest).length=m.sh a.block+(l.length+rest.length):=by simp[hpr]
  have hst:=run_storeCells_at P (m.blk a.block) (m.sh a.block+a.off+n*(sz+1)) e cnew 0 _ w hb (by simp only[List.size_toArray,hwl];omega) hone;simp only[Nat.add_zero]at hst;refine⟨_,_,.slice (some ⟨m.blk a.block,m.sh a.block+a.off,none⟩) (n+(k+1)) (m.cp a.block-aW c),?_,bA.rename (w':=w.setRow (m.blk a.block) ((pr++aD m l++rest).take (m.sh a.block+a.off+n*(sz+1))++cnew++(pr++aD m l++rest).drop (m.sh a.block+a.off+n*(sz+1)+cnew.length)).toArray) hf hl (Pm hmd) (m.sh a.block+a.off) (m.cp a.block-aW c) (fun k hk=>setRow_other w _ k _ hk) (by simp) rfl rfl rfl (zF _) ?_,?_⟩;rw[ecx,ecs];exact WM (P:=P) hT (w:=w) (ty:=ty) hd bX hsz (hfirst w rfl _ _) hle (fun a' ha'=>by simp only[zM,zA]at ha';subst ha';rw[o3];exact hst) (fun hno=>by simp at hno);intro m' ha;obtain⟨mW,sQ,E8⟩:=ha s.nx (zN _);obtain⟨e1,e2,e3⟩:=pR m s.nx (m.blk a.block) (m.sh a.block+a.off) (m.cp a.block-aW c);have ha':aG s.nx m m':=(Nm.agree_set m s.nx _ _ _).trans ha (Nat.le_succ _);refine⟨(pr++aD m l++rest).take (m.sh a.block+a.off),(pr++aD m l++rest).drop (m.sh a.block+a.off+n*(sz+1)+cnew.length),?_,?_,?_⟩;rw[mW,e1,setRow_heap w _ _ _ e (0,0) hb,BO,hcn m' ha',hcold m' ha'];have hmid:((pr++aD m l++rest).drop (m.sh a.block+a.off)).take (n*(sz+1))=cold:=by rw[<-hcold.at,j7];rcases Nat.eq_zero_or_pos (n*(sz+1))with h0 |hpos;rw[h0];simp[aD];rw[<-hpr,zT,List.drop_append,List.drop_of_length_le (by omega),List.nil_append,Nat.add_sub_cancel_left,List.drop_append_of_le_length (by simp;omega),List.take_append_of_le_length (by simp;omega)];simp[hX,List.map_drop,List.map_take]
  have htk:(pr++aD m l++rest).take (m.sh a.block+a.off+n*(sz+1))=(pr++aD m l++rest).take (m.sh a.block+a.off)++cold:=by rw[List.take_add,hmid]
  rw[htk];congr 2;simp only[zT];rw[sQ,e2,List.length_take,hwl];omega;rw[E8,e3,zU,hpl,hnl,List.length_drop,hwl];rw[hrest,hcl,hoff,<-Nat.add_mul];have e4:=ui (m.sh a.block) (m.cp a.block) (aW c) n (k+1) (sz+1);rw[e4,<-Nat.add_mul,bq _ _ _ _ hle];refine DB (zN _) fun m' ha=>?_;rw[KZ];obtain⟨_,_,e3⟩:=pR m s.nx (m.blk a.block) (m.sh a.block+a.off) (m.cp a.block-aW c);exact(ha s.nx (zN _)).2.2.trans e3
 have hlt:m.cp a.block-aW c<n+(k+1):=by omega
 obtain⟨nc,Sv,hrun⟩:=xw (P:=P) hT (w:=w) (ty:=ty) hd bX hi (n:=n) (k:=k+1) (C:=m.cp a.block-aW c) (base:=(some a).map fun a=>⟨m.blk a.block,m.sh a.block+a.off,none⟩) (fun w' hw=>hfirst w' hw (k+1) (iB m xb xc)) (fun w' hw=>hfirsto w' hw n _) hlt hroom;have hfd:dS m s w.drew:=Ey _ hf;have hadv:=Ft hfd (rest:=(Builtin.zeroCells z.cells (nc-(n+(k+1)))).toList) (hcold.append hcn) e nc (sz+1) (by
  have hzs:z.cells.size=sz+1:=by simpa using hzl
  rw[zU,hpl,hnl,Array.length_toList,dV,hzs,<-Nat.add_mul,<-Nat.add_mul];congr 1;omega)
 have hall:=((bA.draw (w.drawn+1) hf).trans hadv).trans (bA.forget hadv.fits a.block);have hst:(⟨rm (newRow s (p++new) e (sz+1+2)).h a.block,(newRow s (p++new) e (sz+1+2)).nx⟩:S)=⟨(s.nx,.inl (p++new,e,sz+1+2))::rm s.h a.block,s.nx+1⟩:=by simp[newRow,rm,beq_eq,show s.nx≠a.block by omega]
 rw[hst]at hall;refine⟨_,_,.slice (some ⟨w.heap.size,0,none⟩) (n+(k+1)) nc,?_,hall,?_⟩;rw[ecx,ecs,hrun];congr 3;simp;have hw:w.drew.heap.size=w.heap.size:=rfl;rw[hw];refine DB (zN _) fun m' ha=>?_;rw[KZ];obtain⟨_,_,e3⟩:=pR m s.nx w.heap.size 0 nc;exact(ha s.nx (zN _)).2.2.trans e3
omit hT in
theorem Pf {base : Option Addr} {n c sz : Nat} {v : Value} {aU : S} (h : (cond (Nat.blt c b7) (cond (Nat.ble n c) (some (Value.slice base n c, s)) none)
            (match base with
              |some a=> match bR s a.block with
                |some (l,_,md)=> cond (Nat.beq md (sz+3)) (cond (Nat.beq a.off (aW c*(sz+1))) (match nS l a.off (n*(sz+1))with
                  |some _=> some (Value.slice base n c,s)|none=> none) none) none
                |none=> none
              |none=> none))=some (v,aU)):v=.slice base n c/\aU=s/\n<=iB m base c:=by
  simp only[beq_eq]at h;cases hc:Nat.blt c b7 with
  |true=>simp only[hc,zC]at h;have hc':c<b7:=wV hc;rcases hnc:Nat.ble n c with _|_;simp only[hnc,zD]at h;cases h;simp only[hnc,zC,zA,zB]at h;refine⟨h.1.symm,h.2.symm, ?_⟩;have:n<=c:=zY hnc;rcases base with _|a;exact this;simp only[iB,bF,if_pos hc'];exact this
  |false=>have hc' : ¬ c<b7:=VZ hc;simp only[hc,zD]at h;rcases base with _|a;simp at h;simp only at h;rcases hr:bR s a.block with _|r;simp[hr]at h;obtain⟨l,e',md⟩:=r;simp only[hr]at h;by_cases hmd:md=sz+3;by_cases hoff:a.off=aW c*(sz+1);rw[decide_eq_true hmd,decide_eq_true hoff]at h;simp only[zC]at h;rcases hg:nS l a.off (n*(sz+1))with _|q;simp[hg]at h;simp only[hg,zA,zB]at h;refine⟨h.1.symm,h.2.symm, ?_⟩;obtain⟨_,hle⟩:=V8 hg;have hl:=(Fi hr).1;subst hmd;simp only[iB,bF,if_neg hc'];rcases Nat.eq_zero_or_pos n with h0 |hpos;rw[h0];exact Nat.zero_le _;have hpos':0<n*(sz+1):=Nat.mul_pos hpos (by omega);have:=ym hf (c:=c) (n:=n) (off:=a.off) hl hoff (by omega);omega;rw[decide_eq_true hmd,decide_eq_false hoff]at h;simp at h;rw[decide_eq_false hmd]at h;simp at h
theorem xh{sv x cx:Value}(hs:cZ m s.nx sv csv)(hx:cZ m s.nx x cx)(h:o6 T s t xt sv x=some (v,aU)):Eff P m s w (Builtin.append_ #[t,xt] ty #[csv,cx]) v aU:=by
 unfold o6 at h;rcases hd:T.und t with _|d;simp[hd]at h;cases d with
 |slice e=>
  rcases bX:T.und xt with _|d2;simp[hd,bX]at h;cases d2 with
  |slice e2=>
   cases sv with
   |slice base n c=>
    cases x with
    |slice xb k xc=>
     simp only[hd,bX]at h;rcases hi:T.inf e with _|y;simp[hi]at h;obtain⟨sz,by_,z⟩:=y;cases sz with
     |zero=>simp[hi]at h|succ sz=>
      have hsz:bJ T e=some (sz+1):=by simp[bJ,hi]
      simp only[hi]at h;rcases hcx:jQ s xb (k*(sz+1))with _|new;simp[hcx]at h;simp only[hcx]at h;rcases h1:lI new with _|_;simp[h1]at h;simp only[h1,zC]at h;obtain⟨cnew,hcn,hnl,hfirst⟩:=VM (P:=P) hf hcx;have ecx:cx=.slice (xb.map fun a=>⟨m.blk a.block,m.sh a.block+a.off,none⟩) k (iB m xb xc):=by rw[<-hx.at];cases xb<;>simp[ren,iB]
      have ecs:csv=.slice (base.map fun a=>⟨m.blk a.block,m.sh a.block+a.off,none⟩) n (iB m base c):=by rw[<-hs.at];cases base<;>simp[ren,iB]
      cases k with
      |zero=>
       have hnn:cnew=[]:=List.length_eq_zero_iff.1 (by rw[<-hcn.at];simp[hnl]);subst hnn;have fin:v=.slice base n c->aU=s->n<=(iB m base c)->Eff P m s w (Builtin.append_ #[t,xt] ty #[csv,cx]) v aU:=by rintro rfl rfl hle;refine⟨m,w,csv,?_,bA.refl hf,hs⟩;rw[ecx,ecs];have:=WM (P:=P) hT (w:=w) (ty:=ty) (w₁:=w) hd bX hsz (base:=base.map fun a=>⟨m.blk a.block,m.sh a.block+a.off,none⟩) (n:=n) (hfirst w rfl 0 (iB m xb xc)) (C:=(iB m base c)) (by simpa using hle) (fun a _=>by simp[storeCells]) (fun _=>rfl);simpa using this
       obtain⟨e1,e2,hle⟩:=Pf hf h;exact fin e1 e2 hle
      |succ k=>
       simp only[KD,beq_eq]at h;cases hc:Nat.blt c b7 with
       |true=>
        simp only[hc,zC]at h;have hc':c<b7:=wV hc;have hcap:(iB m base c)=c:=by cases base<;>simp[iB,bF,hc']
        cases hnc:Nat.ble (n+(k+1)) c with
        |true=>simp only[hnc,zC]at h;have hle:n+(k+1)<=c:=zY hnc;rcases base with _|a;simp at h;simp only at h;rcases hr:bR s a.block with _|r;simp[hr]at h;obtain⟨l,e',md⟩:=r;simp only[hr]at h;rcases hp:lV l (a.off+n*(sz+1)) new with _|l';simp[hp]at h;simp only[hp,zA,zB]at h;obtain⟨rfl,rfl⟩:=h;obtain⟨w₁,hst,hadv⟩:=Ee (P:=P) hf hr hp hcn h1;refine⟨m,w₁,.slice (some ⟨m.blk a.block,m.sh a.block+a.off,none⟩) (n+(k+1)) c,?_,hadv,?_⟩;rw[ecx,ecs,hcap];exact WM (P:=P) hT (w:=w) (ty:=ty) hd bX hsz (hfirst w rfl _ _) hle (fun a' ha'=>by simp only[zM,zA]at ha';subst ha';rw[o3,Nat.add_assoc];exact hst) (fun hno=>by simp at hno);intro m' ha;have hbd:=(hf.fits).bd _ _ (Fi hr).1;obtain⟨b1,b2,_⟩:=ha a.block hbd;simp[ren,b1,b2,bF,hc']
        |false=>
         simp only[hnc,zD]at h;have hlt:c<n+(k+1):=by rcases Nat.lt_or_ge c (n+(k+1))with hh |hh;exact hh;have:=Nat.ble_eq_true_of_le hh;rw[this]at hnc;cases hnc
         rcases hco:jQ s base (n*(sz+1))with _|old;simp[hco]at h;simp only[hco]at h;rcases hroom:oK (n+(k+1)) by_ with _|_;simp[hroom]at h;simp only[hroom,zC]at h;by_cases hzl:z.cells.toList.length=sz+1;simp only[hzl,yC,zC,zA,zB]at h;obtain⟨rfl,rfl⟩:=h;obtain⟨cold,hcold,hol,hfirsto⟩:=VM (P:=P) hf hco;obtain⟨nc,Sv,hrun⟩:=xw (P:=P) hT (w:=w) (ty:=ty) hd bX hi (n:=n) (k:=k+1) (C:=c) (base:=base.map fun a=>⟨m.blk a.block,m.sh a.block+a.off,none⟩) (fun w' hw=>hfirst w' hw (k+1) (iB m xb xc)) (fun w' hw=>hfirsto w' hw n c) hlt hroom;have hfd:dS m s w.drew:=Ey _ hf;have hadv:=Ft hfd (rest:=(Builtin.zeroCells z.cells (nc-(n+(k+1)))).toList) (hcold.append hcn) e nc (sz+1) (by
          have hzs:z.cells.size=sz+1:=by simpa using hzl
          rw[zU,hol,hnl,Array.length_toList,dV,hzs,<-Nat.add_mul,<-Nat.add_mul];congr 1;omega)
         refine⟨_,_,.slice (some ⟨w.heap.size,0,none⟩) (n+(k+1)) nc,?_,(bA.draw (w.drawn+1) hf).trans hadv,?_⟩;rw[ecx,ecs,hcap,hrun];congr 3;simp;have hw:w.drew.heap.size=w.heap.size:=rfl;rw[hw];refine DB (zN _) fun m' ha=>?_;rw[KZ];obtain⟨_,_,e3⟩:=pR m s.nx w.heap.size 0 nc;exact(ha s.nx (zN _)).2.2.trans e3;simp only[hzl,yB,zD]at h;cases h
       |false=>
        simp only[hc,zD]at h;generalize hD:aW c=D at h;have hc':¬ c<b7:=VZ hc;rcases base with _|a;simp at h;simp only at h;rcases hr:bR s a.block with _|r;simp[hr]at h;obtain⟨l,e',md⟩:=r;simp only[hr]at h;by_cases hmd:md=sz+1+2;by_cases hee:e'=e;by_cases hoff:a.off=D*(sz+1);rcases hroom:oK (n+(k+1)) by_ with _|_;simp[hmd,hee,hroom]at h;by_cases hzl:z.cells.toList.length=sz+1;rcases hg:nS l a.off (n*(sz+1))with _|p;simp only[hmd,hee,yC,zC,hroom,hzl,hg,<-hoff]at h;cases h;have h':some (Value.slice (some ⟨s.nx,0,none⟩) (n+(k+1)) b7,(⟨(s.nx,.inl (p++new,e,sz+1+2))::rm s.h a.block,s.nx+1⟩:S))=some (v,aU):=by simpa only[hmd,hee,yC,zC,hroom,hzl,hg,<-hoff]using h
        simp only[zA,zB]at h';obtain⟨rfl,rfl⟩:=h';subst hmd hee;clear h;exact am hT hf hd bX hi hr (by rw[hD];exact hoff) hc' hroom hzl hg hcn hnl h1 hfirst ecx ecs;simp only[hmd,hee,yC,yB,zC,zD,hroom,hzl,<-hoff]at h;cases h;simp only[hmd,hee,hoff,yC,yB,zC,zD]at h;cases h;simp only[hmd,hee,yC,yB,zC,zD]at h;cases h;simp only[hmd,yB,zD]at h;cases h
    |_=>simp[hd,bX]at h
   |_=>simp[hd,bX]at h
  |_=>simp[hd,bX]at h
 |_=>simp[hd]at h
omit hT hf in
theorem Ez(size len cap:Nat)(b:Option Addr)(w':World):(Builtin.firstCells size 0 (.slice b len cap)).run P w'=.ok #[] w':=by
 cases b<;>simp[Builtin.firstCells,loadCells,loadCellsFrom]
theorem C'{sv x cx:Value}(hs:cZ m s.nx sv csv)(hx:cZ m s.nx x cx)(h:mQ T s t xt sv x=some (v,aU)):Eff P m s w (Builtin.append_ #[t,xt] ty #[csv,cx]) v aU:=by
 have src:∀{sv csv:Value}{a:Option Addr},cZ m s.nx sv csv->o6 T s t xt sv (.slice none 0 0)=some (v,aU)->Eff P m s w (Builtin.append_ #[t,xt] ty #[csv,.slice a 0 0]) v aU:=by
  intro sv csv a hs h;have h0:=h;unfold o6 at h;rcases hd:T.und t with _|d;simp[hd]at h;cases d with
  |slice e=>
   rcases bX:T.und xt with _|d2;simp[hd,bX]at h;cases d2 with
   |slice e2=>
    cases sv with
    |slice base n c=>
     simp only[hd,bX]at h;rcases hi:T.inf e with _|y;simp[hi]at h;obtain⟨sz,by_,z⟩:=y;cases sz with
     |zero=>simp[hi]at h|succ sz=>
      have hsz:bJ T e=some (sz+1):=by simp[bJ,hi]
      simp only[hi,Nat.zero_mul,jQ,lI,zC]at h;obtain⟨e1,e2,hle⟩:=Pf hf h;subst e1;subst e2;have ecs:csv=.slice (base.map fun a=>⟨m.blk a.block,m.sh a.block+a.off,none⟩) n (iB m base c):=by rw[<-hs.at];cases base<;>simp[ren,iB]
      refine⟨m,w,csv,?_,bA.refl hf,hs⟩;rw[ecs];have:=WM (P:=P) hT (w:=w) (ty:=ty) (w₁:=w) hd bX hsz (base:=base.map fun a=>⟨m.blk a.block,m.sh a.block+a.off,none⟩) (n:=n) (xb:=a) (xc:=0) (k:=0) (cnew:=#[]) (Ez _ _ _ _ _) (C:=(iB m base c)) (by simpa using hle) (fun a _=>by simp[storeCells]) (fun _=>rfl);simpa using this
    |_=>simp[hd,bX]at h
   |_=>simp[hd,bX]at h
  |_=>simp[hd]at h
 have tgt:∀{x cx:Value}{a:Option Addr}{v':Value}{s':S},(cZ m s.nx x cx\/x=.slice none 0 0/\∃b,cx=.slice b 0 0)->o6 T s t xt (.slice none 0 0) x=some (v',s')->(v'=.slice none 0 0/\s'=s/\(Builtin.append_ #[t,xt] ty #[.slice a 0 0,cx]).run P w=.ok (.slice a 0 0) w)\/((∃b n c,v'=.slice (some b) n c)/\Eff P m s w (Builtin.append_ #[t,xt] ty #[.slice a 0 0,cx]) v' s'):=by
  intro x cx a v' s' hx h;have heff:=fun hx=>xh (ty:=ty) hT hf (oO (m:=m) (n:=s.nx) (v:=.slice none 0 0) fun _=>by simp[ren]) (cx:=cx) hx h;unfold o6 at h;rcases hd:T.und t with _|d
  simp[hd]at h;cases d with
  |slice e=>
   rcases bX:T.und xt with _|d2;simp[hd,bX]at h;cases d2 with
   |slice e2=>
    cases x with
    |slice xb k xc=>
     simp only[hd,bX]at h;rcases hi:T.inf e with _|y;simp[hi]at h;obtain⟨sz,by_,z⟩:=y;cases sz with
     |zero=>simp[hi]at h|succ sz=>
      have hsz:bJ T e=some (sz+1):=by simp[bJ,hi]
      simp only[hi]at h;rcases hcx:jQ s xb (k*(sz+1))with _|new;simp[hcx]at h;simp only[hcx]at h;rcases h1:lI new with _|_;simp[h1]at h;simp only[h1,zC]at h;obtain⟨cnew,hcn,hnl,hfirst⟩:=VM (P:=P) hf hcx;have ecx:cZ m s.nx (.slice xb k xc) cx->cx=.slice (xb.map fun a=>⟨m.blk a.block,m.sh a.block+a.off,none⟩) k (iB m xb xc):=fun hx=>by rw[<-hx.at];cases xb<;>simp[ren,iB]
      cases k with
      |zero=>
       obtain⟨e1,e2,hle⟩:=Pf (sz:=sz) hf h;refine .inl ⟨e1,e2,?_⟩;have Tf:∃b c,cx=.slice b 0 c:=by rcases hx with hx |⟨_,b,hb⟩;exact⟨_,_,ecx hx⟩;exact⟨b,0,hb⟩
       obtain⟨b,c,rfl⟩:=Tf;have:=WM (P:=P) hT (w:=w) (ty:=ty) (w₁:=w) hd bX hsz (base:=a) (n:=0) (xb:=b) (xc:=c) (k:=0) (cnew:=#[]) (Ez _ _ _ _ _) (C:=0) (zF _) (fun a _=>by simp[storeCells]) (fun _=>rfl);simpa using this
      |succ k=>
       have hroom:oK (0+(k+1)) by_=true/\∃b n c,v'=.slice (some b) n c:=by
        simp only[KD]at h;have c0:Nat.blt 0 b7=true:=Nat.ble_eq_true_of_le (by simp[b7]);have c1:Nat.ble (0+(k+1)) 0=false:=by rcases hb:Nat.ble (0+(k+1)) 0 with _|_;rfl;have:=zY hb;omega
        simp only[c0,c1,zC,zD,Nat.zero_mul,jQ]at h;rcases hr:oK (0+(k+1)) by_ with _|_;simp only[hr,zD]at h;cases h;simp only[hr,zC]at h;rcases hz:Nat.beq z.cells.toList.length (sz+1)with _|_;simp only[hz,zD]at h;cases h;simp only[hz,zC,zA,zB]at h;exact⟨rfl,_,_,_,h.1.symm⟩
       refine .inr ⟨hroom.2,?_⟩;have hx:cZ m s.nx (.slice xb (k+1) xc) cx:=by rcases hx with hx |⟨hx,_⟩;exact hx;cases hx
       obtain⟨aF,w₁,cv,g1,g2,g3⟩:=heff hx;refine⟨aF,w₁,cv,?_,g2,g3⟩;rw[ecx hx]at g1 ⊢;have q2:=eN (P:=P) hT (w:=w) (ty:=ty) hd bX hi (base:=none) (n:=0) (C:=0) (cold:=#[]) (fun w' hw=>hfirst w' hw (k+1) (iB m xb xc)) (fun w' _=>Ez _ _ _ _ _) (by omega) hroom.1;have nr:=eN (P:=P) hT (w:=w) (ty:=ty) hd bX hi (base:=a) (n:=0) (C:=0) (cold:=#[]) (fun w' hw=>hfirst w' hw (k+1) (iB m xb xc)) (fun w' _=>Ez _ _ _ _ _) (by omega) hroom.1;rw[nr,<-q2];exact g1
    |_=>simp[hd,bX]at h
   |_=>simp[hd,bX]at h
  |_=>simp[hd]at h
 have flat:(cZ m s.nx (oL x) cx\/oL x=.slice none 0 0/\∃b,cx=.slice b 0 0):=by
  cases x with
  |chan r=>rcases r with _|r;exact .inl hx;have:=hx.at;simp only[ren]at this;exact .inr ⟨rfl,_,this.symm⟩
  |_=>exact .inl hx
 unfold mQ at h;cases hw:pX sv with
 |false=>simp only[hw,zD]at h;rcases flat with hx |⟨e1,b,rfl⟩;exact xh hT hf hs hx h;rw[e1]at h;exact src hs h
 |true=>
  simp only[hw,zC]at h;obtain⟨r,rfl⟩:∃r,sv=.chan (some r):=by
   cases sv with
   |chan r=>cases r with
    |none=>simp[pX]at hw|some r=>exact⟨r,rfl⟩
   |_=>simp[pX]at hw
  have ecs:=hs.at;simp only[ren]at ecs;rcases ha:o6 T s t xt (.slice none 0 0) (oL x)with _|q;simp[ha]at h;obtain⟨v',s'⟩:=q;rcases tgt (a:=some ⟨m.blk r,m.sh r,some (m.cp r)⟩) flat ha with⟨e1,e2,hrun⟩|⟨⟨b,n,c,e1⟩,heff⟩;rw[ha,e1]at h;simp only[zA,zB]at h;obtain⟨rfl,rfl⟩:=h;exact⟨m,w,csv,by rw[<-ecs];exact hrun,bA.refl hf,hs⟩;rw[ha,e1]at h;simp only[zA,zB]at h;obtain⟨rfl,rfl⟩:=h;rw[<-ecs,<-e1];exact heff
end
variable{m:Nm}
variable{s:S}
variable{w:World}
theorem bA.ghost(h:dS m s w)(b sh cp:Nat):bA m s w (m.set s.nx b sh cp) ⟨s.h,s.nx+1⟩ w:=by
 refine⟨Nm.agree_set m _ _ _ _,Nat.le_succ _,fun m' ha=>?_,?_,fun _ _ _=>rfl,zF _,rfl,rfl,rfl⟩;have hf:=h m' ((Nm.agree_set m s.nx b sh cp).trans ha (Nat.le_succ _));exact⟨hf.ok,hf.inj,fun i c hc=>Nat.lt_succ_of_lt (hf.bd i c hc)⟩;rintro k ⟨j,d,hd,ho,rfl⟩;have:=(h.fits).bd j d hd;exact .inl ⟨j,d,hd,ho,by simp[Nm.set,show j≠s.nx by omega]⟩
variable{r:Nat}
variable{es:List MapEntry}
variable{cl:Nat}
theorem RB(h:sA s r=some (es,cl)):lk s.h r=some (.inr (es,cl)):=by
 unfold sA at h;rcases hl:lk s.h r with _|b;simp[hl]at h;rcases b with x |x<;>simp[hl]at h;rw[h]
theorem FM{P:Program}(hf:dS m s w){es':List MapEntry}{ces:List MapEntry}{cl':Nat}(hr:sA s r=some (es,cl))
  (he:∀m',aG s.nx m m'->es'.map (cJ m')=ces):
  ∃w₁,(setObj (m.blk r) (.map ces.toArray cl')).run P w=.ok () w₁/\bA m s w m (B8 s r es' cl') w₁:=by
 have hl:=RB hr;have hb:w.heap[m.blk r]? = some (.map (es.map (cJ m)).toArray cl):=(hf.fits).ok r _ hl;refine⟨{ w with heap:=w.heap.setIfInBounds (m.blk r) (.map ces.toArray cl') },by simp[setObj,Sem.run,hb],?_⟩;refine bA.write hf hl rfl (fun k hk=>?_) (by simp) rfl rfl rfl (zF _) fun m' ha=>?_;exact Array.getElem?_setIfInBounds_ne (Ne.symm hk);have hbi:m'.blk r=m.blk r:=(ha r ((hf.fits).bd r _ hl)).1;have hlt:=(hf.fits).size hl;simp only[nX,hbi,he m' ha];exact Array.getElem?_setIfInBounds_self_of_lt hlt
theorem R4(hf:dS m s w)(hr:sA s r=some (es,cl)):∀m',aG s.nx m m'->es.map (cJ m')=es.map (cJ m):=fun m' ha=>by
 have hl:=RB hr;have h1:w.heap[m.blk r]? = some (.map (es.map (cJ m)).toArray cl):=(hf.fits).ok r _ hl;have h2:w.heap[m'.blk r]? = some (.map (es.map (cJ m')).toArray cl):=(hf m' ha).ok r _ hl;rw[(ha r ((hf.fits).bd r _ hl)).1,h1]at h2;simp at h2;exact List.map_congr_left fun e hee=>(h2 e hee).symm
theorem tz{a b:ByteArray}(h:gE a.data.toList b.data.toList=true):a=b:=by
 rw[Fa]at h;have:a.data.toList=b.data.toList:=by simpa using h
 exact ByteArray.ext (Array.ext' this)
theorem yf{E:Value->Value->Bool}{n:Nat}(hE:∀a b,E a b=true->a=b/\Instr.sameBits n a b=true)(x y:List Value)(h:sY E x y=true):x=y/\((x.zip y).all fun p=>Instr.sameBits n p.1 p.2)=true:=by
 induction x generalizing y with|nil=>cases y<;>simp_all[sY]|cons a x ih=>rcases y with _|⟨b,y⟩;simp[sY]at h;simp only[sY]at h;rcases hab:E a b with _|_;simp[hab]at h;simp only[hab,zC]at h;obtain⟨e1,e2⟩:=hE a b hab;obtain⟨e3,e4⟩:=ih y h;subst e1 e3;simp only[List.zip_cons_cons,List.all_cons,e2,e4];simp
theorem IX(d k:Nat):∀a b,rO d a b=true->a=b/\Instr.sameBits (d+k) a b=true:=by
 induction d with
 |zero=>intro a b h;simp[rO]at h|succ d ih=>
  intro a b h;have hs:d+1+k=(d+k)+1:=by omega
  rw[hs];simp only[rO]at h;cases a with
  |int k1 x=>cases b with|int k2 y=>simp only at h;by_cases e1:k1=k2;by_cases e2:x=y;subst e1 e2;exact⟨rfl,by simp[Instr.sameBits]⟩;simp[e1,e2]at h;simp[e1]at h|_=>simp at h
  |bool x=>cases b with|bool y=>simp at h;subst h;exact⟨rfl,by simp[Instr.sameBits]⟩|_=>simp at h
  |string x=>cases b with|string y=>simp only at h;have:=tz h;subst this;exact⟨rfl,by simp[Instr.sameBits,beq_toListBytes]⟩|_=>simp at h
  |agg x=>
   cases b with
   |agg y=>obtain⟨x⟩:=x;obtain⟨y⟩:=y;simp only at h;obtain⟨e1,e2⟩:=yf ih x y h;subst e1;refine⟨rfl,?_⟩;simp only[Instr.sameBits,beq_self_eq_true,Bool.true_and];exact e2
   |_=>simp at h
  |_=>simp at h
theorem xn{P:Program}{a b:Value}(h:rO 50 a b=true)(w:World):(Instr.keyThatStays a b).run P w=.ok b w/\a=b:=by
 obtain⟨e1,e2⟩:=IX 50 9950 a b h;refine⟨?_,e1⟩;have e3:Instr.sameBits 10000 a b=true:=e2;simp[Instr.keyThatStays,e3]
theorem No(es:List MapEntry)(i:Nat)(f:MapEntry->MapEntry):CA es i f=es.modify i f:=by
 induction es generalizing i with|nil=>simp[CA]|cons e es ih=>cases i<;>simp[CA,ih]
theorem wa(es:List MapEntry)(i:Nat):KL es i=es.eraseIdx i:=by
 induction es generalizing i with|nil=>simp[KL]|cons e es ih=>cases i<;>simp[KL,ih]
variable{v:Value}
theorem px{T:Tb}{kt:TypeId}{k:Value}(es:List MapEntry)(b:Nat){i:Nat}(h:kE T kt k es b=some (some (i,v))):b<=i/\∃e,es[i-b]? = some e/\e.val=v:=by
 induction es generalizing b with
 |nil=>simp[kE]at h|cons e es ih=>
  simp only[kE]at h;rcases he:eqv T 50 kt k e.key with _|r;simp[he]at h;cases r with
  |true=>simp[he]at h;obtain⟨rfl,rfl⟩:=h;exact⟨zF _,e,by simp,rfl⟩
  |false=>simp only[he]at h;obtain⟨h1,e',h2,h3⟩:=ih (b+1) h;refine⟨by omega,e',?_,h3⟩;rw[show i-b=(i-(b+1))+1 by omega];simpa using h2
section
variable{P:Program}{T:Tb}(hT:eZ P T){m:Nm}{s:S}{w:World}(hf:dS m s w)
include hT hf
variable{t:TypeId}
variable{ty:TypeId}
variable{x:Value}
variable{aU:S}
theorem Ny{ts:List TypeId}{d cd cx:Value}(hd':cZ m s.nx d cd)(hx:cZ m s.nx x cx)(h:U7 T s t d x=some (v,aU)):Eff P m s w (Builtin.copy_ (t::ts).toArray ty #[cd,cx]) v aU:=by
 unfold U7 at h;rcases hd:T.und t with _|dd;simp[hd]at h;cases dd with
 |slice e=>
  cases d with
  |slice base n c=>
   cases x with
   |slice xb k xc=>
    simp only[hd]at h;rcases hs:bJ T e with _|sz;simp[hs]at h;simp only[hs]at h;rcases hcx:jQ s xb (Nat.min k n*sz)with _|cs;simp[hcx]at h;simp only[hcx]at h;rcases h1:lI cs with _|_;simp[h1]at h;simp only[h1,zC]at h;obtain⟨cnew,hcn,hnl,hfirst⟩:=VM (P:=P) hf hcx;have ecx:cx=.slice (xb.map fun a=>⟨m.blk a.block,m.sh a.block+a.off,none⟩) k (iB m xb xc):=by rw[<-hx.at];cases xb<;>simp[ren,iB]
    have ecd:cd=.slice (base.map fun a=>⟨m.blk a.block,m.sh a.block+a.off,none⟩) n (iB m base c):=by rw[<-hd'.at];cases base<;>simp[ren,iB]
    have hfi:=hfirst w rfl k (iB m xb xc);have fin:∀w₁,(∀a,base=some a->(storeCells ⟨m.blk a.block,m.sh a.block+a.off,none⟩ cnew).run P w=.ok () w₁)->(base=none->w₁=w)->
      (Builtin.copy_ (t::ts).toArray ty #[cd,cx]).run P w=.ok (.int .i64 (Nat.min k n)) w₁:=by
     intro w₁ h2 h3;rw[ecx,ecd];rcases base with _|a;rw[h3 rfl];simp[Builtin.copy_,dH hT w hd,Builtin.lenOf,i4 hT w hs,hfi,goInt];simp[Builtin.copy_,dH hT w hd,Builtin.lenOf,i4 hT w hs,hfi,goInt,h2 a rfl]
    cases cs with
    |nil=>
     simp only[zA,zB]at h;obtain⟨rfl,rfl⟩:=h;have hnn:cnew=[]:=by rw[<-hcn.at];simp[aD]
     subst hnn;exact⟨m,w,_,fin w (fun a _=>by simp[storeCells]) (fun _=>rfl),bA.refl hf,oO fun _=>by simp[ren]⟩
    |cons c0 cs=>simp only at h;rcases base with _|a;simp at h;simp only at h;rcases hr:bR s a.block with _|r;simp[hr]at h;obtain⟨l,e',md⟩:=r;simp only[hr]at h;rcases hp:lV l a.off (c0::cs)with _|l';simp[hp]at h;simp only[hp,zA,zB]at h;obtain⟨rfl,rfl⟩:=h;obtain⟨w₁,hst,hadv⟩:=Ee (P:=P) hf hr hp hcn h1;exact⟨m,w₁,_,fin w₁ (fun a' ha'=>by cases ha';exact hst) (fun hno=>by cases hno),hadv,oO fun _=>by simp[ren]⟩
   |_=>simp[hd]at h
  |_=>simp[hd]at h
 |_=>simp[hd]at h
omit hf in
theorem dp{t xt ty e:TypeId}{kd k:IntKind}{size by_ j:Nat}{z:Value}{q:Int}(hw:IntKind.i64.wrap q=((j+1:Nat):Int))(ht:T.und t=some (.slice e))(hx:T.und xt=some (.int kd))(hi:T.inf e=some (size,by_,z))(GW:0<size)(hr:oK (j+1) by_=true):
  ∃nc,j+1<=nc/\(Builtin.append_ #[t,xt] ty #[.slice none 0 0,.int k q]).run P w=
   .ok (.slice (some ⟨w.heap.size,0,none⟩) (j+1) nc) ((w.drew).alloc (.cells (Builtin.zeroCells z.cells (j+1)++Builtin.zeroCells z.cells (nc-(j+1))) e)):=by
 obtain⟨r1,r2⟩:=wt hr;obtain⟨_,i,y5,ZA,GY,kq⟩:=hT.inf e _ _ _ hi;have hs:bJ T e=some size:=by simp[bJ,hi]
 have g0:¬ (((j+1:Nat):Int)<0):=by omega
 have g4:¬ (((j+1:Nat):Int)*(i.bytes:Int)>2^48):=by rw[GY];have h':(((j+1)*by_:Nat):Int)<=((140737488355328:Nat):Int):=Int.ofNat_le.2 r1;rw[Int.natCast_mul]at h';omega
 have g1:¬ 0+(j+1)<=0:=by omega
 have g2:¬ (((0+(j+1):Nat):Int)>IntKind.i64.max/\(True\/i.bytes=0)):=by rw[IntKind.max_i64];omega
 have g3:¬ Builtin.nextslicecap (0+(j+1)) 0*i.bytes>2^48:=by have:=growslice_fits (bytes:=i.bytes) (show 0<0+(j+1) by omega) (by rw[GY,Nat.zero_add];exact r1);omega
 have g5:¬ (j+1)*size=0:=by have:=Nat.mul_pos (show 0<j+1 by omega) GW;omega
 have hz:(zeroValue e).run P w.drew=.ok z w.drew:=(tM hT (⟨id,id,id⟩:Nm) w.drew hi).1;refine⟨(Question.appendCap (0+(j+1)) 0 e).cut (w.tape w.drawn (.appendCap (0+(j+1)) 0 e)),by simp[Question.cut],?_⟩;have hff:(Question.appendCap (0+(j+1)) 0 e).forced=false:=rfl;simp only[Builtin.append_,List.getElem?_toArray,List.getElem?_cons_zero,zH,zK,dH hT w ht,dH hT w hx,i4 hT w hs,zJ,zL,Sem.run_ite,if_true,asInt,asIntOf,hw,g0,if_false,typeInfo,run_program,y5,g4,zZ,g1,g2,g3,g5];simp[Builtin.firstCells];have hff':(Question.appendCap (j+1) 0 e).forced=false:=rfl;simp only[hff',Bool.false_eq_true,if_false,hz,zJ];simp[Go.newRow];rfl
theorem ap{xt:TypeId}{sv csv cx:Value}(hs':cZ m s.nx sv csv)(hx:cZ m s.nx x cx)(h:Dl T s t xt sv x=some (v,aU)):Eff P m s w (Builtin.append_ #[t,xt] ty #[csv,cx]) v aU:=by
 unfold Dl at h;split at h;rename_i e kd kd' i hd bX;have e1:csv=.slice none 0 0:=by rw[<-hs'.at];simp[ren]
 have e2:cx=.int kd' i:=by rw[<-hx.at];simp[ren]
 subst e1 e2;split at h;rename_i sz by_ z hi;split at h;rename_i k hw;rcases hroom:oK (k+1) by_ with _|_;simp[hroom]at h;rw[hroom]at h;simp only[zC]at h;rcases hzl:Nat.beq z.cells.toList.length (sz+1)with _|_;rw[hzl]at h;cases h;rw[hzl]at h;simp only[zC]at h;rcases h1:lI (bI z.cells.toList (k+1))with _|_;rw[h1]at h;cases h;rw[h1]at h;simp only[zC,zA,zB]at h;obtain⟨rfl,rfl⟩:=h;have hzc:=R3 hT hi;simp only at hzc;have hzs:z.cells.size=sz+1:=by simpa[beq_eq]using hzl
 obtain⟨nc,hnc,hrun⟩:=dp (P:=P) (w:=w) (ty:=ty) (k:=kd') hT hw hd bX hi (by omega) hroom;have hfd:dS m s w.drew:=Ey _ hf;have hzz:(Builtin.zeroCells z.cells (k+1)).toList=bI z.cells.toList (k+1):=by have:=V6 z.cells (k+1);simp only[Builtin.zeroCells]at*;rw[this]
 have hadv:=Ft hfd (rest:=(Builtin.zeroCells z.cells (nc-(k+1))).toList) (Er (VS hzc (k+1))) e nc (sz+1) (by
  have a1:(Builtin.zeroCells z.cells (nc-(k+1))).toList.length=(nc-(k+1))*z.cells.size:=by rw[Array.length_toList,dV]
  have a2:(bI z.cells.toList (k+1)).length=(k+1)*z.cells.size:=by rw[Ed,Array.length_toList]
  rw[a1,a2,hzs,<-Nat.add_mul];congr 1;omega)
 refine⟨_,_,.slice (some ⟨w.heap.size,0,none⟩) (k+1) nc,?_,(bA.draw (w.drawn+1) hf).trans hadv,?_⟩;rw[hrun];congr 3;apply Array.ext';simp[hzz];have hw:w.drew.heap.size=w.heap.size:=rfl;rw[hw];refine DB (zN _) fun m' ha=>?_;rw[KZ];obtain⟨_,_,e3⟩:=pR m s.nx w.heap.size 0 nc;exact(ha s.nx (zN _)).2.2.trans e3;cases h;cases h;cases h
theorem ao{xt:TypeId}{sv csv cx:Value}(hs':cZ m s.nx sv csv)(hx:cZ m s.nx x cx)(h:KR T s t xt sv x=some (v,aU)):Eff P m s w (Builtin.append_ #[t,xt] ty #[csv,cx]) v aU:=by
 unfold KR at h;split at h;rename_i r hr;cases h;exact C' hT hf hs' hx hr;exact ap hT hf hs' hx h
theorem gv{ts:List TypeId}{cx:Value}(hx:cZ m s.nx x cx)(h:KM T s t x=some (v,aU)):Eff P m s w (Builtin.clear_ (t::ts).toArray ty #[cx]) v aU:=by
 unfold KM at h;rcases hd:T.und t with _|dd;simp[hd]at h;cases dd with
 |slice e=>
  cases x with
  |slice base n c=>
   simp only[hd]at h;have ecx:cx=.slice (base.map fun a=>⟨m.blk a.block,m.sh a.block+a.off,none⟩) n (iB m base c):=by rw[<-hx.at];cases base<;>simp[ren,iB]
   cases n with
   |zero=>simp only[zA,zB]at h;obtain⟨rfl,rfl⟩:=h;refine⟨m,w,undef,?_,bA.refl hf,oO fun _=>by simp[undef,ren,aD]⟩;rw[ecx];cases base<;>simp[Builtin.clear_,dH hT w hd,undef]
   |succ n=>
    cases base with
    |none=>simp only[zA,zB]at h;obtain⟨rfl,rfl⟩:=h;refine⟨m,w,undef,?_,bA.refl hf,oO fun _=>by simp[undef,ren,aD]⟩;rw[ecx];simp[Builtin.clear_,dH hT w hd,undef]
    |some a=>
     simp only at h;rcases hi:T.inf e with _|q;simp[hi]at h;obtain⟨sz,by_,z⟩:=q;simp only[hi]at h;have hz:=(tM hT m w hi).1;have hzc:=R3 hT hi;simp only at hz hzc;rcases h1:lI (bI z.cells.toList (n+1))with _|_;simp[h1]at h;simp only[h1,zC]at h;rcases hr:bR s a.block with _|r;simp[hr]at h;obtain⟨l,e',md⟩:=r;simp only[hr]at h;rcases hp:lV l a.off (bI z.cells.toList (n+1))with _|l';simp[hp]at h;simp only[hp,zA,zB]at h;obtain⟨rfl,rfl⟩:=h;obtain⟨w₁,hst,hadv⟩:=Ee (P:=P) hf hr hp (Er (VS hzc (n+1))) h1;refine⟨m,w₁,undef,?_,hadv,oO fun _=>by simp[undef,ren,aD]⟩;have hzz:(Builtin.zeroCells z.cells (n+1)).toList=bI z.cells.toList (n+1):=by have:=V6 z.cells (n+1);simp only[Builtin.zeroCells]at*;rw[this]
     rw[ecx];simp[Builtin.clear_,dH hT w hd,undef,hz,hzz,hst]
  |_=>simp[hd]at h
 |_=>simp[hd]at h
theorem cr{cx:Value}{lo hi mx:Option Value}{clo chi cmx:Option Value}(hx:cZ m s.nx x cx)(h1:∀m',aG s.nx m m'->lo.map (ren m')=clo)(h2:∀m',aG s.nx m m'->hi.map (ren m')=chi)
  (h3:∀m',aG s.nx m m'->mx.map (ren m')=cmx) (h:PR T s t x lo hi mx=some (v,aU)):Eff P m s w (Instr.sliceAt t cx clo chi cmx) v aU:=by
 have e1:=h1 m (aG.refl _ _);have e2:=h2 m (aG.refl _ _);have e3:=h3 m (aG.refl _ _);unfold PR at h;rcases hd:T.und t with _|dd;simp[hd]at h;cases dd with
 |slice e=>
  cases x with
  |slice p n c=>
   rcases p with _|a;simp[hd]at h;simp only[hd]at h;cases hc:Nat.blt c b7 with
   |true=>simp[hc]at h|false=>
    have hc':¬ c<b7:=VZ hc;simp only[hc,zD]at h;rcases hs:bJ T e with _|sz;simp[hs]at h;simp only[hs]at h;rcases hr:tJ s a.block sz with _|l;simp[hr]at h;simp only[hr,beq_eq]at h;by_cases hoff:a.off=aW c*sz;rw[decide_eq_true hoff]at h;simp only[zC]at h;rcases hpos:Nat.blt 0 sz with _|_;simp[hpos]at h;have hpos':0<sz:=wV hpos;simp only[hpos,zC]at h;obtain⟨sz,rfl⟩:∃q,sz=q+1:=⟨sz-1,by omega⟩;obtain⟨_,_,sK,_⟩:=Qp hr;have hl:=hr;have hbd:=(hf.fits).bd _ _ sK;have ecx:cx=.slice (some ⟨m.blk a.block,m.sh a.block+a.off,none⟩) n (m.cp a.block-aW c):=by rw[<-hx.at];simp[ren,bF,hc']
    have hknown:(l.length-a.off)/(sz+1)<=m.cp a.block-aW c:=by
     rcases Nat.eq_zero_or_pos ((l.length-a.off)/(sz+1))with h0 |hp;omega;have hle:=Nat.div_mul_le_self (l.length-a.off) (sz+1);have hge:a.off<=l.length:=by rcases Nat.lt_or_ge l.length a.off with hlt |hge;rw[show l.length-a.off=0 by omega]at hp;simp at hp;exact hge
     have:=Do m w hf.fits (c:=c) (n:=(l.length-a.off)/(sz+1)) (off:=a.off) hl hoff (by omega);omega
    have hu:=dH hT w hd;cases mx with
    |some vm=>
     simp only at h;rcases hb1:eS vm ((l.length-a.off)/(sz+1))with _|M0;simp[hb1]at h;simp only[hb1]at h;rcases jS:Nat.ble (a.off+M0*(sz+1)) l.length with _|_;simp[jS]at h;simp only[jS,zC]at h;rcases hb:dN n M0 lo hi (some vm)with _|q;simp[hb]at h;obtain⟨l1,hh,M⟩:=q;simp only[hb]at h;rcases hMc:Nat.blt M b7 with _|_;simp[hMc]at h;simp only[hMc,zC,zA,zB]at h;obtain⟨rfl,rfl⟩:=h;have hMc':M<b7:=wV hMc;have Ti:M0<=m.cp a.block-aW c:=by have:=(FX (P:=P) m w hb1 _ (zF _) .index).2;omega
     obtain⟨b1,b2,b3,_⟩:=BL (P:=P) (isS:=true) m w hb Ti;simp only[Option.isSome_some,if_true]at b1;rw[e1,e2,e3]at b1;have hMl:M-l1<b7:=Nat.lt_of_le_of_lt (Nat.sub_le _ _) hMc';refine⟨m,w,.slice (if M=l1 then some ⟨m.blk a.block,m.sh a.block+a.off,none⟩else some ⟨m.blk a.block,m.sh a.block+a.off+l1*(sz+1),none⟩) (hh-l1) (M-l1),?_,bA.refl hf,fun m' ha=>?_⟩;rw[ecx];simp only[Instr.sliceAt,zK,hu,zJ,Instr.slice,b1,i4 hT w hs,zL,zM,o3];obtain⟨q1,q2,_⟩:=ha a.block hbd;by_cases rD:M=l1;rw[rD]at hMl ⊢;simp only[yC,zC,ren,q1,q2,if_true,bF,if_pos hMl];simp only[decide_eq_false rD,zD,ren,q1,q2,if_neg rD,bF,if_pos hMl,Nat.add_assoc]
    |none=>
     simp only at h;rcases hb:dN n ((l.length-a.off)/(sz+1)) lo hi none with _|q;simp[hb]at h;obtain⟨l1,hh,M⟩:=q;simp only[hb]at h;rcases jS:Nat.ble (a.off+hh*(sz+1)) l.length with _|_;simp[jS]at h;simp only[jS,zC]at h;have NI:a.off+hh*(sz+1)<=l.length:=zY jS;have hhC:=Do m w hf.fits (c:=c) (n:=hh) (off:=a.off) hl hoff NI;obtain⟨b1,b2,_,b4⟩:=BL (P:=P) (isS:=true) m w hb hknown;simp only[Option.isSome_none,Bool.false_eq_true,if_false]at b1;rw[e1,e2,e3]at b1;have hrun:(Instr.sliceAt t cx clo chi cmx).run P w=.ok (.slice (if m.cp a.block-aW c=l1 then some ⟨m.blk a.block,m.sh a.block+a.off,none⟩else some ⟨m.blk a.block,m.sh a.block+a.off+l1*(sz+1),none⟩) (hh-l1) (m.cp a.block-aW c-l1)) w:=by rw[ecx];simp only[Instr.sliceAt,zK,hu,zJ,Instr.slice,b1,i4 hT w hs,zL,zM,o3]
     cases l1 with
     |zero=>
      simp only[zA,zB]at h;obtain⟨rfl,rfl⟩:=h;have hrun':(Instr.sliceAt t cx clo chi cmx).run P w=.ok (.slice (some ⟨m.blk a.block,m.sh a.block+a.off,none⟩) hh (m.cp a.block-aW c)) w:=by rw[Nat.sub_zero,Nat.sub_zero,Nat.zero_mul,Nat.add_zero]at hrun;by_cases hC:m.cp a.block-aW c=0;rw[if_pos hC]at hrun;exact hrun;rw[if_neg hC]at hrun;exact hrun
      refine⟨m,w,_,hrun',bA.refl hf,fun m' ha=>?_⟩;obtain⟨q1,q2,q3⟩:=ha a.block hbd;simp only[ren,q1,q2,q3,bF,if_neg hc']
     |succ l1=>
      simp only at h;cases hlt:Nat.blt (l1+1) hh with
      |true=>
       have hlt':l1+1<hh:=wV hlt;simp only[hlt,zC,zA,zB]at h;obtain⟨rfl,rfl⟩:=h;refine⟨m,w,_,hrun,bA.refl hf,fun m' ha=>?_⟩;obtain⟨q1,q2,q3⟩:=ha a.block hbd;have hne:¬ m.cp a.block-aW c=l1+1:=by omega
       have hnc:¬ c+(l1+1)<b7:=fun hh=>hc' (Nat.lt_of_le_of_lt (Nat.le_add_right _ _) hh);have hcd:aW (c+(l1+1))=aW c+(l1+1):=ql (Nat.le_of_not_lt hc') _;simp only[ren,q1,q2,q3,bF,if_neg hnc,if_neg hne,hcd,Nat.add_assoc,Nat.sub_sub]
      |false=>
       simp only[hlt,zD,zA,zB]at h;obtain⟨rfl,rfl⟩:=h;have hge:=VZ hlt;have heq:hh=l1+1:=by omega
       subst heq;rw[Nat.sub_self]at hrun;by_cases hC:m.cp a.block-aW c=l1+1;rw[if_pos hC]at hrun;refine⟨_,w,_,hrun,bA.ghost hf (m.blk a.block) (m.sh a.block+a.off) (m.cp a.block-aW c-(l1+1)),DB (zN _) fun m' ha=>?_⟩;rw[KZ];obtain⟨_,_,e3⟩:=pR m s.nx (m.blk a.block) (m.sh a.block+a.off) (m.cp a.block-aW c-(l1+1));exact(ha s.nx (zN _)).2.2.trans e3;rw[if_neg hC]at hrun;refine⟨_,w,_,hrun,bA.ghost hf (m.blk a.block) (m.sh a.block+a.off+(l1+1)*(sz+1)) (m.cp a.block-aW c-(l1+1)),DB (zN _) fun m' ha=>?_⟩;rw[KZ];obtain⟨_,_,e3⟩:=pR m s.nx (m.blk a.block) (m.sh a.block+a.off+(l1+1)*(sz+1)) (m.cp a.block-aW c-(l1+1));exact(ha s.nx (zN _)).2.2.trans e3
    rw[decide_eq_false hoff]at h;simp at h
  |_=>simp[hd]at h
 |_=>simp[hd]at h
end
theorem mD{α β:Type}(f:α->β)(l:List α)(i:Nat):(l.eraseIdx i).map f=(l.map f).eraseIdx i:=by
 induction l generalizing i with|nil=>simp|cons a l ih=>cases i<;>simp[ih]
section
variable{P:Program}{T:Tb}(hT:eZ P T){m:Nm}{s:S}{w:World}(hf:dS m s w)
include hT hf
variable{t:TypeId}
variable{mv:Value}
variable{k:Value}
variable{cm:Value}
variable{ck:Value}
variable{aU:S}
theorem Zs{x cx u:Value}(hm:cZ m s.nx mv cm)(hk:cZ m s.nx k ck)(hx:cZ m s.nx x cx)(h:KI T s t mv k x=some (u,aU)):
  EN P m s w (Instr.mapUpdate t cm ck cx) aU/\u=undef:=by
 unfold KI at h;rcases hd:T.und t with _|dd;simp[hd]at h;cases dd with
 |map kt et=>
  cases mv with
  |map r=>
   rcases r with _|r;simp[hd]at h;simp only[hd]at h;rcases hkx:jX T 50 kt k with _|_;simp[hkx]at h;simp only[hkx,zC]at h;obtain⟨ty,hty⟩:=Dw hkx;rcases hpl:plain k with _|_;simp[hpl]at h;simp only[hpl,zC]at h;rcases hr:sA s r with _|q;simp[hr]at h;obtain⟨es,cl⟩:=q;simp only[hr]at h;have hb:w.heap[m.blk r]? = some (.map (es.map (cJ m)).toArray cl):=(hf.fits).ok r _ (RB hr);have ecm:cm=.map (some (m.blk r)):=by rw[<-hm.at];simp[ren]
   have eck:ck=k:=by rw[<-hk.at];exact qS m k hpl
   have hck:=UJ hT m false 50 9950 w hkx;rw[qS m k hpl]at hck;have hst:=R4 hf hr;rcases hfx:kE T kt k es 0 with _|fr;simp[hfx]at h;have hfi:=BE hT m w hty hfx;rw[qS m k hpl]at hfi;cases fr with
   |none=>simp only[hfx,zA,zB]at h;obtain⟨rfl,rfl⟩:=h;refine⟨?_,rfl⟩;obtain⟨w₁,h1,h2⟩:=FM (P:=P) hf hr (es':=es++[{ key:=k,val:=x,born:=cl }]) (cl':=cl+1) (ces:=es.map (cJ m)++[{ key:=k,val:=cx,born:=cl }]) (fun m' ha=>by simp[cJ,qS m' k hpl,hx m' ha];have:=hst m' ha;simpa[cJ]using this);refine⟨m,w₁,?_,h2⟩;rw[ecm,eck];simp only[Instr.mapUpdate,zK,dH hT w hd,zJ,run_getObj_map hb,hck,hfi,Option.map_none];rw[<-h1];simp
   |some p=>
    obtain⟨i,pv⟩:=p;simp only[hfx,eR]at h;rcases hei:es[i]? with _|e;simp[hei]at h;simp only[hei]at h;rcases hv:rO 50 e.key k with _|_;simp[hv]at h;simp only[hv,zC,zA,zB]at h;obtain⟨rfl,rfl⟩:=h;refine⟨?_,rfl⟩;obtain⟨hks,hek⟩:=xn (P:=P) hv w;have hmod:∀m',aG s.nx m m'->(CA es i fun e=>{ e with val:=x }).map (cJ m')=(es.map (cJ m)).modify i fun e=>{ e with key:=k,val:=cx }:=fun m' ha=>by rw[No,<-hst m' ha];apply List.ext_getElem?;intro j;simp only[List.getElem?_map,List.getElem?_modify];by_cases hij:i=j;subst hij;simp[hei,cJ,hx m' ha,hek,qS m' k hpl];cases es[j]? <;> simp[hij]
    obtain⟨w₁,h1,h2⟩:=FM (P:=P) hf hr (cl':=cl) hmod;refine⟨m,w₁,?_,h2⟩;have hget:(es.map (cJ m)).toArray[i]? = some (cJ m e):=by simp[hei]
    have hkey:(cJ m e).key=k:=by simp[cJ,hek,qS m k hpl]
    rw[hek]at hks;rw[ecm,eck];simp only[Instr.mapUpdate,zK,dH hT w hd,zJ,run_getObj_map hb,hck,hfi,zM,hget,Option.getD_some,hkey,hks];rw[<-h1];simp
  |_=>simp[hd]at h
 |_=>simp[hd]at h
theorem eu{v:Value}(hm:cZ m s.nx mv cm)(hk:cZ m s.nx k ck)(h:QB T s t mv k=some (v,aU)):Eff P m s w (Instr.mapEntry t cm ck) v aU:=by
 unfold QB at h;rcases hd:T.und t with _|dd;simp[hd]at h;cases dd with
 |map kt et=>
  cases mv with
  |map r=>
   rcases r with _|r;simp[hd]at h;simp only[hd]at h;rcases hkx:jX T 50 kt k with _|_;simp[hkx]at h;simp only[hkx,zC]at h;obtain⟨ty,hty⟩:=Dw hkx;rcases hpl:plain k with _|_;simp[hpl]at h;simp only[hpl,zC]at h;rcases hr:sA s r with _|q;simp[hr]at h;obtain⟨es,cl⟩:=q;simp only[hr]at h;have hb:w.heap[m.blk r]? = some (.map (es.map (cJ m)).toArray cl):=(hf.fits).ok r _ (RB hr);have ecm:cm=.map (some (m.blk r)):=by rw[<-hm.at];simp[ren]
   have eck:ck=k:=by rw[<-hk.at];exact qS m k hpl
   have hck:=UJ hT m false 50 9950 w hkx;rw[qS m k hpl]at hck;have hst:=R4 hf hr;rcases hfx:kE T kt k es 0 with _|fr;simp[hfx]at h;have hfi:=BE hT m w hty hfx;rw[qS m k hpl]at hfi;cases fr with
   |none=>
    simp only[hfx]at h;rcases hi:T.inf et with _|y;simp[hi]at h;obtain⟨y1,y2,z⟩:=y;have hz:=fun m'=>tM hT m' w hi
    simp only at hz;simp only[hi,zA,zB]at h;obtain⟨rfl,rfl⟩:=h;obtain⟨w₁,h1,h2⟩:=FM (P:=P) hf hr (es':=es++[{ key:=k,val:=z,born:=cl }]) (cl':=cl+1) (ces:=es.map (cJ m)++[{ key:=k,val:=z,born:=cl }]) (fun m' ha=>by simp[cJ,qS m' k hpl,(hz m').2];have:=hst m' ha;simpa[cJ]using this);refine⟨m,w₁,.tuple #[z,.int .i64 cl],?_,h2,fun m' _=>by simp[ren,aD,(hz m').2]⟩;rw[ecm,eck];have mW:(setObj (m.blk r) (.map ((es.map (cJ m)).toArray.push { key:=k,val:=z,born:=cl }) (cl+1))).run P w=.ok () w₁:=by rw[<-h1];simp
    simp only[Instr.mapEntry,zK,dH hT w hd,zJ,run_getObj_map hb,hck,hfi,Option.map_none,(hz m).1,mW,zL,goInt]
   |some p=>
    obtain⟨i,pv⟩:=p;obtain⟨_,e0,ZD,hpv⟩:=px es 0 hfx;simp only[Nat.sub_zero]at ZD;simp only[hfx,eR,ZD]at h;rcases hv:rO 50 e0.key k with _|_;simp[hv]at h;simp only[hv,zC,zA,zB]at h;obtain⟨rfl,rfl⟩:=h;obtain⟨hks,hek⟩:=xn (P:=P) hv w;obtain⟨w₁,h1,h2⟩:=FM (P:=P) hf hr (es':=es) (cl':=cl) hst;have hget:(es.map (cJ m)).toArray[i]? = some (cJ m e0):=by simp[ZD]
    have hkey:(cJ m e0).key=k:=by simp[cJ,hek,qS m k hpl]
    have hbo:(cJ m e0).born=e0.born:=rfl;rw[hek]at hks;have hmod:(es.map (cJ m)).toArray.modify i (fun e=>{ e with key:=k })=(es.map (cJ m)).toArray:=by apply Array.ext';simp only[Array.toList_modify];apply List.ext_getElem?;intro j;simp only[List.getElem?_modify];by_cases hij:i=j;subst hij;simp[ZD,cJ,hek,qS m k hpl];cases ((es.map (cJ m)).toArray.toList)[j]? <;> simp[hij]
    refine⟨m,w₁,.tuple #[ren m pv,.int .i64 e0.born],?_,h2,fun m' ha=>?_⟩;rw[ecm,eck];simp only[Instr.mapEntry,zK,dH hT w hd,zJ,run_getObj_map hb,hck,hfi,zM,hget,Option.getD_some,hkey,hks,hmod,h1,zL,goInt,hbo];have:=hst m' ha;have h3:(cJ m' e0)=cJ m e0:=by have:=congrArg (fun l=>l[i]?) this;simpa[ZD]using this
    have h4:ren m' pv=ren m pv:=by have:=congrArg MapEntry.val h3;simpa[cJ,hpv]using this
    simp[ren,aD,h4]
  |_=>simp[hd]at h
 |_=>simp[hd]at h
omit hT in
theorem gi{t:TypeId}{mv st x cm cst cx u:Value}{aU:S}(hm:cZ m s.nx mv cm)(hs:cZ m s.nx st cst)(hx:cZ m s.nx x cx)(h:UN s mv st x=some (u,aU)):
  EN P m s w (Instr.entryStore t cm cst cx) aU/\u=undef:=by
 unfold UN at h;cases mv with
 |map r=>
  rcases r with _|r;simp at h;cases st with
  |int k b=>
   simp only at h;rcases hr:sA s r with _|q;simp[hr]at h;obtain⟨es,cl⟩:=q;simp only[hr]at h;rcases hbo:FF b es 0 with _|i;simp[hbo]at h;simp only[hbo,zA,zB]at h;obtain⟨rfl,rfl⟩:=h;refine⟨?_,rfl⟩;have hb:w.heap[m.blk r]? = some (.map (es.map (cJ m)).toArray cl):=(hf.fits).ok r _ (RB hr);have ecm:cm=.map (some (m.blk r)):=by rw[<-hm.at];simp[ren]
   have ecs:cst=.int k b:=by rw[<-hs.at];simp[ren]
   have hst:=R4 hf hr;have hfind:∀(l:List MapEntry)(n i:Nat),FF b l n=some i->n<=i/\(l.map (cJ m)).findIdx? (fun e=>(e.born:Int)==b)=some (i-n):=by
    intro l;induction l with
    |nil=>intro n i hh;simp[FF]at hh|cons e l ih=>
     intro n i hh;simp only[FF]at hh;by_cases he:(e.born:Int)=b;simp[he]at hh;subst hh;have hb':(((cJ m e).born:Int)==b)=true:=by simpa[cJ]using he
     refine⟨zF _,?_⟩;rw[zQ,List.findIdx?_cons,hb'];simp;simp only[he,yB,zD]at hh;obtain⟨h1,h2⟩:=ih (n+1) i hh;have hb':(((cJ m e).born:Int)==b)=false:=by simpa[cJ]using he
     refine⟨by omega,?_⟩;rw[zQ,List.findIdx?_cons,hb',h2];simp;omega
   obtain⟨_,hfi⟩:=hfind es 0 i hbo;have hmod:∀m',aG s.nx m m'->(CA es i fun e=>{ e with val:=x }).map (cJ m')=(es.map (cJ m)).modify i fun e=>{ e with val:=cx }:=fun m' ha=>by rw[No,<-hst m' ha];apply List.ext_getElem?;intro j;simp only[List.getElem?_map,List.getElem?_modify];by_cases hij:i=j;subst hij;cases es[i]? <;> simp[cJ,hx m' ha];cases es[j]? <;> simp[hij]
   obtain⟨w₁,h1,h2⟩:=FM (P:=P) hf hr (cl':=cl) hmod;refine⟨m,w₁,?_,h2⟩;rw[ecm,ecs];have hfa:(es.map (cJ m)).toArray.findIdx? (fun e=>(e.born:Int)==b)=some i:=by rw[List.findIdx?_toArray,hfi];simp
   simp only[Instr.entryStore,zK,run_getObj_map hb,zJ,asInt,asIntOf,zL,hfa];rw[<-h1];simp
  |_=>simp at h
 |_=>simp at h
theorem OA{ty:TypeId}{ts:List TypeId}{v:Value}(hm:cZ m s.nx mv cm)(hk:cZ m s.nx k ck)(h:uG T s t mv k=some (v,aU)):Eff P m s w (Builtin.delete_ (t::ts).toArray ty #[cm,ck]) v aU:=by
 unfold uG at h;rcases hd:T.und t with _|dd;simp[hd]at h;cases dd with
 |map kt et=>
  cases mv with
  |map r=>
   cases r with
   |none=>
    simp only[hd]at h;rcases hkx:jX T 50 kt k with _|_;simp[hkx]at h;simp only[hkx,zC,zA,zB]at h;obtain⟨rfl,rfl⟩:=h;have ecm:cm=.map none:=by rw[<-hm.at];simp[ren]
    have hck:=UJ hT m true 50 9950 w hkx;rw[hk.at]at hck;refine⟨m,w,undef,?_,bA.refl hf,oO fun _=>by simp[undef,ren,aD]⟩;rw[ecm];have hck':(Instr.checkKey true 10000 kt ck).run P w=.ok () w:=hck;simp[Builtin.delete_,dH hT w hd,hck',undef]
   |some r=>
    simp only[hd]at h;rcases hkx:jX T 50 kt k with _|_;simp[hkx]at h;simp only[hkx,zC]at h;obtain⟨ty,hty⟩:=Dw hkx;rcases hr:sA s r with _|q;simp[hr]at h;obtain⟨es,cl⟩:=q;simp only[hr]at h;have hb:w.heap[m.blk r]? = some (.map (es.map (cJ m)).toArray cl):=(hf.fits).ok r _ (RB hr);have ecm:cm=.map (some (m.blk r)):=by rw[<-hm.at];simp[ren]
    have hck:=UJ hT m (es.map (cJ m)).toArray.isEmpty 50 9950 w hkx;rw[hk.at]at hck;have hck':(Instr.checkKey (es.map (cJ m)).toArray.isEmpty 10000 kt ck).run P w=.ok () w:=hck;have hst:=R4 hf hr;rcases hfx:kE T kt k es 0 with _|fr;simp[hfx]at h;have hfi:=BE hT m w hty hfx;rw[hk.at]at hfi;cases fr with
    |none=>simp only[hfx,zA,zB]at h;obtain⟨rfl,rfl⟩:=h;obtain⟨w₁,h1,h2⟩:=FM (P:=P) hf hr (es':=es) (cl':=cl) hst;refine⟨m,w₁,undef,?_,h2,oO fun _=>by simp[undef,ren,aD]⟩;rw[ecm];simp only[Builtin.delete_,List.getElem?_toArray,List.getElem?_cons_zero,zH,zK,dH hT w hd,zJ,run_getObj_map hb,hck',hfi,Option.map_none,h1,zL,undef]
    |some p=>
     obtain⟨i,pv⟩:=p;simp only[hfx,zA,zB]at h;obtain⟨rfl,rfl⟩:=h;obtain⟨w₁,h1,h2⟩:=FM (P:=P) hf hr (es':=KL es i) (cl':=cl) (ces:=(es.map (cJ m)).eraseIdx i) (fun m' ha=>by rw[wa,<-hst m' ha,mD]);refine⟨m,w₁,undef,?_,h2,oO fun _=>by simp[undef,ren,aD]⟩;have mW:(setObj (m.blk r) (.map ((es.map (cJ m)).toArray.eraseIdxIfInBounds i) cl)).run P w=.ok () w₁:=by rw[<-h1];simp
     rw[ecm];simp only[Builtin.delete_,List.getElem?_toArray,List.getElem?_cons_zero,zH,zK,dH hT w hd,zJ,run_getObj_map hb,hck',hfi,zM,mW,zL,undef]
  |_=>simp[hd]at h
 |_=>simp[hd]at h
end
def qK(m:Nm)(n:Nat)(tm:List Value)(a:Act):Prop:=∀m',aG n m m'->a.tmps=⟨aD m' tm⟩
variable{m:Nm}
variable{n:Nat}
variable{tm:List Value}
variable{a:Act}
theorem qK.ext{m':Nm}{n':Nat}(h:qK m n tm a)(ha:aG n m m')(hn:n<=n'):qK m' n' tm a:=fun k hk=>h k (ha.trans hk hn)
variable{v:Value}
theorem qK.evalO(h:qK m n tm a){x:Operand}(hx:evalO tm x=some v):cZ m n v (a.eval x):=fun m' ha=>(gP (h m' ha) hx).symm
theorem um(m:Nm)(tm:List Value)(d:Nat)(v:Value):aD m (tm.set d v)=(aD m tm).set d (ren m v):=by simp[hX,List.map_set]
theorem qK.put{m:Nm}{n:Nat}{tm:List Value}{a:Act}(h:qK m n tm a){v cv:Value}(hv:cZ m n v cv)(d:Option Tmp):qK m n (rQ tm d v) (a.put d cv):=fun m' ha=>by
 rcases d with _|d;exact h m' ha;simp only[Act.put,rQ,h m' ha,um,hv m' ha,List.setIfInBounds_toArray]
section
variable{P:Program}{T:Tb}(hT:eZ P T){m:Nm}{s:S}{w:World}(hf:dS m s w)
include hT hf
theorem O6(ha:qK m s.nx tm a)(o:Oper){aU:S}(h:lW T tm s o.op=some (v,aU)):
  ∃aF w₁ cv nxt,(execOp a.eval o).run P w=.ok nxt w₁/\(nxt=.value cv\/(nxt=.skip/\cv=undef))/\bA m s w aF aU w₁/\cZ aF aU.nx v cv:=by
 obtain⟨dst,op,type,pos,after,guard⟩:=o;simp only at h;have hval:∀{x:Sem Value},Eff P m s w x v aU->∃aF w₁ cv nxt,(do let y <-x;pure (Next.value y):Sem Next).run P w=.ok nxt w₁/\(nxt=.value cv\/(nxt=.skip/\cv=undef))/\bA m s w aF aU w₁/\cZ aF aU.nx v cv:=by rintro x ⟨aF,w₁,cv,h1,h2,h3⟩;exact⟨aF,w₁,cv,_,by simp only[zK,h1,zJ,zL],.inl rfl,h2,h3⟩
 have hunit:∀{x:Sem Unit},EN P m s w x aU/\v=undef->∃aF w₁ cv nxt,(do x;pure Next.skip:Sem Next).run P w=.ok nxt w₁/\(nxt=.value cv\/(nxt=.skip/\cv=undef))/\bA m s w aF aU w₁/\cZ aF aU.nx v cv:=by rintro x ⟨⟨aF,w₁,h1,h2⟩,rfl⟩;exact⟨aF,w₁,undef,_,by simp only[zK,h1,zJ,zL],.inr ⟨rfl,rfl⟩,h2,oO fun _=>by simp[undef,ren,aD]⟩
 unfold lW at h;cases op with
 |alloc e=>simp only at h;rcases hi:T.inf e with _|x;simp[hi]at h;obtain⟨x1,x2,z⟩:=x;simp only[hi,zA,zB]at h;obtain⟨rfl,rfl⟩:=h;have hz:=(tM hT m w hi).1;have hzc:=R3 hT hi;simp only at hz hzc;refine hval ⟨_,_,.pointer (some ⟨w.heap.size,0,none⟩),?_,Dk hf (Er hzc) e 0,Yx _ _ _ _ (zN _)⟩;simp[Instr.alloc,hz,newVar,Go.newRow]
 |box e x=>simp only at h;rcases hx:evalO tm x with _|u;simp[hx]at h;simp only[hx,zA,zB]at h;obtain⟨rfl,rfl⟩:=h;refine hval ⟨_,_,.pointer (some ⟨w.heap.size,0,none⟩),?_,Dk hf (ha.evalO hx).cells e 0,Yx _ _ _ _ (zN _)⟩;simp[Instr.box,newVar,Go.newRow]
 |store t p x=>simp only at h;rcases hp:evalO tm p with _|u;simp[hp]at h;rcases hx:evalO tm x with _|u';simp[hp,hx]at h;simp only[hp,hx]at h;exact hunit (uj hT hf (ha.evalO hp) (ha.evalO hx) h)
 |buildSlice t n ps=>
  simp only at h;rcases hp:wJ tm ps.toList with _|qs;simp[hp]at h;simp only[hp]at h;have e1:(ps.map fun(i,x)=>(i,a.eval x))=(ps.toList.map fun p=>(p.1,a.eval p.2)).toArray:=by cases ps;simp
  have:=da hT hf (cps:=ps.toList.map fun p=>(p.1,a.eval p.2)) (fun m' hm'=>(Oy (ha m' hm') hp).symm) h;simp only[execOp];rw[e1];exact hval this
 |makeSlice t l c=>simp only at h;rcases hp:evalO tm l with _|u;simp[hp]at h;rcases hx:evalO tm c with _|u';simp[hp,hx]at h;simp only[hp,hx]at h;exact hval (lp hT hf (ha.evalO hp) (ha.evalO hx) h)
 |makeMap t r=>cases r with|some r=>simp at h|none=>simp only[zA,zB]at h;obtain⟨rfl,rfl⟩:=h;refine hval ⟨_,_,.map (some w.heap.size),?_,bA.alloc hf (.map #[] 0) (.inr ([],0)) 0 ?_,fun m' hm'=>?_⟩;simp[Instr.makeMap];intro m' hm';have e1:=(hm' s.nx (zN _)).1;simp only[nX,e1,(pR m s.nx w.heap.size 0 0).1];show(w.heap.push _)[w.heap.size]? = _;simp;have e1:=(hm' s.nx (zN _)).1;simp only[ren,e1,(pR m s.nx w.heap.size 0 0).1]
 |slice t x lo hi mx=>simp only at h;rcases hx:evalO tm x with _|u;simp[hx]at h;rcases h1:kP tm lo with _|l;simp[hx,h1]at h;rcases h2:kP tm hi with _|hh;simp[hx,h1,h2]at h;rcases h3:kP tm mx with _|mm;simp[hx,h1,h2,h3]at h;simp only[hx,h1,h2,h3]at h;exact hval (cr hT hf (ha.evalO hx) (fun m' hm'=>(D6 (ha m' hm') h1).symm) (fun m' hm'=>(D6 (ha m' hm') h2).symm) (fun m' hm'=>(D6 (ha m' hm') h3).symm) h)
 |mapUpdate t q k x=>simp only at h;rcases h1:evalO tm q with _|u1;simp[h1]at h;rcases h2:evalO tm k with _|u2;simp[h1,h2]at h;rcases h3:evalO tm x with _|u3;simp[h1,h2,h3]at h;simp only[h1,h2,h3]at h;exact hunit (Zs hT hf (ha.evalO h1) (ha.evalO h2) (ha.evalO h3) h)
 |insert t q k x=>simp only at h;rcases h1:evalO tm q with _|u1;simp[h1]at h;rcases h2:evalO tm k with _|u2;simp[h1,h2]at h;rcases h3:evalO tm x with _|u3;simp[h1,h2,h3]at h;simp only[h1,h2,h3]at h;exact hunit (Zs hT hf (ha.evalO h1) (ha.evalO h2) (ha.evalO h3) h)
 |mapEntry t q k=>simp only at h;rcases h1:evalO tm q with _|u1;simp[h1]at h;rcases h2:evalO tm k with _|u2;simp[h1,h2]at h;simp only[h1,h2]at h;exact hval (eu hT hf (ha.evalO h1) (ha.evalO h2) h)
 |entryStore t q k x=>simp only at h;rcases h1:evalO tm q with _|u1;simp[h1]at h;rcases h2:evalO tm k with _|u2;simp[h1,h2]at h;rcases h3:evalO tm x with _|u3;simp[h1,h2,h3]at h;simp only[h1,h2,h3]at h;exact hunit (gi hf (ha.evalO h1) (ha.evalO h2) (ha.evalO h3) h)
 |call c=>
  obtain⟨callee,args,ats⟩:=c;simp only at h;cases callee with
  |builtin b=>
   cases b with
   |append=>
    simp only at h;rcases hx:fX tm args.toList with _|vs;simp[hx]at h;rcases vs with _ |⟨x,_ |⟨y,_ |⟨z,l⟩⟩⟩;simp[hx]at h;simp[hx]at h;obtain⟨ats⟩:=ats;rcases ats with _ |⟨t,_ |⟨xt,_ |⟨q,r⟩⟩⟩;simp[hx]at h;simp[hx]at h;simp only[hx]at h;have e0:=mR (ha m (aG.refl _ _)) hx;simp only[aD]at e0;have r1:cZ m s.nx x (ren m x):=fun m' hm'=>by have e1:=mR (ha m' hm') hx;rw[e0]at e1;simp only[aD]at e1;simp at e1;exact e1.1.symm
    have r2:cZ m s.nx y (ren m y):=fun m' hm'=>by have e1:=mR (ha m' hm') hx;rw[e0]at e1;simp only[aD]at e1;simp at e1;exact e1.2.symm
    obtain⟨aF,w₁,cv,g1,g2,g3⟩:=ao hT hf (ty:=type) r1 r2 h;refine⟨aF,w₁,cv,.value cv,?_,.inl rfl,g2,g3⟩;simp only[execOp,zK,resolve,zL,zJ,invoke,builtin,e0];rw[g1];rfl;simp[hx]at h;simp[hx]at h
   |copy=>
    simp only at h;rcases hx:fX tm args.toList with _|vs;simp[hx]at h;rcases vs with _ |⟨x,_ |⟨y,_ |⟨z,l⟩⟩⟩;simp[hx]at h;simp[hx]at h;obtain⟨ats⟩:=ats;rcases ats with _ |⟨t,ts⟩;simp[hx]at h;simp only[hx]at h;have e0:=mR (ha m (aG.refl _ _)) hx;simp only[aD]at e0;have r1:cZ m s.nx x (ren m x):=fun m' hm'=>by have e1:=mR (ha m' hm') hx;rw[e0]at e1;simp only[aD]at e1;simp at e1;exact e1.1.symm
    have r2:cZ m s.nx y (ren m y):=fun m' hm'=>by have e1:=mR (ha m' hm') hx;rw[e0]at e1;simp only[aD]at e1;simp at e1;exact e1.2.symm
    obtain⟨aF,w₁,cv,g1,g2,g3⟩:=Ny hT hf (ty:=type) (ts:=ts) r1 r2 h;refine⟨aF,w₁,cv,.value cv,?_,.inl rfl,g2,g3⟩;simp only[execOp,zK,resolve,zL,zJ,invoke,builtin,e0];rw[g1];rfl;simp[hx]at h
   |delete=>
    simp only at h;rcases hx:fX tm args.toList with _|vs;simp[hx]at h;rcases vs with _ |⟨x,_ |⟨y,_ |⟨z,l⟩⟩⟩;simp[hx]at h;simp[hx]at h;obtain⟨ats⟩:=ats;rcases ats with _ |⟨t,ts⟩;simp[hx]at h;simp only[hx]at h;have e0:=mR (ha m (aG.refl _ _)) hx;simp only[aD]at e0;have r1:cZ m s.nx x (ren m x):=fun m' hm'=>by have e1:=mR (ha m' hm') hx;rw[e0]at e1;simp only[aD]at e1;simp at e1;exact e1.1.symm
    have r2:cZ m s.nx y (ren m y):=fun m' hm'=>by have e1:=mR (ha m' hm') hx;rw[e0]at e1;simp only[aD]at e1;simp at e1;exact e1.2.symm
    obtain⟨aF,w₁,cv,g1,g2,g3⟩:=OA hT hf (ty:=type) (ts:=ts) r1 r2 h;refine⟨aF,w₁,cv,.value cv,?_,.inl rfl,g2,g3⟩;simp only[execOp,zK,resolve,zL,zJ,invoke,builtin,e0];rw[g1];rfl;simp[hx]at h
   |clear=>
    simp only at h;rcases hx:fX tm args.toList with _|vs;simp[hx]at h;rcases vs with _ |⟨x,_ |⟨y,l⟩⟩;simp[hx]at h;obtain⟨ats⟩:=ats;rcases ats with _ |⟨t,ts⟩;simp[hx]at h;simp only[hx]at h;have e0:=mR (ha m (aG.refl _ _)) hx;simp only[aD]at e0;have r1:cZ m s.nx x (ren m x):=fun m' hm'=>by have e1:=mR (ha m' hm') hx;rw[e0]at e1;simp only[aD]at e1;simp at e1;exact e1.symm
    obtain⟨aF,w₁,cv,g1,g2,g3⟩:=gv hT hf (ty:=type) (ts:=ts) r1 h;refine⟨aF,w₁,cv,.value cv,?_,.inl rfl,g2,g3⟩;simp only[execOp,zK,resolve,zL,zJ,invoke,builtin,e0];rw[g1];rfl;simp[hx]at h
   |_=>simp at h
  |_=>simp at h
 |_=>simp at h
end
def Q8(P:Program)(call:uZ):Prop :=
 ∀f args s v aU,call f args s=some (v,aU)->∀m w cargs,dS m s w->j5 m s.nx args cargs->
  Calls P f cargs.toArray w fun e w₁=>∃aF cv,e=.returned cv/\bA m s w aF aU w₁/\cZ aF aU.nx v cv
section
variable{P:Program}{T:Tb}(hT:eZ P T){call:uZ}(hC:Q8 P call)
include hT
theorem wi(ha:qK m n tm a)(o:Oper)(w:World){f:FuncId}{args:List Value}(h:callOf T tm o.op=some (f,args)):
  ∃cargs,(execOp a.eval o).run P w=.ok (.enter f cargs.toArray) w/\j5 m n args cargs:=by
 obtain⟨dst,op,type,pos,after,guard⟩:=o;simp only at h;unfold callOf at h;cases op with
 |call c=>
  obtain⟨callee,a7,ats⟩:=c;simp only at h;cases callee with
  |value g=>
   simp only at h;rcases hg:evalO tm g with _|u;simp[hg]at h;cases u with
   |func fn first cap=>
    cases fn with
    |func k=>
     simp only[hg]at h;rcases hk:T.fn k with _|fn;simp[hk]at h;simp only[hk]at h;rcases hb:fn.body.isSome with _|_;simp[hb]at h;simp only[hb,zC]at h;rcases hl:fX tm a7.toList with _|vs;simp[hl]at h;simp only[hl,zA,zB]at h;obtain⟨rfl,rfl⟩:=h;obtain⟨hfn,hname⟩:=hT.fn k fn hk;obtain⟨first⟩:=first
     obtain⟨cap⟩:=cap;have e0:=gP (ha m (aG.refl _ _)) hg;have e1:=mR (ha m (aG.refl _ _)) hl;refine⟨aD m first++aD m vs++aD m cap,?_,fun m' hm'=>?_⟩;have hnb:fn.body.isNone=false:=by cases hbb:fn.body<;>simp_all
     simp only[ren,gT]at e0;simp only[execOp,zK,resolve,e0,e1,Deferred.ofValue,zL,zJ,invoke,callFunc,run_program,hfn,hname hb,hnb,Bool.false_eq_true,if_false];simp;have O8:=gP (ha m' hm') hg;have O7:=mR (ha m' hm') hl;rw[e0]at O8;rw[e1]at O7;simp only[ren,gT]at O8;simp at O8 O7;rw[BO,BO,O8.1,O8.2,O7]
    |_=>simp[hg]at h
   |_=>simp[hg]at h
  |_=>simp at h
 |_=>simp at h
include hC
theorem GL{s:S}{w:World}(hf:dS m s w)(ha:qK m s.nx tm a)(o:Oper){aU:S}(h:pV T call tm s o.op=some (v,aU))
  {next:Act->World->Prop} {Q:Exit->Act->World->Prop} (hn:∀aF w₁ cv,bA m s w aF aU w₁->cZ aF aU.nx v cv->next (a.put o.dst cv) w₁):o.wp P a w next Q:=by
 unfold pV at h;unfold Oper.wp;cases h1:eF T tm o.op with
 |some u=>simp only[h1,zA,zB]at h;obtain⟨rfl,rfl⟩:=h;have hrun:=fun m' hm'=>yz hT m' w (ha m' hm') o h1;rw[hrun m (aG.refl _ _)];refine hn m w _ (bA.refl hf) fun m' hm'=>?_;have e1:=hrun m' hm';rw[hrun m (aG.refl _ _)]at e1;simp at e1;exact e1.symm
 |none=>
  simp only[h1]at h;cases h2:iV T tm s o.op with
  |some u=>simp only[h2,zA,zB]at h;obtain⟨rfl,rfl⟩:=h;have hrun:=fun m' hm'=>Na hT m' w (hf m' hm') (ha m' hm') o h2;rw[hrun m (aG.refl _ _)];refine hn m w _ (bA.refl hf) fun m' hm'=>?_;have e1:=hrun m' hm';rw[hrun m (aG.refl _ _)]at e1;simp at e1;exact e1.symm
  |none=>
   simp only[h2]at h;cases h3:lW T tm s o.op with
   |some r=>simp only[h3,zA]at h;subst h;obtain⟨aF,w₁,cv,nxt,g1,g2,g3,g4⟩:=O6 hT hf ha o h3;rw[g1];rcases g2 with rfl |⟨rfl,rfl⟩;exact hn aF w₁ cv g3 g4;exact hn aF w₁ undef g3 g4
   |none=>simp only[h3]at h;rcases h4:callOf T tm o.op with _|q;simp[h4]at h;obtain⟨f,args⟩:=q;simp only[h4]at h;obtain⟨cargs,g1,g2⟩:=wi hT ha o w h4;rw[g1];show Calls P f _ w _;refine(hC f args s v aU h m w cargs hf g2).mono ?_;rintro e w₁ ⟨aF,cv,rfl,g3,g4⟩;exact hn aF w₁ cv g3 g4
omit hC hT in
theorem Pg{m:Nm}{tm:List Value}{a:Act}(ha:a.tmps=⟨aD m tm⟩)(ops:Array Oper)(o:Oper):Region.wanted o (yielded ops a.tmps)=UT ops.toList tm o:=by
 unfold Region.wanted UT;rcases o.guard with _|g;rfl;obtain⟨j,want⟩:=g;simp only[yielded,qO,eR,ha];have hj:ops.toList[j]? = ops[j]?:=by simp
 rw[hj];rcases ops[j]? with _|q;simp;simp only[Option.bind_some];rcases hd:q.dst with _|d;simp;simp only[Option.bind_some,List.getElem?_toArray,hX,List.getElem?_map];rcases tm[d]? with _|v;simp;simp only[zM];cases v with
 |pointer p=>cases p<;>simp[ren]|slice p n c=>cases p<;>simp[ren]
 |map r=>cases r<;>simp[ren]|chan r=>cases r<;>simp[ren]
 |bool b=>simp[ren]|_=>simp[ren]
end
theorem BN{b c:Bool}(h:cond b c false=true):b=true/\c=true:=by cases b<;>simp_all
theorem U'{l:List Operand}{t:Tmp}(h : .tmp t∈l):t∈tmpsOf l:=by
 induction l with|nil=>simp at h|cons x l ih=>rcases zI.1 h with rfl |h2;simp[tmpsOf];cases x<;>simp[tmpsOf,ih h2]
section
variable{T:Tb}{tm tm':List Value}{op:Op}
end
variable{k:Nat}
theorem er{acc:List Nat}{es:List Edge}(h:(CP acc es).testBit k=true):∃e∈es,Region.binds .any e=true/\(k=e.on\/∃x,acc[e.on]? = some x/\x.testBit k=true):=by
 induction es with
 |nil=>simp[CP]at h|cons e es ih=>
  simp only[CP,eR]at h;cases hb:Region.binds .any e with
  |false=>simp only[hb,zD]at h;obtain⟨e',h1,h2⟩:=ih h;exact⟨e',by simp[h1],h2⟩
  |true=>simp only[hb,zC,Nat.testBit_or,Bool.or_eq_true]at h;rcases h with(h |h)|h;refine⟨e,by simp,hb,.inl ?_⟩;rw[Nat.testBit_two_pow]at h;simpa using(of_decide_eq_true h).symm;refine⟨e,by simp,hb,.inr ?_⟩;rcases hx:acc[e.on]? with _|x;simp[hx]at h;simp only[hx]at h;exact⟨x,rfl,h⟩;obtain⟨e',h1,h2⟩:=ih h;exact⟨e',by simp[h1],h2⟩
theorem Po:∀(l:List Oper)(acc:List Nat),(cK l acc).length=acc.length+l.length/\(cK l acc).take acc.length=acc/\
  ∀i o,l[i]? = some o->(cK l acc)[acc.length+i]? = some (CP ((cK l acc).take (acc.length+i)) o.after.toList)
 |[],acc=>by simp[cK]
 |o::l,acc=>by
  obtain⟨h1,h2,h3⟩:=Po l (acc++[CP acc o.after.toList]);simp only[cK];refine⟨by rw[h1];simp;omega,?_,fun i q hq=>?_⟩;have:=congrArg (List.take acc.length) h2;rw[List.take_take]at this;simpa using this;cases i with
  |zero=>
   simp only[List.getElem?_cons_zero,zA]at hq;subst hq;have e1:(cK l (acc++[CP acc o.after.toList])).take acc.length=acc:=by have:=congrArg (List.take acc.length) h2;rw[List.take_take]at this;simpa using this
   rw[Nat.add_zero,e1];have:=congrArg (fun z=>z[acc.length]?) h2;simp only[List.getElem?_take]at this;simpa using this
  |succ i=>simp only[zH]at hq;have:=h3 i q hq;simp only[zU,zO,zS]at this;rw[show acc.length+(i+1)=acc.length+(0+1)+i by omega];exact this
section
variable(ops:List Oper)
def Pre(i k:Nat):Prop:=∃x,(cK ops [])[i]? = some x/\x.testBit k=true
variable{i:Nat}
theorem Nf(h:Pre ops i k):∃o e,ops[i]? = some o/\e∈o.after.toList/\Region.binds .any e=true/\(k=e.on\/Pre ops e.on k):=by
 obtain⟨x,h1,h2⟩:=h;obtain⟨g1,_,g3⟩:=Po ops [];have hi:i<ops.length:=by have:=(zG.1 h1).1;simp at g1;omega
 have ho:ops[i]? = some ops[i]:=by simp[hi]
 have:=g3 i _ ho;simp only[zS,Nat.zero_add]at this;rw[h1]at this;simp only[zA]at this;rw[this]at h2;obtain⟨e,he,hb,hk⟩:=er h2;refine⟨_,e,ho,he,hb,?_⟩;rcases hk with hk |⟨y,hy,hyk⟩;exact .inl hk;refine .inr ⟨y,?_,hyk⟩;rw[List.getElem?_take]at hy;split at hy;exact hy;cases hy
theorem si{es:List Edge}(h:tV i es=true):∀e∈es,Region.binds .any e=true->e.on<i:=by
 induction es with
 |nil=>simp|cons e es ih=>
  simp only[tV]at h;intro e' he' hb';cases hb:Region.binds .any e with
  |false=>simp only[hb,zD]at h;rcases zI.1 he' with rfl |he';rw[hb]at hb';cases hb';exact ih h e' he' hb'
  |true=>simp only[hb,zC]at h;obtain⟨h1,h2⟩:=BN h;rcases zI.1 he' with rfl |he';exact wV h1;exact ih h2 e' he' hb'
theorem za{lk:List Tmp}{di:Option Tmp}{i mi:Nat}:∀(l:List Oper)(ms:List Nat)(b:Nat),rowOk lk di i mi l ms b=true->∀j o,l[j]? = some o->∃mk,ms[j]? = some mk/\Lw lk di i mi (b+j) mk o.dst=true
 |[],_,_,_=>fun j o h=>by simp at h
 |o::l,[],b,h=>by simp[rowOk]at h
 |o::l,mk::ms,b,h=>fun j q hq=>by
  simp only[rowOk]at h;obtain⟨h1,h2⟩:=BN h;cases j with
  |zero=>simp at hq;subst hq;exact⟨mk,rfl,h1⟩|succ j=>simp only[zH]at hq;obtain⟨mk',g1,g2⟩:=za l ms (b+1) h2 j q hq;exact⟨mk',by simpa using g1,by rw[show b+(j+1)=b+1+j by omega];exact g2⟩
theorem Pz{ms:List Nat}:∀(l:List Oper)(mr:List Nat)(b:Nat),UA ops ms l mr b=true->∀j o,l[j]? = some o->∃mi,mr[j]? = some mi/\tV (b+j) o.after.toList=true/\rowOk (CT ops o) o.dst (b+j) mi ops ms 0=true
 |[],_,_,_=>fun j o h=>by simp at h
 |o::l,[],b,h=>by simp[UA]at h
 |o::l,mi::mr,b,h=>fun j q hq=>by
  simp only[UA]at h;obtain⟨h1,h2⟩:=BN h;obtain⟨h2,h3⟩:=BN h2;cases j with
  |zero=>simp at hq;subst hq;exact⟨mi,rfl,h1,h2⟩|succ j=>simp only[zH]at hq;obtain⟨mi',g1,g2,g3⟩:=Pz l mr (b+1) h3 j q hq;refine⟨mi',by simpa using g1,?_,?_⟩;rw[show b+(j+1)=b+1+j by omega];exact g2;rw[show b+(j+1)=b+1+j by omega];exact g3
variable{ops}(hst:KX ops=true)
include hst
theorem Kb{o:Oper}(ho:ops[i]? = some o):∀e∈o.after.toList,Region.binds .any e=true->e.on<i:=by
 obtain⟨_,_,h2,_⟩:=Pz ops ops _ 0 hst i o ho;rw[Nat.zero_add]at h2;exact si h2
theorem Wv{o q:Oper}(ho:ops[i]? = some o)(hq:ops[k]? = some q)(hik:i≠k){d:Tmp}(hd:q.dst=some d):o.dst≠some d/\(d∈CT ops o->Pre ops i k\/Pre ops k i):=by
 obtain⟨mi,h1,_,h3⟩:=Pz ops ops _ 0 hst i o ho;obtain⟨mk,h4,h5⟩:=za ops _ 0 h3 k q hq;simp only[Nat.zero_add,Lw,hd,beq_eq,hik,yB,zD]at h5;have tail:(cond ((CT ops o).any (Nat.beq d)) (cond (mi.testBit k) true (mk.testBit i)) true=true)->d∈CT ops o->Pre ops i k\/Pre ops k i:=fun h6 hl=>by have hany:(CT ops o).any (Nat.beq d)=true:=List.any_eq_true.2 ⟨d,hl,by simp⟩;rw[hany]at h6;simp only[zC]at h6;rcases hb:mi.testBit k with _|_;simp only[hb,zD]at h6;exact .inr ⟨mk,h4,h6⟩;exact .inl ⟨mi,h1,hb⟩
 cases hod:o.dst with|none=>simp only[hod,zD]at h5;exact⟨by simp,tail h5⟩|some d'=>simp only[hod]at h5;by_cases e:d=d';simp[e]at h5;simp only[e,yB,zD]at h5;exact⟨by simpa using fun x=>e x.symm,tail h5⟩
theorem Vc:∀(i k:Nat),Pre ops i k->k<i:=by
 intro i;induction i using Nat.strongRecOn with
 |_ i ih=>intro k h;obtain⟨o,e,h1,h2,h3,h4⟩:=Nf ops h;have hlt:=Kb hst h1 e h2 h3;rcases h4 with rfl |h4;exact hlt;exact Nat.lt_trans (ih e.on hlt k h4) hlt
def Closed(ops:List Oper)(L:Nat->Prop):Prop:=∀i o,L i->ops[i]? = some o->∀e∈o.after.toList,Region.binds .any e=true->L e.on
theorem Qg{L:Nat->Prop}(hL:Closed ops L):∀(i k:Nat),L i->Pre ops i k->L k:=by
 intro i;induction i using Nat.strongRecOn with
 |_ i ih=>intro k hi h;obtain⟨o,e,h1,h2,h3,h4⟩:=Nf ops h;have hlt:=Kb hst h1 e h2 h3;have he:=hL i o hi h1 e h2 h3;rcases h4 with rfl |h4;exact he;exact ih e.on hlt k he h4
theorem Eg{L:Nat->Prop}(hL:Closed ops L)(hi:∀o,ops[i]? = some o->∀e∈o.after.toList,Region.binds .any e=true->L e.on)(h:Pre ops i k):L k:=by
 obtain⟨o,e,h1,h2,h3,h4⟩:=Nf ops h;have he:=hi o h1 e h2 h3;rcases h4 with rfl |h4;exact he;exact Qg hst hL e.on k he h4
end
section
variable{P:Program}{T:Tb}(hT:eZ P T){call:uZ}(hC:Q8 P call)(ops:Array Oper){tm₀:List Value}{Ll:S}{rs:List Rec}{tm':List Value}{s':S}
 (htr:Us T call ops.toList ops.toList tm₀ Ll=some (rs,tm',s')) (hst:KX ops.toList=true) (hrs:Uy T rs (cK ops.toList []) rs (cK ops.toList []) 0=true)
include htr hst
include hT hC hrs
end
section
variable{P:Program}{T:Tb}(hT:eZ P T){call:uZ}(hC:Q8 P call)
include hT hC
end
theorem LV(n:Nat)(l:List Value):pad n l=l++List.replicate (n-l.length) undef:=by
 induction n generalizing l with|zero=>simp[pad]|succ n ih=>rcases l with _|⟨v,l⟩;simp[pad,ih,List.replicate_succ];simp[pad,ih]
section
variable{P:Program}{T:Tb}(hT:eZ P T)
include hT
theorem Lv{m:Nm}{s:S}{w:World}(hf:Fits m s w){tm:List Value}(F:ResultVar->Sem Value)(Tl:∀t,F (.tmp t)=pure ((⟨aD m tm⟩:Array Value).getD t undef))
  (Tk:∀a t,F (.cell a t)=(do loadVar t (<-asAddr ((⟨aD m tm⟩:Array Value).getD a undef)))):∀(rs:List ResultVar)(vs:List Value),uR T tm s rs=some vs->(rs.mapM F).run P w=.ok (aD m vs) w
 |[],vs,h=>by simp[uR]at h;subst h;simp[aD]
 |.tmp t::rs,vs,h=>by
  simp only[uR,eR]at h;rcases ht:tm[t]? with _|v;simp[ht]at h;simp only[ht]at h;rcases hr:uR T tm s rs with _|l;simp[hr]at h;simp only[hr,zA]at h;subst h;have ih:=Lv hf F Tl Tk rs l hr;have e1:(⟨aD m tm⟩:Array Value).getD t undef=ren m v:=by simp[hX,ht]
  simp only[List.mapM_cons,zK,Tl,zL,zJ,ih,e1,aD]
 |.cell a t::rs,vs,h=>by
  simp only[uR]at h;rcases ht:iV T tm s (.load t (.tmp a))with _|v;simp[ht]at h;simp only[ht]at h;rcases hr:uR T tm s rs with _|l;simp[hr]at h;simp only[hr,zA]at h;subst h;have ih:=Lv hf F Tl Tk rs l hr;simp only[iV,evalO]at ht;rcases hta:nth tm a with _|u;simp[hta]at ht;cases u with
  |pointer p=>
   rcases p with _|q;simp[hta]at ht;simp only[hta]at ht;rcases hl:lk s.h q.block with _|blk;simp[hl]at ht;rcases blk with⟨l',e,md⟩|x;simp only[hl]at ht;have hload:=Xw hT m w hf hl ht;rw[eR]at hta;have e1:(⟨aD m tm⟩:Array Value).getD a undef=.pointer (some ⟨m.blk q.block,m.sh q.block+q.off,none⟩):=by simp[hX,hta,ren]
   simp only[List.mapM_cons,zK,Tk,e1,asAddr,zL,zJ,hload,ih,aD];simp[hl]at ht
  |_=>simp[hta]at ht
theorem J'{m:Nm}{s:S}{w:World}(hf:Fits m s w){tm:List Value}{fn:Func}{vs:List Value}(h:uR T tm s fn.results.toList=some vs):
  (results fn ⟨aD m tm⟩).run P w=.ok (ren m (uU vs)) w:=by
 unfold results;rw[zK,Array.mapM_eq_mapM_toList,Sem.run_map,Lv hT hf _ (fun t=>rfl) (fun a t=>rfl) fn.results.toList vs h];simp only[zJ,zL];congr 1;rcases vs with _ |⟨v,_ |⟨u,l⟩⟩;simp[aD,uU,ren];simp[aD,uU];simp[aD,uU,ren]
end
theorem Nt(P:Program)(t:TypeId):P.info? t=P.types[t]? \/P.types[t]? = none:=by
 by_cases h:t<P.types.size;exact .inl (by unfold Tables.info?;rw[if_pos h]);exact .inr (Array.getElem?_eq_none (Nat.le_of_not_lt h))
theorem yl (P : Program) (eqs : List TypeId) (hm : P.follows .mixedOrders = true) (hn : ∀ f ∈ P.funcs.toList, f.body.isSome = true → (f.name == "runtime.NumGoroutine") = false)
  (he:∀t∈eqs,P.stoodInHeld t=false/\P.eqGuardType P.depth t=false):eZ P (tA P eqs) where
 und t d h:=by
  simp only[tA,eR]at h;rcases ht:P.types.toList[t]? with _|i;simp[ht]at h;have hi:P.info? t=some i:=by
   have ht':P.types[t]? = some i:=by simpa using ht
   rcases Nt P t with h1 |h1;rw[h1,ht'];rw[h1]at ht';cases ht'
  simp only[ht]at h;unfold Program.underlying;rw[hi];obtain⟨desc,s1,s2,s3,s4,s5,s6,s7,s8,s9⟩:=i;cases desc with
  |named nm u=>
   simp only at h ⊢;rcases hu:P.types.toList[u]? with _|j;simp[hu]at h;have hj:P.info? u=some j:=by
    have hu':P.types[u]? = some j:=by simpa using hu
    rcases Nt P u with h1 |h1;rw[h1,hu'];rw[h1]at hu';cases hu'
   simp only[hu,zA]at h;rw[hj];simp[h]
  |_=>simpa using h
 inf t a b z h:=by
  simp only[tA,eR]at h;rcases ht:P.types.toList[t]? with _|i;simp[ht]at h;have hi:P.info? t=some i:=by
   have ht':P.types[t]? = some i:=by simpa using ht
   rcases Nt P t with h1 |h1;rw[h1,ht'];rw[h1]at ht';cases ht'
  simp only[ht]at h;rcases hz:i.zero with _|z';simp[hz]at h;simp only[hz]at h;rcases hp:plain z' with _|_;simp[hp]at h;simp only[hp,zC,zA,zB]at h;obtain⟨rfl,rfl,rfl⟩:=h;exact⟨hp,i,hi,rfl,rfl,hz⟩
 fn f g h:=by
  simp only[tA,eR]at h;have h':P.funcs[f]? = some g:=by simpa using h
  exact⟨h',hn g (zX h)⟩
 eqs t h:=by
  simp only[tA]at h;obtain⟨u,hu,e⟩:=List.any_eq_true.1 h;have:t=u:=by simpa[beq_eq]using e
  subst this;exact he t hu
 mixed:=hm
end Go.Rx
