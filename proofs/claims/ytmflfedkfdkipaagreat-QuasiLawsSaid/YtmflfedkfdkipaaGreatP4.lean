import Derived.Laws.Append
import Derived.Test.YtmflfedkfdkipaaGreatP3
set_option linter.all false
namespace Go.Rx
open Go
def Eff(P:Uz)(m:Nm)(s:S)(w:Tz)(x:Sem A)(v:A)(bE:S):Prop :=
 ∃aI w₁ cv,x.run P w=.ok cv w₁/\bQ m s w aI bE w₁/\eI aI bE.nx v cv
def OO(P:Uz)(m:Nm)(s:S)(w:Tz)(x:Sem Unit)(bE:S):Prop :=
 ∃aI w₁,x.run P w=.ok () w₁/\bQ m s w aI bE w₁
def eI.cells{m:Nm}{n:Nat}{v cv:A}(h:eI m n v cv):mU m n v.cells.toList cv.cells.toList:=fun m' ha=>by
 rw[<-h m' ha,qp,kF]
variable{m:Nm}
variable{n:Nat}
variable{l:Z A}
def qt(h:∀m',aE m' l=l):mU m n l l:=fun m' _=>h m'
variable{v:A}
def vG(h:∀m',ren m' v=v):eI m n v v:=fun m' _=>h m'
def mU.append{a b ca cb:Z A}(h:mU m n a ca)(h':mU m n b cb):mU m n (a++b) (ca++cb):=fun m' ha=>by
 rw[K3,h m' ha,h' m' ha]
def xA(m:Nm)(i b sh cp:Nat):(m.set i b sh cp).blk i=b/\(m.set i b sh cp).sh i=sh/\(m.set i b sh cp).cp i=cp:=by simp[Nm.set]
variable{s:S}
def qux(b sh cp n:Nat)(hn:s.nx<n):eI (m.set s.nx b sh cp) n (.pointer (some ⟨s.nx,0,none⟩)) (.pointer (some ⟨b,sh,none⟩)):=fun m' ha=>by
 obtain⟨h1,h2,_⟩:=ha s.nx hn;obtain⟨e1,e2,_⟩:=xA m s.nx b sh cp;simp[ren,h1,h2,e1,e2]
variable{w:Tz}
def Zh(hf:fN m s w){cl:Z A}(hl:mU m s.nx l cl)(e:O)(cp:Nat):
  bQ m s w (m.set s.nx w.heap.size 0 cp) (newRow s l e 0) (w.alloc (.cells ⟨cl⟩ e)):=by refine bQ.alloc hf _ _ cp fun m' ha=>?_;have jJ:aJ s.nx m m':=(Nm.agree_set m s.nx w.heap.size 0 cp).trans ha (Nat.le_succ _);obtain⟨h1,h2,_⟩:=ha s.nx (zN _);obtain⟨e1,e2,_⟩:=xA m s.nx w.heap.size 0 cp;refine⟨by rw[h2,e2],?_⟩;rw[h1,e1,hl m' jJ];show(w.heap.push _)[w.heap.size]? = _;simp
def zx(hf:fN m s w){cl rest:Z A}(hl:mU m s.nx l cl)(e:O)(cp sz:Nat)(aN:l.length+rest.length=cp*sz):
  bQ m s w (m.set s.nx w.heap.size 0 cp) (newRow s l e (sz+2)) (w.alloc (.cells ⟨cl++rest⟩ e)):=by refine bQ.alloc hf _ _ cp fun m' ha=>?_;have jJ:aJ s.nx m m':=(Nm.agree_set m s.nx w.heap.size 0 cp).trans ha (Nat.le_succ _);obtain⟨h1,h2,h3⟩:=ha s.nx (zN _);obtain⟨e1,e2,e3⟩:=xA m s.nx w.heap.size 0 cp;refine⟨[],rest,?_,by simp[h2,e2],by rw[h3,e3,aN]⟩;rw[h1,e1,hl m' jJ];show(w.heap.push _)[w.heap.size]? = _;simp
def fj{e:O}{md:Nat}(h:md≠1):Own (.inl (l,e,md))=true:=by rcases md with _ |_ |n<;>simp_all[Own]
def qe{P:Uz}(hf:fN m s w){i off:Nat}{l' vs lX:Z A}{e:O}{md:Nat}(hr:cE s i=some (l,e,md))(hp:qR l off vs=some l')
  (hv:mU m s.nx vs lX) (h1:pU vs=true):
  ∃w₁,(storeCells ⟨m.blk i,m.sh i+off,none⟩ lX 0).run P w=.ok () w₁/\bQ m s w m ⟨up s.h i (.inl (l',e,md)),s.nx⟩ w₁:=by
 obtain⟨hl,oD⟩:=zl hr;obtain⟨aN,xN⟩:=qqb hp;have vR:∀v∈lX,v.oneCell'=true:=by rw[<-hv.at];exact qls h1
 have iF:lX.length=vs.length:=by rw[<-hv.at];simp
 rcases md with _ |_ |n;have h0:∀m',aJ s.nx m m'->m'.sh i=0/\w.heap[m'.blk i]? = some (.cells (aE m' l).toArray e (0,0)):=fun m' ha=>(hf m' ha).ok i _ hl
 obtain⟨yi,hb⟩:=h0 m (aJ.refl _ _);have c9:=run_storeCells_at P (m.blk i) off e lX 0 _ w hb (by simp;omega) vR;simp only[Nat.add_zero]at c9;rw[yi,Nat.zero_add];refine⟨_,c9,bQ.write hf hl (fj oD) (fun k hk=>setRow_other w _ k _ hk) (by simp) rfl rfl rfl (zF _) fun m' ha=>?_⟩;obtain⟨G_,bV⟩:=h0 m' ha;have w5:m'.blk i=m.blk i:=(ha i ((hf.fits).bd i _ hl)).1;refine⟨G_,?_⟩;rw[w5,setRow_heap w _ _ _ e (0,0) hb];rw[w5]at bV;have KS:aE m' l=aE m l:=by have:=hb.symm.trans bV;simp at this;exact this.symm
 rw[xN,K3,K3,hv m' ha];have e1:aE m' (l.take off)=(aE m l).take off:=by rw[<-KS];simp[lD,List.map_take]
 have e2:aE m' (l.drop (off+vs.length))=(aE m l).drop (off+lX.length):=by rw[<-KS,iF];simp[lD,List.map_drop]
 rw[e1,e2];exact absurd rfl oD;have h0:∀m',aJ s.nx m m'->∃pr rest,w.heap[m'.blk i]? = some (.cells (pr++aE m' l++rest).toArray e (0,0))/\pr.length=m'.sh i/\l.length+rest.length=m'.cp i*n:=fun m' ha=>(hf m' ha).ok i _ hl;obtain⟨pr,rest,hb,m8,AP⟩:=h0 m (aJ.refl _ _);have c9:=run_storeCells_at P (m.blk i) (m.sh i+off) e lX 0 _ w hb (by simp;omega) vR;simp only[Nat.add_zero]at c9;refine⟨_,c9,bQ.write hf hl (fj oD) (fun k hk=>setRow_other w _ k _ hk) (by simp) rfl rfl rfl (zF _) fun m' ha=>?_⟩;obtain⟨pr',FC,bV,T_,N_⟩:=h0 m' ha;obtain⟨w5,Hz,hci⟩:=ha i ((hf.fits).bd i _ hl);rw[w5]at bV;have cC:pr'++aE m' l++FC=pr++aE m l++rest:=by have:=hb.symm.trans bV;simp at this;simpa using this.symm
 have Sz:pr'=pr/\aE m' l=aE m l/\FC=rest:=by rw[zT,zT]at cC;obtain⟨e1,e2⟩:=List.append_inj cC (by rw[T_,m8,Hz]);obtain⟨e3,e4⟩:=List.append_inj e2 (by simp);exact⟨e1,e3,e4⟩
 refine⟨pr,rest,?_,by rw[Hz,m8],?_⟩;rw[w5,setRow_heap w _ _ _ e (0,0) hb];rw[xN,K3,K3,hv m' ha];have e1:aE m' (l.take off)=(aE m l).take off:=by rw[<-Sz.2.1];simp[lD,List.map_take]
 have e2:aE m' (l.drop (off+vs.length))=(aE m l).drop (off+lX.length):=by rw[<-Sz.2.1,iF];simp[lD,List.map_drop]
 rw[e1,e2];congr 2;simp only[zT];rw[<-m8,List.take_append,zW (by omega),Nat.add_sub_cancel_left,List.take_append_of_le_length (by simp;omega)];rw[List.drop_append,List.drop_of_length_le (by omega),List.nil_append,show pr.length+off+lX.length-pr.length=off+lX.length by omega,List.drop_append_of_le_length (by simp;omega)];simp;rw[hci,<-AP,xN];simp;omega
section
variable{P:Uz}{T:Tb}(hT:iK P T){m:Nm}{s:S}{w:Tz}(hf:fN m s w)
include hT hf
def z4c{t:O}{p cp cv u:A}{bE:S}(hp:eI m s.nx p cp)(hv:eI m s.nx v cv)(h:Dw T s t p v=some (u,bE)):
  OO P m s w (Instr.storeAt t cp cv) bE/\u=undef:=by
 unfold Dw at h;cases p with
 |pointer q=>
  rcases q with _|a;simp at h;simp only[beq_eq]at h;rcases hs:c6 T t with _|n;simp[hs]at h;simp only[hs]at h;by_cases hn:v.cells.toList.length=n;simp only[hn,yC,zC]at h;rcases h1:pU v.cells.toList with _|_;simp[h1]at h;simp only[h1,zC]at h;rcases hr:cE s a.block with _|r;simp[hr]at h;obtain⟨l,e,md⟩:=r;simp only[hr]at h;rcases hq:qR l a.off v.cells.toList with _|l';simp[hq]at h;simp only[hq,zA,zB]at h;obtain⟨rfl,rfl⟩:=h;refine⟨?_,rfl⟩;obtain⟨w₁,cG,aO⟩:=qe (P:=P) hf hr hq hv.cells h1;refine⟨m,w₁,?_,aO⟩;have EH:cp=.pointer (some ⟨m.blk a.block,m.sh a.block+a.off,none⟩):=by rw[<-hp.at];simp[ren]
  have eA:cv.cells.size=n:=by
   have:cv.cells.toList.length=n:=by rw[<-hv.cells.at];simpa using hn
   simpa using this
  subst EH;simp[Instr.storeAt,Instr.sureAddr,storeVar,lG hT w hs,eA,cG];simp only[hn,yB,zD]at h;cases h
 |_=>simp at h
omit hT hf in
def Mm(z:Bo A)(n:Nat):(Array.range (n*z.size)).map (fun i=>z[i%z.size]!)=⟨bY z.toList n⟩:=by
 apply Array.ext';simp only[Array.toList_map,Array.toList_range];rcases Nat.eq_zero_or_pos z.size with h0 |eX;have hz:z= #[]:=by simpa using h0
 subst hz;induction n with
 |zero=>simp[bY]|succ n ih=>simp[bY]at ih ⊢;exact ih
 induction n with
 |zero=>simp[bY]|succ n ih=>
  have e:(n+1)*z.size=z.size+n*z.size:=by rw[Nat.add_mul];omega
  rw[e,List.range_add,List.map_append,bY,<-ih];congr 1;apply List.ext_getElem?;intro i;by_cases hi:i<z.size;simp[hi,Nat.mod_eq_of_lt hi];simp[hi];rw[List.map_map];apply List.map_congr_left;intro i _;simp
omit hT hf in
def qd(z:Z A)(n:Nat):(bY z n).length=n*z.length:=by induction n with|zero=>simp[bY]|succ n ih=>simp[bY,ih,Nat.add_mul];omega
omit hT hf in
def Nl{z:Z A}(h:∀m',aE m' z=z)(n:Nat)(m':Nm):aE m' (bY z n)=bY z n:=by induction n with|zero=>simp[bY,aE]|succ n ih=>simp[bY,K3,ih,h]
omit hf in
def Fx{t:O}{x:Nat×Nat×A}(h:T.inf t=some x)(m':Nm):aE m' x.2.2.cells.toList=x.2.2.cells.toList:=by have:=(C3 hT m' default h).2;rw[<-kF,<-qp,this]
omit hT hf in
def MI{b sh cp n len c c':Nat}(hn:s.nx<n)(hc:∀m',aJ n (m.set s.nx b sh cp) m'->bU m' s.nx c=c'):
  eI (m.set s.nx b sh cp) n (.slice (some ⟨s.nx,0,none⟩) len c) (.slice (some ⟨b,sh,none⟩) len c'):=fun m' ha=>by
 obtain⟨h1,h2,_⟩:=ha s.nx hn;obtain⟨e1,e2,_⟩:=xA m s.nx b sh cp;simp[ren,h1,h2,e1,e2,hc m' ha]
def qrx{t:O}{ps:Z (Nat×A)}{bE:S}{cps:Z (Nat×A)}(S_:∀m',aJ s.nx m m'->ps.map (fun p=>(p.1,ren m' p.2))=cps)
  (h:Np T s t n ps=some (v,bE)):Eff P m s w (Instr.buildSlice t n cps.toArray) v bE:=by
 unfold Np at h;rcases hd:T.und t with _|d;simp[hd]at h;cases d with
 |slice e=>
  simp only[hd]at h;rcases hi:T.inf e with _|x;simp[hi]at h;obtain⟨sz,by_,z⟩:=x;have eA:c6 T e=some sz:=by simp[c6,hi]
  have hz:=fun m'=>C3 hT m' w hi;have sQ:=Fx hT hi;simp only at hz sQ;simp only[hi,beq_eq]at h;rcases h1:Nat.ble (n*sz) 16777216 with _|_
  simp[h1]at h;simp only[h1,zC]at h;have pI:n*sz<=16777216:=by simpa[Nat.ble_eq]using h1
  by_cases h2:z.cells.toList.length=sz;simp only[h2,yC,zC]at h;rcases h3:BX (fun i=>some (i*sz,sz)) (bY z.cells.toList n) ps with _|cs;simp[h3]at h;rcases h4:Nat.blt n bP with _|_;simp[h3,h4]at h;have h4':n<bP:=by simpa[Nat.blt_eq]using h4
  simp only[h3,h4,zC,zA,zB]at h;obtain⟨rfl,rfl⟩:=h;have kP:∀m',aJ s.nx m m'->Instr.fill (fun i=>some (i*sz,sz)) ⟨bY z.cells.toList n⟩ cps=some ⟨aE m' cs⟩:=fun m' ha=>by have:=Mk m' _ ps _ _ h3;rw[S_ m' ha,Nl sQ]at this;exact this
  obtain⟨cl,iF⟩:∃cl,mU m s.nx cs cl:=⟨aE m cs,fun m' ha=>by have e1:=kP m' ha;have e2:=kP m (aJ.refl _ _);rw[e1]at e2;simpa using e2⟩;have fY:z.cells.size=sz:=by simpa using h2
  refine⟨_,_,.slice (some ⟨w.heap.size,0,none⟩) n n,?_,Zh hf iF e 0,?_⟩;have eN:(Array.range (n*sz)).map (fun i=>(if n*sz=0 then(#[]:Bo A)else z.cells)[i%(if n*sz=0 then(#[]:Bo A)else z.cells).size]!)=⟨bY z.cells.toList n⟩:=by
   by_cases h0:n*sz=0;rw[h0];apply Array.ext';have:(bY z.cells.toList n).length=0:=by rw[qd,h2,h0]
   simp[List.length_eq_zero_iff.1 this];simp only[if_neg h0];have:=Mm z.cells n;rw[fY]at this;rw[<-this];simp[fY]
  have hf2:=kP m (aJ.refl _ _);rw[iF.at]at hf2;have hnot:¬ n*sz>2^24:=by omega
  have ND:=(hz m).1;by_cases h0:n*sz=0;simp only[if_pos h0]at eN;simp only[Instr.buildSlice,zK,eU hT w hd,zJ,lG hT w eA,Sem.run_ite,if_neg hnot,zL,if_pos h0];rw[eN,hf2];simp[Go.newRow];simp only[if_neg h0]at eN;simp only[Instr.buildSlice,zK,eU hT w hd,zJ,lG hT w eA,Sem.run_ite,if_neg hnot,zL,if_neg h0,ND];rw[eN,hf2];simp[Go.newRow];refine MI (zN _) fun m' _=>?_;simp[bU,h4'];simp only[h2,yB,zD]at h;cases h
 |_=>simp[hd]at h
end
variable{n:Nat}
def qxe{m:Nm}{s:S}{w:Tz}(hf:fN m s w){b:I Addr}{cs:Z A}(h:nU s b n=some cs):
  cs.length=n/\∃KY,mU m s.nx cs KY/\∀a,b=some a->∀j u,KY[j]? = some u->w.cell? ((⟨m.blk a.block,m.sh a.block+a.off,none⟩:Addr).add j)=some u:=by
 cases n with
 |zero=>simp[nU]at h;subst h;exact⟨rfl,[],fun _ _=>by simp[aE],fun _ _ j u hu=>by simp at hu⟩|succ n=>
  simp only[nU]at h;rcases b with _|a;simp at h;simp only at h;rcases hl:lk s.h a.block with _|blk;simp[hl]at h;rcases blk with⟨l,e,md⟩|x;simp only[hl]at h;have hc:∀m',aJ s.nx m m'->∀j v,cs[j]? = some v->w.cell? ⟨m.blk a.block,m.sh a.block+(a.off+j),none⟩=some (ren m' v):=fun m' ha j v hj=>by have hr:wW m' a.block l e w md:=(hf m' ha).ok _ _ hl;have:=hr.cell (z06 h hj);obtain⟨e1,e2,_⟩:=ha a.block ((hf.fits).bd _ _ hl);rw[e1,e2]at this;exact this
  refine⟨eo h,aE m cs,fun m' ha=>?_,?_⟩;rw[lD,lD];apply List.map_congr_left;intro v hv;obtain⟨j,hj⟩:=List.getElem?_of_mem hv;have e1:=hc m' ha j v hj;have e2:=hc m (aJ.refl _ _) j v hj;rw[e1]at e2;simpa using e2;rintro _ ⟨rfl⟩ j u hu;rw[lD,List.getElem?_map]at hu;rcases hj:cs[j]? with _|v;simp[hj]at hu;simp[hj]at hu;subst hu;rw[uH,Nat.add_assoc];exact hc m (aJ.refl _ _) j v hj;simp[hl]at h
def z4d(x K d n k z:Nat):x+K*z-(x+d*z+n*z+k*z)=(K-(d+n+k))*z:=by rw[Nat.sub_mul,Nat.add_mul,Nat.add_mul];omega
def z1j(n k K d:Nat)(h:n+k<=K-d):n+k+(K-(d+n+k))=K-d:=by omega
def lO(m:Nm):I Addr->Nat->Nat
 |none,c=>c|some a,c=>bU m a.block c
def bQ.rename{m:Nm}{s:S}{w w':Tz}(h:fN m s w){i:Nat}{b b':lJ}(hb:lk s.h i=some b)(yU:Own b=true)(sh' cp':Nat)
  (hw:∀k,k≠m.blk i->w'.heap[k]? = w.heap[k]?) (eA:w'.heap.size=w.heap.size) (h1:w'.os=w.os) (h2:w'.tape=w.tape) (h3:w'.output=w.output) (_h4:w.drawn<=w'.drawn) (hc:∀m',aJ (s.nx+1) (m.set s.nx (m.blk i) sh' cp') m'->uD m' s.nx w' b'):
  bQ m s w (m.set s.nx (m.blk i) sh' cp') ⟨(s.nx,b')::rm s.h i,s.nx+1⟩ w':=by
 have w5:i<s.nx:=(h.fits).bd i b hb;have key:∀j d,s.nx≠j->lk ((s.nx,b')::rm s.h i) j=some d->lk s.h j=some d/\i≠j:=fun j d hj hd=>by simp only[lQ,hj,if_false,Dr]at hd;by_cases e:i=j;simp[e]at hd;simp only[e,if_false]at hd;exact⟨hd,e⟩
 refine⟨Nm.agree_set m _ _ _ _,Nat.le_succ _,?_,?_,?_,by omega,h1,h2,h3⟩;intro m' ha;have jJ:aJ s.nx m m':=(Nm.agree_set m s.nx (m.blk i) sh' cp').trans ha (Nat.le_succ _);have hf:=h m' jJ;have gP:m'.blk s.nx=m.blk i:=by have:=(ha s.nx (zN _)).1;simpa[Nm.set]using this
 have g?:m'.blk i=m.blk i:=(jJ i w5).1;refine⟨fun j d hd=>?_,fun j k d d' hd bB CY ho=>?_,fun j d hd=>?_⟩;by_cases e:s.nx=j;subst e;simp only[lQ,if_true,zA]at hd;subst hd;exact hc m' ha;obtain⟨bB,kB⟩:=key j d e hd;refine(hf.ok j d bB).world (hw _ ?_);rw[<-g?];exact fun x=>hf.inj i j b d hb bB kB yU x.symm;by_cases e:s.nx=j;subst e;obtain⟨hk,NR⟩:=key k d' CY bB;rw[gP,<-g?];exact hf.inj i k b d' hb hk NR yU;obtain⟨hj,kB⟩:=key j d e hd;by_cases e2:s.nx=k;subst e2;rw[gP,<-g?];exact fun x=>hf.inj i j b d hb hj kB yU x.symm;obtain⟨hk,NR⟩:=key k d' e2 bB;exact hf.inj j k d d' hj hk CY ho;by_cases e:s.nx=j;subst e;exact zN _;exact Nat.lt_succ_of_lt (hf.bd j d (key j d e hd).1);rintro k ⟨j,d,hd,ho,rfl⟩;left;by_cases e:s.nx=j;subst e;exact⟨i,b,hb,yU,by simp[Nm.set]⟩;obtain⟨hj,_⟩:=key j d e hd;have:=(h.fits).bd j d hj;exact⟨j,d,hj,ho,by simp[Nm.set,show j≠s.nx by omega]⟩;intro k hk hn;exact hw k fun e=>hn ⟨i,b,hb,yU,e.symm⟩
def fV(z:Bo A)(n:Nat):(Builtin.zeroCells z n).size=n*z.size:=by simp[Builtin.zeroCells]
def qmo{b:Nat}(h:vB n b=true):n*b<=140737488355328/\n<=140737488355328:=by unfold vB at h;rcases h1:Nat.ble (n*b) 140737488355328 with _|_;simp[h1]at h;simp only[h1,zC]at h;exact⟨by simpa[Nat.ble_eq]using h1,by simpa[Nat.ble_eq]using h⟩
def v01(m:Nm)(i:Nat):bU m i bP=m.cp i:=by simp[bU,bI]
section
variable{P:Uz}{T:Tb}(hT:iK P T){m:Nm}{s:S}{w:Tz}(hf:fN m s w)
include hT hf
variable{t:O}
variable{v:A}
variable{bE:S}
def z7h{l c cl cc:A}(hl:eI m s.nx l cl)(hc:eI m s.nx c cc)(h:Ku T s t l c=some (v,bE)):Eff P m s w (Instr.makeSlice t cl cc) v bE:=by
 unfold Ku at h;rcases hd:T.und t with _|d;simp[hd]at h;cases d with
 |slice e=>
  simp only[hd]at h;cases l with
  |int k1 a=>
   cases c with
   |int k2 b=>
    simp only at h;have e1:cl=.int k1 a:=by rw[<-hl.at];simp[ren]
    have e2:cc=.int k2 b:=by rw[<-hc.at];simp[ren]
    subst e1 e2;rcases hi:T.inf e with _|x;simp[hi]at h;obtain⟨sz,by_,z⟩:=x;have eA:c6 T e=some sz:=by simp[c6,hi]
    have hz:=fun m'=>C3 hT m' w hi;have sQ:=Fx hT hi;simp only at hz sQ;obtain⟨_,i,HF,Ac,HD,hi4⟩:=hT.inf e _ _ _ hi;simp only[hi,beq_eq]at h;cases Hu:IntKind.i64.wrap a with
    |negSucc x=>simp[Hu]at h|ofNat n=>
     cases Sh:IntKind.i64.wrap b with
     |negSucc x=>simp[Hu,Sh]at h|ofNat k=>
      simp only[Hu,Sh]at h;rcases h1:Nat.ble n k with _|_;simp[h1]at h;rcases h2:Nat.ble (by_*k) 281474976710656 with _|_;simp[h1,h2]at h;by_cases h3:z.cells.toList.length=sz;rcases h4:Nat.blt k bP with _|_;simp only[h1,h2,h3,h4,zC,yC,zD]at h;cases h;simp only[h1,h2,h3,h4,zC,yC,zA,zB]at h;obtain⟨rfl,rfl⟩:=h;have pI:n<=k:=by simpa[Nat.ble_eq]using h1
      have xT:by_*k<=281474976710656:=zY h2;have h4':k<bP:=by simpa[Nat.blt_eq]using h4
      have fY:z.cells.size=sz:=by simpa using h3
      refine⟨_,_,.slice (some ⟨w.heap.size,0,none⟩) n k,?_,Zh hf (qt (Nl sQ k)) e 0,?_⟩;have Aa:∀q:Nat,q<=k->(decide ((q:Int)<0)||decide ((i.bytes:Int)*(q:Int)>2^48))=false:=by intro q hq;have:by_*q<=281474976710656:=Nat.le_trans (Nat.mul_le_mul_left _ hq) xT;have h':((by_*q:Nat):Int)<=((281474976710656:Nat):Int):=Int.ofNat_le.2 this;simp only[Bool.or_eq_false_iff,decide_eq_false_iff_not,HD];refine⟨by omega,?_⟩;rw[Int.natCast_mul]at h';simp only[gt_iff_lt,Int.not_lt];exact h'
      have eN:(Array.range (k*sz)).map (fun i=>(if k*sz=0 then(#[]:Bo A)else z.cells)[i%(if k*sz=0 then(#[]:Bo A)else z.cells).size]!)=⟨bY z.cells.toList k⟩:=by
       by_cases h0:k*sz=0;rw[h0];apply Array.ext';have:(bY z.cells.toList k).length=0:=by rw[qd,h3,h0]
       simp[List.length_eq_zero_iff.1 this];simp only[if_neg h0];have:=Mm z.cells k;rw[fY]at this;rw[<-this];simp[fY]
      have fF:(((decide ((k:Int)<0)||decide ((i.bytes:Int)*(k:Int)>2^48))||decide ((n:Int)<0))||decide ((n:Int)>(k:Int)))=false:=by rw[Aa k (zF _)];simp;omega
      have s_:IntKind.i64.wrap a=(n:Int):=Hu;have r_:IntKind.i64.wrap b=(k:Int):=Sh;have ND:=(hz m).1;simp only[Instr.makeSlice,zK,eU hT w hd,zJ,asInt,asIntOf,zL,typeInfo,run_program,HF,s_,r_,Sem.run_ite,fF,Bool.false_eq_true,if_false,run_askRoom,zZ,lG hT w eA];by_cases h0:k*sz=0;simp only[if_pos h0]at eN;simp only[if_pos h0];rw[eN];simp[Go.newRow];simp only[if_neg h0]at eN;simp only[if_neg h0,ND,zJ];rw[eN];simp[Go.newRow];refine MI (zN _) fun m' _=>?_;simp[bU,h4'];simp only[h1,h2,h3,zC,yB,zD]at h;cases h
   |_=>simp at h
  |_=>simp at h
 |_=>simp[hd]at h
omit hf in
def Ov{t xt ty e e2:O}{size:Nat}(ht:T.und t=some (.slice e))(hx:T.und xt=some (.slice e2))(hs:c6 T e=some size){base xb:I Addr}{n C k xc:Nat}{cnew:Bo A}{w₁:Tz}
  (gP:(Builtin.firstCells size k (.slice xb k xc)).run P w=.ok cnew w) (bL:n+k<=C) (c9:∀a,base=some a->(storeCells (a.add (n*size)) cnew.toList).run P w=.ok () w₁) (fF:base=none->w₁=w):
  (Builtin.append_ #[t,xt] ty #[.slice base n C,.slice xb k xc]).run P w=.ok (.slice base (n+k) C) w₁:=by cases base with|none=>rw[fF rfl];simp[Builtin.append_,eU hT w ht,eU hT w hx,lG hT w hs,Builtin.lenOf,bL,gP]|some a=>simp[Builtin.append_,eU hT w ht,eU hT w hx,lG hT w hs,Builtin.lenOf,bL,gP,c9 a rfl]
omit hf in
def i4{t xt ty e e2:O}{size by_:Nat}{z:A}(ht:T.und t=some (.slice e))(hx:T.und xt=some (.slice e2))(hi:T.inf e=some (size,by_,z)){base xb:I Addr}{n C k xc:Nat}{cnew cold:Bo A}
  (gP:∀w',w'.heap=w.heap->(Builtin.firstCells size k (.slice xb k xc)).run P w'=.ok cnew w') (mA:∀w',w'.heap=w.heap->(Builtin.firstCells size n (.slice base n C)).run P w'=.ok cold w') (bL:C<n+k) (hr:vB (n+k) by_=true): (Builtin.append_ #[t,xt] ty #[.slice base n C,.slice xb k xc]).run P w=
   .ok (.slice (some ⟨w.heap.size,0,none⟩) (n+k) ((Question.appendCap (n+k) C e).cut (w.tape w.drawn (.appendCap (n+k) C e)))) ((w.drew).alloc (.cells (cold++cnew++Builtin.zeroCells z.cells (((Question.appendCap (n+k) C e).cut (w.tape w.drawn (.appendCap (n+k) C e)))-(n+k))) e)):=by
 obtain⟨r1,r2⟩:=qmo hr;obtain⟨_,i,HF,Ac,HD,hi4⟩:=hT.inf e _ _ _ hi;have hs:c6 T e=some size:=by simp[c6,hi]
 have g1:¬ n+k<=C:=by omega
 have g2:¬ (((n+k:Nat):Int)>IntKind.i64.max/\(False\/i.bytes=0)):=by rw[IntKind.max_i64];omega
 have g3:¬ Builtin.nextslicecap (n+k) C*i.bytes>2^48:=by have:=growslice_fits (bytes:=i.bytes) bL (by rw[HD];exact r1);omega
 have hn:=gP w.drew rfl;have ho:=mA w.drew rfl;have xQ:({ w with drawn:=w.drawn+1 }:Tz)=w.drew:=rfl;have hz:(zeroValue e).run P w.drew=.ok z w.drew:=(C3 hT (⟨id,id,id⟩:Nm) w.drew hi).1;simp[Builtin.append_,eU hT w ht,eU hT w hx,lG hT w hs,Builtin.lenOf,if_neg g1,typeInfo,HF];have g2':¬ (9223372036854775807<(n:Int)+(k:Int)/\i.bytes=0):=by omega
 have g3':¬ 281474976710656<Builtin.nextslicecap (n+k) C*i.bytes:=g3;have hff:(Question.appendCap (n+k) C e).forced=false:=rfl;simp only[if_neg g2',if_neg g3',hff,Bool.false_eq_true,if_false,ho,hn,hz,zJ];simp[Go.newRow];rfl
omit hf in
def qir{t xt ty e e2:O}{size by_:Nat}{z:A}(ht:T.und t=some (.slice e))(hx:T.und xt=some (.slice e2))(hi:T.inf e=some (size,by_,z)){base xb:I Addr}{n C k xc:Nat}{cnew cold:Bo A}
  (gP:∀w',w'.heap=w.heap->(Builtin.firstCells size k (.slice xb k xc)).run P w'=.ok cnew w') (mA:∀w',w'.heap=w.heap->(Builtin.firstCells size n (.slice base n C)).run P w'=.ok cold w') (bL:C<n+k) (hr:vB (n+k) by_=true):
  ∃nc,n+k<=nc/\(Builtin.append_ #[t,xt] ty #[.slice base n C,.slice xb k xc]).run P w=
   .ok (.slice (some ⟨w.heap.size,0,none⟩) (n+k) nc) ((w.drew).alloc (.cells (cold++cnew++Builtin.zeroCells z.cells (nc-(n+k))) e)):=
 ⟨_,by simp[Question.cut],i4 hT ht hx hi gP mA bL hr⟩
omit hT in
def Nc{b:I Addr}{n size:Nat}{cs:Z A}(h:nU s b (n*size)=some cs):
  ∃KY,mU m s.nx cs KY/\cs.length=n*size/\∀w',w'.heap=w.heap->∀len cap,(Builtin.firstCells size n (.slice (b.map fun a=>⟨m.blk a.block,m.sh a.block+a.off,none⟩) len cap)).run P w'=.ok ⟨KY⟩ w':=by
 obtain⟨h1,KY,h2,h3⟩:=qxe hf h;refine⟨KY,h2,h1,fun w' hw len cap=>?_⟩;have hl:KY.length=n*size:=by rw[<-h2.at];simp[h1]
 cases b with
 |none=>
  have:n*size=0:=by cases hz:n*size with|zero=>rfl|succ k=>rw[hz]at h;simp[nU]at h
  have:KY=[]:=List.length_eq_zero_iff.1 (by omega);subst this;simp[Builtin.firstCells]
 |some a=>exact run_firstCells_some w' size n _ len cap KY hl (fun j u hu=>by have:=h3 a rfl j u hu;rw[<-this];simp[World.cell?,hw])
omit hT in
def z8k{i c sz:Nat}{l:Z A}{e:O}(hl:lk s.h i=some (.inl (l,e,sz+1+2))){off n:Nat}(ho:off=bI c*(sz+1))(hn:off+n*(sz+1)<=l.length):n+bI c<=m.cp i:=by
 obtain⟨pr,rest,_,_,h3⟩:=(hf.fits).ok i _ hl;have:(n+bI c)*(sz+1)<=m.cp i*(sz+1):=by rw[Nat.add_mul];omega
 exact Nat.le_of_mul_le_mul_right this (by omega)
variable{xt:O}
variable{ty:O}
variable{qM:A}
def qvi{e e2:O}{sz by_:Nat}{z:A}(hd:T.und t=some (.slice e))(cX:T.und xt=some (.slice e2))(hi:T.inf e=some (sz+1,by_,z)){a:Addr}{l p new cnew:Z A}{c k:Nat}{xb:I Addr}{xc:Nat}
  (hr:cE s a.block=some (l,e,sz+1+2)) (dO:a.off=bI c*(sz+1)) (hc:¬ c<bP) (bL:vB (n+(k+1)) by_=true) (uN:z.cells.toList.length=sz+1) (hg:u9 l a.off (n*(sz+1))=some p) (D2:mU m s.nx new cnew) (vT:new.length=(k+1)*(sz+1)) (h1:pU new=true) (fX:∀w',w'.heap=w.heap->∀len cap,(Builtin.firstCells (sz+1) (k+1) (.slice (xb.map fun a=>⟨m.blk a.block,m.sh a.block+a.off,none⟩) len cap)).run P w'=.ok ⟨cnew⟩ w')
  {cx:A} (rD:cx=.slice (xb.map fun a=>⟨m.blk a.block,m.sh a.block+a.off,none⟩) (k+1) (lO m xb xc)) (ecs:qM=.slice ((some a).map fun a=>⟨m.blk a.block,m.sh a.block+a.off,none⟩) n (lO m (some a) c)):
  Eff P m s w (Builtin.append_ #[t,xt] ty #[qM,cx]) (.slice (some ⟨s.nx,0,none⟩) (n+(k+1)) bP) ⟨(s.nx,.inl (p++new,e,sz+1+2))::rm s.h a.block,s.nx+1⟩:=by
 have eA:c6 T e=some (sz+1):=by simp[c6,hi]
 obtain⟨hl,oD⟩:=zl hr;obtain⟨m9,oC⟩:=Mp hg;have kZ:=eo hg;have gH:lO m (some a) c=m.cp a.block-bI c:=by simp[lO,bU,hc]
 have fU:=(hf.fits).bd _ _ hl;have Uk:nU s (some a) (n*(sz+1))=some p:=by cases hn:n*(sz+1)with|zero=>rw[hn]at kZ;simp[nU,List.length_eq_zero_iff.1 kZ]|succ q=>rw[hn]at hg;simp[nU,hl,hg]
 obtain⟨cold,vZ,_,tU⟩:=Nc (P:=P) hf Uk;have iF:cnew.length=(k+1)*(sz+1):=by rw[<-D2.at];simp[vT]
 rw[gH]at ecs;by_cases pG:n+(k+1)<=m.cp a.block-bI c
 ·-- fZ is room
  obtain⟨pr,rest,hb,m8,AP⟩:=(hf.fits).ok _ _ hl;have B_:a.off+n*(sz+1)+cnew.length<=l.length+rest.length:=by rw[AP,dO,iF,<-Nat.add_mul,<-Nat.add_mul];exact Nat.mul_le_mul_right _ (by omega)
  have vR:∀v∈cnew,v.oneCell'=true:=by rw[<-D2.at];exact qls h1
  have p_:(pr++aE m l++rest).length=m.sh a.block+(l.length+rest.length):=by simp[m8]
  have c9:=run_storeCells_at P (m.blk a.block) (m.sh a.block+a.off+n*(sz+1)) e cnew 0 _ w hb (by simp only[List.size_toArray,p_];omega) vR;simp only[Nat.add_zero]at c9;refine⟨_,_,.slice (some ⟨m.blk a.block,m.sh a.block+a.off,none⟩) (n+(k+1)) (m.cp a.block-bI c),?_,bQ.rename (w':=w.setRow (m.blk a.block) ((pr++aE m l++rest).take (m.sh a.block+a.off+n*(sz+1))++cnew++(pr++aE m l++rest).drop (m.sh a.block+a.off+n*(sz+1)+cnew.length)).toArray) hf hl (fj oD) (m.sh a.block+a.off) (m.cp a.block-bI c) (fun k hk=>setRow_other w _ k _ hk) (by simp) rfl rfl rfl (zF _) ?_,?_⟩;rw[rD,ecs];exact Ov (P:=P) hT (w:=w) (ty:=ty) hd cX eA (fX w rfl _ _) pG (fun a' jJ=>by simp only[zM,zA]at jJ;subst jJ;rw[uH];exact c9) (fun fF=>by simp at fF);intro m' ha;obtain⟨pI,xT,OA⟩:=ha s.nx (zN _);obtain⟨e1,e2,e3⟩:=xA m s.nx (m.blk a.block) (m.sh a.block+a.off) (m.cp a.block-bI c);have jJ:aJ s.nx m m':=(Nm.agree_set m s.nx _ _ _).trans ha (Nat.le_succ _);refine⟨(pr++aE m l++rest).take (m.sh a.block+a.off),(pr++aE m l++rest).drop (m.sh a.block+a.off+n*(sz+1)+cnew.length),?_,?_,?_⟩;rw[pI,e1,setRow_heap w _ _ _ e (0,0) hb,K3,D2 m' jJ,vZ m' jJ];have f?:((pr++aE m l++rest).drop (m.sh a.block+a.off)).take (n*(sz+1))=cold:=by rw[<-vZ.at,m9];rcases Nat.eq_zero_or_pos (n*(sz+1))with h0 |eX;rw[h0];simp[aE];rw[<-m8,zT,List.drop_append,List.drop_of_length_le (by omega),List.nil_append,Nat.add_sub_cancel_left,List.drop_append_of_le_length (by simp;omega),List.take_append_of_le_length (by simp;omega)];simp[lD,List.map_drop,List.map_take]
  have yh:(pr++aE m l++rest).take (m.sh a.block+a.off+n*(sz+1))=(pr++aE m l++rest).take (m.sh a.block+a.off)++cold:=by rw[List.take_add,f?]
  rw[yh];congr 2;simp only[zT];rw[xT,e2,List.length_take,p_];omega;rw[OA,e3,zU,kZ,vT,List.length_drop,p_];rw[AP,iF,dO,<-Nat.add_mul];have e4:=z4d (m.sh a.block) (m.cp a.block) (bI c) n (k+1) (sz+1);rw[e4,<-Nat.add_mul,z1j _ _ _ _ pG];refine MI (zN _) fun m' ha=>?_;rw[v01];obtain⟨_,_,e3⟩:=xA m s.nx (m.blk a.block) (m.sh a.block+a.off) (m.cp a.block-bI c);exact(ha s.nx (zN _)).2.2.trans e3
 have aH:m.cp a.block-bI c<n+(k+1):=by omega
 obtain⟨nc,c?,cG⟩:=qir (P:=P) hT (w:=w) (ty:=ty) hd cX hi (n:=n) (k:=k+1) (C:=m.cp a.block-bI c) (base:=(some a).map fun a=>⟨m.blk a.block,m.sh a.block+a.off,none⟩) (fun w' hw=>fX w' hw (k+1) (lO m xb xc)) (fun w' hw=>tU w' hw n _) aH bL;have Uc:fN m s w.drew:=qz _ hf;have aO:=zx Uc (rest:=(Builtin.zeroCells z.cells (nc-(n+(k+1)))).toList) (vZ.append D2) e nc (sz+1) (by
  have Sa:z.cells.size=sz+1:=by simpa using uN
  rw[zU,kZ,vT,Array.length_toList,fV,Sa,<-Nat.add_mul,<-Nat.add_mul];congr 1;omega)
 have cC:=((bQ.draw (w.drawn+1) hf).trans aO).trans (bQ.forget aO.fits a.block);have c9:(⟨rm (newRow s (p++new) e (sz+1+2)).h a.block,(newRow s (p++new) e (sz+1+2)).nx⟩:S)=⟨(s.nx,.inl (p++new,e,sz+1+2))::rm s.h a.block,s.nx+1⟩:=by simp[newRow,rm,beq_eq,show s.nx≠a.block by omega]
 rw[c9]at cC;refine⟨_,_,.slice (some ⟨w.heap.size,0,none⟩) (n+(k+1)) nc,?_,cC,?_⟩;rw[rD,ecs,cG];congr 3;simp;have hw:w.drew.heap.size=w.heap.size:=rfl;rw[hw];refine MI (zN _) fun m' ha=>?_;rw[v01];obtain⟨_,_,e3⟩:=xA m s.nx w.heap.size 0 nc;exact(ha s.nx (zN _)).2.2.trans e3
omit hT in
def dz {base : I Addr} {n c sz : Nat} {v : A} {bE : S} (h : (cond (Nat.blt c bP) (cond (Nat.ble n c) (some (Value.slice base n c, s)) none)
            (match base with
              |some a=> match cE s a.block with
                |some (l,_,md)=> cond (Nat.beq md (sz+3)) (cond (Nat.beq a.off (bI c*(sz+1))) (match u9 l a.off (n*(sz+1))with
                  |some _=> some (Value.slice base n c,s)|none=> none) none) none
                |none=> none
              |none=> none))=some (v,bE)):v=.slice base n c/\bE=s/\n<=lO m base c:=by
  simp only[beq_eq]at h;cases hc:Nat.blt c bP with
  |true=>simp only[hc,zC]at h;have lI:c<bP:=G1 hc;rcases sT:Nat.ble n c with _|_;simp only[sT,zD]at h;cases h;simp only[sT,zC,zA,zB]at h;refine⟨h.1.symm,h.2.symm, ?_⟩;have:n<=c:=zY sT;rcases base with _|a;exact this;simp only[lO,bU,if_pos lI];exact this
  |false=>have lI : ¬ c<bP:=Nw hc;simp only[hc,zD]at h;rcases base with _|a;simp at h;simp only at h;rcases hr:cE s a.block with _|r;simp[hr]at h;obtain⟨l,e',md⟩:=r;simp only[hr]at h;by_cases oD:md=sz+3;by_cases dO:a.off=bI c*(sz+1);rw[decide_eq_true oD,decide_eq_true dO]at h;simp only[zC]at h;rcases hg:u9 l a.off (n*(sz+1))with _|q;simp[hg]at h;simp only[hg,zA,zB]at h;refine⟨h.1.symm,h.2.symm, ?_⟩;obtain⟨_,pG⟩:=Mp hg;have hl:=(zl hr).1;subst oD;simp only[lO,bU,if_neg lI];rcases Nat.eq_zero_or_pos n with h0 |eX;rw[h0];exact Nat.zero_le _;have qC:0<n*(sz+1):=Nat.mul_pos eX (by omega);have:=z8k hf (c:=c) (n:=n) (off:=a.off) hl dO (by omega);omega;rw[decide_eq_true oD,decide_eq_false dO]at h;simp at h;rw[decide_eq_false oD]at h;simp at h
def qlt{sv x cx:A}(hs:eI m s.nx sv qM)(hx:eI m s.nx x cx)(h:uK T s t xt sv x=some (v,bE)):Eff P m s w (Builtin.append_ #[t,xt] ty #[qM,cx]) v bE:=by
 unfold uK at h;rcases hd:T.und t with _|d;simp[hd]at h;cases d with
 |slice e=>
  rcases cX:T.und xt with _|d2;simp[hd,cX]at h;cases d2 with
  |slice e2=>
   cases sv with
   |slice base n c=>
    cases x with
    |slice xb k xc=>
     simp only[hd,cX]at h;rcases hi:T.inf e with _|y;simp[hi]at h;obtain⟨sz,by_,z⟩:=y;cases sz with
     |zero=>simp[hi]at h|succ sz=>
      have eA:c6 T e=some (sz+1):=by simp[c6,hi]
      simp only[hi]at h;rcases D0:nU s xb (k*(sz+1))with _|new;simp[D0]at h;simp only[D0]at h;rcases h1:pU new with _|_;simp[h1]at h;simp only[h1,zC]at h;obtain⟨cnew,D2,vT,fX⟩:=Nc (P:=P) hf D0;have rD:cx=.slice (xb.map fun a=>⟨m.blk a.block,m.sh a.block+a.off,none⟩) k (lO m xb xc):=by rw[<-hx.at];cases xb<;>simp[ren,lO]
      have ecs:qM=.slice (base.map fun a=>⟨m.blk a.block,m.sh a.block+a.off,none⟩) n (lO m base c):=by rw[<-hs.at];cases base<;>simp[ren,lO]
      cases k with
      |zero=>
       have b?:cnew=[]:=List.length_eq_zero_iff.1 (by rw[<-D2.at];simp[vT]);subst b?;have fin:v=.slice base n c->bE=s->n<=(lO m base c)->Eff P m s w (Builtin.append_ #[t,xt] ty #[qM,cx]) v bE:=by rintro rfl rfl pG;refine⟨m,w,qM,?_,bQ.refl hf,hs⟩;rw[rD,ecs];have:=Ov (P:=P) hT (w:=w) (ty:=ty) (w₁:=w) hd cX eA (base:=base.map fun a=>⟨m.blk a.block,m.sh a.block+a.off,none⟩) (n:=n) (fX w rfl 0 (lO m xb xc)) (C:=(lO m base c)) (by simpa using pG) (fun a _=>by simp[storeCells]) (fun _=>rfl);simpa using this
       obtain⟨e1,e2,pG⟩:=dz hf h;exact fin e1 e2 pG
      |succ k=>
       simp only[W9,beq_eq]at h;cases hc:Nat.blt c bP with
       |true=>
        simp only[hc,zC]at h;have lI:c<bP:=G1 hc;have gH:(lO m base c)=c:=by cases base<;>simp[lO,bU,lI]
        cases sT:Nat.ble (n+(k+1)) c with
        |true=>simp only[sT,zC]at h;have pG:n+(k+1)<=c:=zY sT;rcases base with _|a;simp at h;simp only at h;rcases hr:cE s a.block with _|r;simp[hr]at h;obtain⟨l,e',md⟩:=r;simp only[hr]at h;rcases hp:qR l (a.off+n*(sz+1)) new with _|l';simp[hp]at h;simp only[hp,zA,zB]at h;obtain⟨rfl,rfl⟩:=h;obtain⟨w₁,c9,aO⟩:=qe (P:=P) hf hr hp D2 h1;refine⟨m,w₁,.slice (some ⟨m.blk a.block,m.sh a.block+a.off,none⟩) (n+(k+1)) c,?_,aO,?_⟩;rw[rD,ecs,gH];exact Ov (P:=P) hT (w:=w) (ty:=ty) hd cX eA (fX w rfl _ _) pG (fun a' jJ=>by simp only[zM,zA]at jJ;subst jJ;rw[uH,Nat.add_assoc];exact c9) (fun fF=>by simp at fF);intro m' ha;have fU:=(hf.fits).bd _ _ (zl hr).1;obtain⟨b1,b2,_⟩:=ha a.block fU;simp[ren,b1,b2,bU,lI]
        |false=>
         simp only[sT,zD]at h;have aH:c<n+(k+1):=by rcases Nat.lt_or_ge c (n+(k+1))with hh |hh;exact hh;have:=Nat.ble_eq_true_of_le hh;rw[this]at sT;cases sT
         rcases hco:nU s base (n*(sz+1))with _|old;simp[hco]at h;simp only[hco]at h;rcases bL:vB (n+(k+1)) by_ with _|_;simp[bL]at h;simp only[bL,zC]at h;by_cases uN:z.cells.toList.length=sz+1;simp only[uN,yC,zC,zA,zB]at h;obtain⟨rfl,rfl⟩:=h;obtain⟨cold,vZ,CW,tU⟩:=Nc (P:=P) hf hco;obtain⟨nc,c?,cG⟩:=qir (P:=P) hT (w:=w) (ty:=ty) hd cX hi (n:=n) (k:=k+1) (C:=c) (base:=base.map fun a=>⟨m.blk a.block,m.sh a.block+a.off,none⟩) (fun w' hw=>fX w' hw (k+1) (lO m xb xc)) (fun w' hw=>tU w' hw n c) aH bL;have Uc:fN m s w.drew:=qz _ hf;have aO:=zx Uc (rest:=(Builtin.zeroCells z.cells (nc-(n+(k+1)))).toList) (vZ.append D2) e nc (sz+1) (by
          have Sa:z.cells.size=sz+1:=by simpa using uN
          rw[zU,CW,vT,Array.length_toList,fV,Sa,<-Nat.add_mul,<-Nat.add_mul];congr 1;omega)
         refine⟨_,_,.slice (some ⟨w.heap.size,0,none⟩) (n+(k+1)) nc,?_,(bQ.draw (w.drawn+1) hf).trans aO,?_⟩;rw[rD,ecs,gH,cG];congr 3;simp;have hw:w.drew.heap.size=w.heap.size:=rfl;rw[hw];refine MI (zN _) fun m' ha=>?_;rw[v01];obtain⟨_,_,e3⟩:=xA m s.nx w.heap.size 0 nc;exact(ha s.nx (zN _)).2.2.trans e3;simp only[uN,yB,zD]at h;cases h
       |false=>
        simp only[hc,zD]at h;generalize hD:bI c=D at h;have lI:¬ c<bP:=Nw hc;rcases base with _|a;simp at h;simp only at h;rcases hr:cE s a.block with _|r;simp[hr]at h;obtain⟨l,e',md⟩:=r;simp only[hr]at h;by_cases oD:md=sz+1+2;by_cases O1:e'=e;by_cases dO:a.off=D*(sz+1);rcases bL:vB (n+(k+1)) by_ with _|_;simp[oD,O1,bL]at h;by_cases uN:z.cells.toList.length=sz+1;rcases hg:u9 l a.off (n*(sz+1))with _|p;simp only[oD,O1,yC,zC,bL,uN,hg,<-dO]at h;cases h;have h':some (Value.slice (some ⟨s.nx,0,none⟩) (n+(k+1)) bP,(⟨(s.nx,.inl (p++new,e,sz+1+2))::rm s.h a.block,s.nx+1⟩:S))=some (v,bE):=by simpa only[oD,O1,yC,zC,bL,uN,hg,<-dO]using h
        simp only[zA,zB]at h';obtain⟨rfl,rfl⟩:=h';subst oD O1;clear h;exact qvi hT hf hd cX hi hr (by rw[hD];exact dO) lI bL uN hg D2 vT h1 fX rD ecs;simp only[oD,O1,yC,yB,zC,zD,bL,uN,<-dO]at h;cases h;simp only[oD,O1,dO,yC,yB,zC,zD]at h;cases h;simp only[oD,O1,yC,yB,zC,zD]at h;cases h;simp only[oD,yB,zD]at h;cases h
    |_=>simp[hd,cX]at h
   |_=>simp[hd,cX]at h
  |_=>simp[hd,cX]at h
 |_=>simp[hd]at h
omit hT hf in
def zd(size len cap:Nat)(b:I Addr)(w':Tz):(Builtin.firstCells size 0 (.slice b len cap)).run P w'=.ok #[] w':=by cases b<;>simp[Builtin.firstCells,loadCells,loadCellsFrom]
def qwy{sv x cx:A}(hs:eI m s.nx sv qM)(hx:eI m s.nx x cx)(h:sN T s t xt sv x=some (v,bE)):Eff P m s w (Builtin.append_ #[t,xt] ty #[qM,cx]) v bE:=by
 have src:∀{sv qM:A}{a:I Addr},eI m s.nx sv qM->uK T s t xt sv (.slice none 0 0)=some (v,bE)->Eff P m s w (Builtin.append_ #[t,xt] ty #[qM,.slice a 0 0]) v bE:=by
  intro sv qM a hs h;have h0:=h;unfold uK at h;rcases hd:T.und t with _|d;simp[hd]at h;cases d with
  |slice e=>
   rcases cX:T.und xt with _|d2;simp[hd,cX]at h;cases d2 with
   |slice e2=>
    cases sv with
    |slice base n c=>
     simp only[hd,cX]at h;rcases hi:T.inf e with _|y;simp[hi]at h;obtain⟨sz,by_,z⟩:=y;cases sz with
     |zero=>simp[hi]at h|succ sz=>
      have eA:c6 T e=some (sz+1):=by simp[c6,hi]
      simp only[hi,Nat.zero_mul,nU,pU,zC]at h;obtain⟨e1,e2,pG⟩:=dz hf h;subst e1;subst e2;have ecs:qM=.slice (base.map fun a=>⟨m.blk a.block,m.sh a.block+a.off,none⟩) n (lO m base c):=by rw[<-hs.at];cases base<;>simp[ren,lO]
      refine⟨m,w,qM,?_,bQ.refl hf,hs⟩;rw[ecs];have:=Ov (P:=P) hT (w:=w) (ty:=ty) (w₁:=w) hd cX eA (base:=base.map fun a=>⟨m.blk a.block,m.sh a.block+a.off,none⟩) (n:=n) (xb:=a) (xc:=0) (k:=0) (cnew:=#[]) (zd _ _ _ _ _) (C:=(lO m base c)) (by simpa using pG) (fun a _=>by simp[storeCells]) (fun _=>rfl);simpa using this
    |_=>simp[hd,cX]at h
   |_=>simp[hd,cX]at h
  |_=>simp[hd]at h
 have tgt:∀{x cx:A}{a:I Addr}{v':A}{s':S},(eI m s.nx x cx\/x=.slice none 0 0/\∃b,cx=.slice b 0 0)->uK T s t xt (.slice none 0 0) x=some (v',s')->(v'=.slice none 0 0/\s'=s/\(Builtin.append_ #[t,xt] ty #[.slice a 0 0,cx]).run P w=.ok (.slice a 0 0) w)\/((∃b n c,v'=.slice (some b) n c)/\Eff P m s w (Builtin.append_ #[t,xt] ty #[.slice a 0 0,cx]) v' s'):=by
  intro x cx a v' s' hx h;have An:=fun hx=>qlt (ty:=ty) hT hf (vG (m:=m) (n:=s.nx) (v:=.slice none 0 0) fun _=>by simp[ren]) (cx:=cx) hx h;unfold uK at h;rcases hd:T.und t with _|d
  simp[hd]at h;cases d with
  |slice e=>
   rcases cX:T.und xt with _|d2;simp[hd,cX]at h;cases d2 with
   |slice e2=>
    cases x with
    |slice xb k xc=>
     simp only[hd,cX]at h;rcases hi:T.inf e with _|y;simp[hi]at h;obtain⟨sz,by_,z⟩:=y;cases sz with
     |zero=>simp[hi]at h|succ sz=>
      have eA:c6 T e=some (sz+1):=by simp[c6,hi]
      simp only[hi]at h;rcases D0:nU s xb (k*(sz+1))with _|new;simp[D0]at h;simp only[D0]at h;rcases h1:pU new with _|_;simp[h1]at h;simp only[h1,zC]at h;obtain⟨cnew,D2,vT,fX⟩:=Nc (P:=P) hf D0;have rD:eI m s.nx (.slice xb k xc) cx->cx=.slice (xb.map fun a=>⟨m.blk a.block,m.sh a.block+a.off,none⟩) k (lO m xb xc):=fun hx=>by rw[<-hx.at];cases xb<;>simp[ren,lO]
      cases k with
      |zero=>
       obtain⟨e1,e2,pG⟩:=dz (sz:=sz) hf h;refine .inl ⟨e1,e2,?_⟩;have D?:∃b c,cx=.slice b 0 c:=by rcases hx with hx |⟨_,b,hb⟩;exact⟨_,_,rD hx⟩;exact⟨b,0,hb⟩
       obtain⟨b,c,rfl⟩:=D?;have:=Ov (P:=P) hT (w:=w) (ty:=ty) (w₁:=w) hd cX eA (base:=a) (n:=0) (xb:=b) (xc:=c) (k:=0) (cnew:=#[]) (zd _ _ _ _ _) (C:=0) (zF _) (fun a _=>by simp[storeCells]) (fun _=>rfl);simpa using this
      |succ k=>
       have bL:vB (0+(k+1)) by_=true/\∃b n c,v'=.slice (some b) n c:=by
        simp only[W9]at h;have c0:Nat.blt 0 bP=true:=Nat.ble_eq_true_of_le (by simp[bP]);have c1:Nat.ble (0+(k+1)) 0=false:=by rcases hb:Nat.ble (0+(k+1)) 0 with _|_;rfl;have:=zY hb;omega
        simp only[c0,c1,zC,zD,Nat.zero_mul,nU]at h;rcases hr:vB (0+(k+1)) by_ with _|_;simp only[hr,zD]at h;cases h;simp only[hr,zC]at h;rcases hz:Nat.beq z.cells.toList.length (sz+1)with _|_;simp only[hz,zD]at h;cases h;simp only[hz,zC,zA,zB]at h;exact⟨rfl,_,_,_,h.1.symm⟩
       refine .inr ⟨bL.2,?_⟩;have hx:eI m s.nx (.slice xb (k+1) xc) cx:=by rcases hx with hx |⟨hx,_⟩;exact hx;cases hx
       obtain⟨aI,w₁,cv,g1,g2,g3⟩:=An hx;refine⟨aI,w₁,cv,?_,g2,g3⟩;rw[rD hx]at g1 ⊢;have q2:=i4 (P:=P) hT (w:=w) (ty:=ty) hd cX hi (base:=none) (n:=0) (C:=0) (cold:=#[]) (fun w' hw=>fX w' hw (k+1) (lO m xb xc)) (fun w' _=>zd _ _ _ _ _) (by omega) bL.1;have q2':=i4 (P:=P) hT (w:=w) (ty:=ty) hd cX hi (base:=a) (n:=0) (C:=0) (cold:=#[]) (fun w' hw=>fX w' hw (k+1) (lO m xb xc)) (fun w' _=>zd _ _ _ _ _) (by omega) bL.1;rw[q2',<-q2];exact g1
    |_=>simp[hd,cX]at h
   |_=>simp[hd,cX]at h
  |_=>simp[hd]at h
 have flat:(eI m s.nx (vC x) cx\/vC x=.slice none 0 0/\∃b,cx=.slice b 0 0):=by
  cases x with
  |chan r=>rcases r with _|r;exact .inl hx;have:=hx.at;simp only[ren]at this;exact .inr ⟨rfl,_,this.symm⟩
  |_=>exact .inl hx
 unfold sN at h;cases hw:xI sv with
 |false=>simp only[hw,zD]at h;rcases flat with hx |⟨e1,b,rfl⟩;exact qlt hT hf hs hx h;rw[e1]at h;exact src hs h
 |true=>
  simp only[hw,zC]at h;obtain⟨r,rfl⟩:∃r,sv=.chan (some r):=by
   cases sv with
   |chan r=>cases r with
    |none=>simp[xI]at hw|some r=>exact⟨r,rfl⟩
   |_=>simp[xI]at hw
  have ecs:=hs.at;simp only[ren]at ecs;rcases ha:uK T s t xt (.slice none 0 0) (vC x)with _|q;simp[ha]at h;obtain⟨v',s'⟩:=q;rcases tgt (a:=some ⟨m.blk r,m.sh r,some (m.cp r)⟩) flat ha with⟨e1,e2,cG⟩|⟨⟨b,n,c,e1⟩,An⟩;rw[ha,e1]at h;simp only[zA,zB]at h;obtain⟨rfl,rfl⟩:=h;exact⟨m,w,qM,by rw[<-ecs];exact cG,bQ.refl hf,hs⟩;rw[ha,e1]at h;simp only[zA,zB]at h;obtain⟨rfl,rfl⟩:=h;rw[<-ecs,<-e1];exact An
end
variable{m:Nm}
variable{s:S}
variable{w:Tz}
def bQ.ghost(h:fN m s w)(b sh cp:Nat):bQ m s w (m.set s.nx b sh cp) ⟨s.h,s.nx+1⟩ w:=by refine⟨Nm.agree_set m _ _ _ _,Nat.le_succ _,fun m' ha=>?_,?_,fun _ _ _=>rfl,zF _,rfl,rfl,rfl⟩;have hf:=h m' ((Nm.agree_set m s.nx b sh cp).trans ha (Nat.le_succ _));exact⟨hf.ok,hf.inj,fun i c hc=>Nat.lt_succ_of_lt (hf.bd i c hc)⟩;rintro k ⟨j,d,hd,ho,rfl⟩;have:=(h.fits).bd j d hd;exact .inl ⟨j,d,hd,ho,by simp[Nm.set,show j≠s.nx by omega]⟩
variable{r:Nat}
variable{es:Z MapEntry}
variable{cl:Nat}
def Ge(h:AE s r=some (es,cl)):lk s.h r=some (.inr (es,cl)):=by unfold AE at h;rcases hl:lk s.h r with _|b;simp[hl]at h;rcases b with x |x<;>simp[hl]at h;rw[h]
def Q3{P:Uz}(hf:fN m s w){es':Z MapEntry}{ces:Z MapEntry}{cl':Nat}(hr:AE s r=some (es,cl))
  (he:∀m',aJ s.nx m m'->es'.map (dM m')=ces):
  ∃w₁,(setObj (m.blk r) (.map ces.toArray cl')).run P w=.ok () w₁/\bQ m s w m (JM s r es' cl') w₁:=by have hl:=Ge hr;have hb:w.heap[m.blk r]? = some (.map (es.map (dM m)).toArray cl):=(hf.fits).ok r _ hl;refine⟨{ w with heap:=w.heap.setIfInBounds (m.blk r) (.map ces.toArray cl') },by simp[setObj,Sem.run,hb],?_⟩;refine bQ.write hf hl rfl (fun k hk=>?_) (by simp) rfl rfl rfl (zF _) fun m' ha=>?_;exact Array.getElem?_setIfInBounds_ne (Ne.symm hk);have w5:m'.blk r=m.blk r:=(ha r ((hf.fits).bd r _ hl)).1;have aH:=(hf.fits).size hl;simp only[uD,w5,he m' ha];exact Array.getElem?_setIfInBounds_self_of_lt aH
def Fy(hf:fN m s w)(hr:AE s r=some (es,cl)):∀m',aJ s.nx m m'->es.map (dM m')=es.map (dM m):=fun m' ha=>by
 have hl:=Ge hr;have h1:w.heap[m.blk r]? = some (.map (es.map (dM m)).toArray cl):=(hf.fits).ok r _ hl;have h2:w.heap[m'.blk r]? = some (.map (es.map (dM m')).toArray cl):=(hf m' ha).ok r _ hl;rw[(ha r ((hf.fits).bd r _ hl)).1,h1]at h2;simp at h2;exact List.map_congr_left fun e O1=>(h2 e O1).symm
def qx8{a b:ByteArray}(h:jZ a.data.toList b.data.toList=true):a=b:=by
 rw[ze]at h;have:a.data.toList=b.data.toList:=by simpa using h
 exact ByteArray.ext (Array.ext' this)
def z8s{E:A->A->BQ}{n:Nat}(hE:∀a b,E a b=true->a=b/\Instr.sameBits n a b=true)(x y:Z A)(h:BN E x y=true):x=y/\((x.zip y).all fun p=>Instr.sameBits n p.1 p.2)=true:=by induction x generalizing y with|nil=>cases y<;>simp_all[BN]|cons a x ih=>rcases y with _|⟨b,y⟩;simp[BN]at h;simp only[BN]at h;rcases D5:E a b with _|_;simp[D5]at h;simp only[D5,zC]at h;obtain⟨e1,e2⟩:=hE a b D5;obtain⟨e3,e4⟩:=ih y h;subst e1 e3;simp only[List.zip_cons_cons,List.all_cons,e2,e4];simp
def UN(d k:Nat):∀a b,A7 d a b=true->a=b/\Instr.sameBits (d+k) a b=true:=by
 induction d with
 |zero=>intro a b h;simp[A7]at h|succ d ih=>
  intro a b h;have hs:d+1+k=(d+k)+1:=by omega
  rw[hs];simp only[A7]at h;cases a with
  |int k1 x=>cases b with|int k2 y=>simp only at h;by_cases e1:k1=k2;by_cases e2:x=y;subst e1 e2;exact⟨rfl,by simp[Instr.sameBits]⟩;simp[e1,e2]at h;simp[e1]at h|_=>simp at h
  |bool x=>cases b with|bool y=>simp at h;subst h;exact⟨rfl,by simp[Instr.sameBits]⟩|_=>simp at h
  |string x=>cases b with|string y=>simp only at h;have:=qx8 h;subst this;exact⟨rfl,by simp[Instr.sameBits,beq_toListBytes]⟩|_=>simp at h
  |agg x=>
   cases b with
   |agg y=>obtain⟨x⟩:=x;obtain⟨y⟩:=y;simp only at h;obtain⟨e1,e2⟩:=z8s ih x y h;subst e1;refine⟨rfl,?_⟩;simp only[Instr.sameBits,beq_self_eq_true,Bool.true_and];exact e2
   |_=>simp at h
  |_=>simp at h
def qka{P:Uz}{a b:A}(h:A7 50 a b=true)(w:Tz):(Instr.keyThatStays a b).run P w=.ok b w/\a=b:=by obtain⟨e1,e2⟩:=UN 50 9950 a b h;refine⟨?_,e1⟩;have e3:Instr.sameBits 10000 a b=true:=e2;simp[Instr.keyThatStays,e3]
def I'(es:Z MapEntry)(i:Nat)(f:MapEntry->MapEntry):L3 es i f=es.modify i f:=by induction es generalizing i with|nil=>simp[L3]|cons e es ih=>cases i<;>simp[L3,ih]
def qpa(es:Z MapEntry)(i:Nat):WJ es i=es.eraseIdx i:=by induction es generalizing i with|nil=>simp[WJ]|cons e es ih=>cases i<;>simp[WJ,ih]
variable{v:A}
def z2r{T:Tb}{kt:O}{k:A}(es:Z MapEntry)(b:Nat){i:Nat}(h:oK T kt k es b=some (some (i,v))):b<=i/\∃e,es[i-b]? = some e/\e.val=v:=by
 induction es generalizing b with
 |nil=>simp[oK]at h|cons e es ih=>
  simp only[oK]at h;rcases he:eqv T 50 kt k e.key with _|r;simp[he]at h;cases r with
  |true=>simp[he]at h;obtain⟨rfl,rfl⟩:=h;exact⟨zF _,e,by simp,rfl⟩
  |false=>simp only[he]at h;obtain⟨h1,e',h2,h3⟩:=ih (b+1) h;refine⟨by omega,e',?_,h3⟩;rw[show i-b=(i-(b+1))+1 by omega];simpa using h2
section
variable{P:Uz}{T:Tb}(hT:iK P T){m:Nm}{s:S}{w:Tz}(hf:fN m s w)
include hT hf
variable{t:O}
variable{ty:O}
variable{x:A}
variable{bE:S}
def aa{ts:Z O}{d cd cx:A}(bB:eI m s.nx d cd)(hx:eI m s.nx x cx)(h:Kz T s t d x=some (v,bE)):Eff P m s w (Builtin.copy_ (t::ts).toArray ty #[cd,cx]) v bE:=by
 unfold Kz at h;rcases hd:T.und t with _|dd;simp[hd]at h;cases dd with
 |slice e=>
  cases d with
  |slice base n c=>
   cases x with
   |slice xb k xc=>
    simp only[hd]at h;rcases hs:c6 T e with _|sz;simp[hs]at h;simp only[hs]at h;rcases D0:nU s xb (Nat.min k n*sz)with _|cs;simp[D0]at h;simp only[D0]at h;rcases h1:pU cs with _|_;simp[h1]at h;simp only[h1,zC]at h;obtain⟨cnew,D2,vT,fX⟩:=Nc (P:=P) hf D0;have rD:cx=.slice (xb.map fun a=>⟨m.blk a.block,m.sh a.block+a.off,none⟩) k (lO m xb xc):=by rw[<-hx.at];cases xb<;>simp[ren,lO]
    have ecd:cd=.slice (base.map fun a=>⟨m.blk a.block,m.sh a.block+a.off,none⟩) n (lO m base c):=by rw[<-bB.at];cases base<;>simp[ren,lO]
    have rW:=fX w rfl k (lO m xb xc);have fin:∀w₁,(∀a,base=some a->(storeCells ⟨m.blk a.block,m.sh a.block+a.off,none⟩ cnew).run P w=.ok () w₁)->(base=none->w₁=w)->
      (Builtin.copy_ (t::ts).toArray ty #[cd,cx]).run P w=.ok (.int .i64 (Nat.min k n)) w₁:=by
     intro w₁ h2 h3;rw[rD,ecd];rcases base with _|a;rw[h3 rfl];simp[Builtin.copy_,eU hT w hd,Builtin.lenOf,lG hT w hs,rW,goInt];simp[Builtin.copy_,eU hT w hd,Builtin.lenOf,lG hT w hs,rW,goInt,h2 a rfl]
    cases cs with
    |nil=>
     simp only[zA,zB]at h;obtain⟨rfl,rfl⟩:=h;have b?:cnew=[]:=by rw[<-D2.at];simp[aE]
     subst b?;exact⟨m,w,_,fin w (fun a _=>by simp[storeCells]) (fun _=>rfl),bQ.refl hf,vG fun _=>by simp[ren]⟩
    |cons c0 cs=>simp only at h;rcases base with _|a;simp at h;simp only at h;rcases hr:cE s a.block with _|r;simp[hr]at h;obtain⟨l,e',md⟩:=r;simp only[hr]at h;rcases hp:qR l a.off (c0::cs)with _|l';simp[hp]at h;simp only[hp,zA,zB]at h;obtain⟨rfl,rfl⟩:=h;obtain⟨w₁,c9,aO⟩:=qe (P:=P) hf hr hp D2 h1;exact⟨m,w₁,_,fin w₁ (fun a' jJ=>by cases jJ;exact c9) (fun fF=>by cases fF),aO,vG fun _=>by simp[ren]⟩
   |_=>simp[hd]at h
  |_=>simp[hd]at h
 |_=>simp[hd]at h
omit hf in
def qqs{t xt ty e:O}{kd k:IntKind}{size by_ j:Nat}{z:A}{q:Int}(hw:IntKind.i64.wrap q=((j+1:Nat):Int))(ht:T.und t=some (.slice e))(hx:T.und xt=some (.int kd))(hi:T.inf e=some (size,by_,z))(S6:0<size)(hr:vB (j+1) by_=true):
  ∃nc,j+1<=nc/\(Builtin.append_ #[t,xt] ty #[.slice none 0 0,.int k q]).run P w=
   .ok (.slice (some ⟨w.heap.size,0,none⟩) (j+1) nc) ((w.drew).alloc (.cells (Builtin.zeroCells z.cells (j+1)++Builtin.zeroCells z.cells (nc-(j+1))) e)):=by
 obtain⟨r1,r2⟩:=qmo hr;obtain⟨_,i,HF,Ac,HD,hi4⟩:=hT.inf e _ _ _ hi;have hs:c6 T e=some size:=by simp[c6,hi]
 have g0:¬ (((j+1:Nat):Int)<0):=by omega
 have g4:¬ (((j+1:Nat):Int)*(i.bytes:Int)>2^48):=by rw[HD];have h':(((j+1)*by_:Nat):Int)<=((140737488355328:Nat):Int):=Int.ofNat_le.2 r1;rw[Int.natCast_mul]at h';omega
 have g1:¬ 0+(j+1)<=0:=by omega
 have g2:¬ (((0+(j+1):Nat):Int)>IntKind.i64.max/\(True\/i.bytes=0)):=by rw[IntKind.max_i64];omega
 have g3:¬ Builtin.nextslicecap (0+(j+1)) 0*i.bytes>2^48:=by have:=growslice_fits (bytes:=i.bytes) (show 0<0+(j+1) by omega) (by rw[HD,Nat.zero_add];exact r1);omega
 have g5:¬ (j+1)*size=0:=by have:=Nat.mul_pos (show 0<j+1 by omega) S6;omega
 have hz:(zeroValue e).run P w.drew=.ok z w.drew:=(C3 hT (⟨id,id,id⟩:Nm) w.drew hi).1;refine⟨(Question.appendCap (0+(j+1)) 0 e).cut (w.tape w.drawn (.appendCap (0+(j+1)) 0 e)),by simp[Question.cut],?_⟩;have hff:(Question.appendCap (0+(j+1)) 0 e).forced=false:=rfl;simp only[Builtin.append_,List.getElem?_toArray,List.getElem?_cons_zero,zH,zK,eU hT w ht,eU hT w hx,lG hT w hs,zJ,zL,Sem.run_ite,if_true,asInt,asIntOf,hw,g0,if_false,typeInfo,run_program,HF,g4,zZ,g1,g2,g3,g5];simp[Builtin.firstCells];have v?:(Question.appendCap (j+1) 0 e).forced=false:=rfl;simp only[v?,Bool.false_eq_true,if_false,hz,zJ];simp[Go.newRow];rfl
def qvf{xt:O}{sv qM cx:A}(KR:eI m s.nx sv qM)(hx:eI m s.nx x cx)(h:Zj T s t xt sv x=some (v,bE)):Eff P m s w (Builtin.append_ #[t,xt] ty #[qM,cx]) v bE:=by
 unfold Zj at h;split at h;rename_i e kd kd' i hd cX;have e1:qM=.slice none 0 0:=by rw[<-KR.at];simp[ren]
 have e2:cx=.int kd' i:=by rw[<-hx.at];simp[ren]
 subst e1 e2;split at h;rename_i sz by_ z hi;split at h;rename_i k hw;rcases bL:vB (k+1) by_ with _|_;simp[bL]at h;rw[bL]at h;simp only[zC]at h;rcases uN:Nat.beq z.cells.toList.length (sz+1)with _|_;rw[uN]at h;cases h;rw[uN]at h;simp only[zC]at h;rcases h1:pU (bY z.cells.toList (k+1))with _|_;rw[h1]at h;cases h;rw[h1]at h;simp only[zC,zA,zB]at h;obtain⟨rfl,rfl⟩:=h;have sQ:=Fx hT hi;simp only at sQ;have Sa:z.cells.size=sz+1:=by simpa[beq_eq]using uN
 obtain⟨nc,sT,cG⟩:=qqs (P:=P) (w:=w) (ty:=ty) (k:=kd') hT hw hd cX hi (by omega) bL;have Uc:fN m s w.drew:=qz _ hf;have ND:(Builtin.zeroCells z.cells (k+1)).toList=bY z.cells.toList (k+1):=by have:=Mm z.cells (k+1);simp only[Builtin.zeroCells]at*;rw[this]
 have aO:=zx Uc (rest:=(Builtin.zeroCells z.cells (nc-(k+1))).toList) (qt (Nl sQ (k+1))) e nc (sz+1) (by
  have a1:(Builtin.zeroCells z.cells (nc-(k+1))).toList.length=(nc-(k+1))*z.cells.size:=by rw[Array.length_toList,fV]
  have a2:(bY z.cells.toList (k+1)).length=(k+1)*z.cells.size:=by rw[qd,Array.length_toList]
  rw[a1,a2,Sa,<-Nat.add_mul];congr 1;omega)
 refine⟨_,_,.slice (some ⟨w.heap.size,0,none⟩) (k+1) nc,?_,(bQ.draw (w.drawn+1) hf).trans aO,?_⟩;rw[cG];congr 3;apply Array.ext';simp[ND];have hw:w.drew.heap.size=w.heap.size:=rfl;rw[hw];refine MI (zN _) fun m' ha=>?_;rw[v01];obtain⟨_,_,e3⟩:=xA m s.nx w.heap.size 0 nc;exact(ha s.nx (zN _)).2.2.trans e3;cases h;cases h;cases h
def qvg{xt:O}{sv qM cx:A}(KR:eI m s.nx sv qM)(hx:eI m s.nx x cx)(h:WS T s t xt sv x=some (v,bE)):Eff P m s w (Builtin.append_ #[t,xt] ty #[qM,cx]) v bE:=by unfold WS at h;split at h;rename_i r hr;cases h;exact qwy hT hf KR hx hr;exact qvf hT hf KR hx h
def z2a{ts:Z O}{cx:A}(hx:eI m s.nx x cx)(h:WM T s t x=some (v,bE)):Eff P m s w (Builtin.clear_ (t::ts).toArray ty #[cx]) v bE:=by
 unfold WM at h;rcases hd:T.und t with _|dd;simp[hd]at h;cases dd with
 |slice e=>
  cases x with
  |slice base n c=>
   simp only[hd]at h;have rD:cx=.slice (base.map fun a=>⟨m.blk a.block,m.sh a.block+a.off,none⟩) n (lO m base c):=by rw[<-hx.at];cases base<;>simp[ren,lO]
   cases n with
   |zero=>simp only[zA,zB]at h;obtain⟨rfl,rfl⟩:=h;refine⟨m,w,undef,?_,bQ.refl hf,vG fun _=>by simp[undef,ren,aE]⟩;rw[rD];cases base<;>simp[Builtin.clear_,eU hT w hd,undef]
   |succ n=>
    cases base with
    |none=>simp only[zA,zB]at h;obtain⟨rfl,rfl⟩:=h;refine⟨m,w,undef,?_,bQ.refl hf,vG fun _=>by simp[undef,ren,aE]⟩;rw[rD];simp[Builtin.clear_,eU hT w hd,undef]
    |some a=>
     simp only at h;rcases hi:T.inf e with _|q;simp[hi]at h;obtain⟨sz,by_,z⟩:=q;simp only[hi]at h;have hz:=(C3 hT m w hi).1;have sQ:=Fx hT hi;simp only at hz sQ;rcases h1:pU (bY z.cells.toList (n+1))with _|_;simp[h1]at h;simp only[h1,zC]at h;rcases hr:cE s a.block with _|r;simp[hr]at h;obtain⟨l,e',md⟩:=r;simp only[hr]at h;rcases hp:qR l a.off (bY z.cells.toList (n+1))with _|l';simp[hp]at h;simp only[hp,zA,zB]at h;obtain⟨rfl,rfl⟩:=h;obtain⟨w₁,c9,aO⟩:=qe (P:=P) hf hr hp (qt (Nl sQ (n+1))) h1;refine⟨m,w₁,undef,?_,aO,vG fun _=>by simp[undef,ren,aE]⟩;have ND:(Builtin.zeroCells z.cells (n+1)).toList=bY z.cells.toList (n+1):=by have:=Mm z.cells (n+1);simp only[Builtin.zeroCells]at*;rw[this]
     rw[rD];simp[Builtin.clear_,eU hT w hd,undef,hz,ND,c9]
  |_=>simp[hd]at h
 |_=>simp[hd]at h
def z0a{cx:A}{lo hi mx:I A}{clo chi cmx:I A}(hx:eI m s.nx x cx)(h1:∀m',aJ s.nx m m'->lo.map (ren m')=clo)(h2:∀m',aJ s.nx m m'->hi.map (ren m')=chi)
  (h3:∀m',aJ s.nx m m'->mx.map (ren m')=cmx) (h:Dx T s t x lo hi mx=some (v,bE)):Eff P m s w (Instr.sliceAt t cx clo chi cmx) v bE:=by
 have e1:=h1 m (aJ.refl _ _);have e2:=h2 m (aJ.refl _ _);have e3:=h3 m (aJ.refl _ _);unfold Dx at h;rcases hd:T.und t with _|dd;simp[hd]at h;cases dd with
 |slice e=>
  cases x with
  |slice p n c=>
   rcases p with _|a;simp[hd]at h;simp only[hd]at h;cases hc:Nat.blt c bP with
   |true=>simp[hc]at h|false=>
    have lI:¬ c<bP:=Nw hc;simp only[hc,zD]at h;rcases hs:c6 T e with _|sz;simp[hs]at h;simp only[hs]at h;rcases hr:BZ s a.block sz with _|l;simp[hr]at h;simp only[hr,beq_eq]at h;by_cases dO:a.off=bI c*sz;rw[decide_eq_true dO]at h;simp only[zC]at h;rcases eX:Nat.blt 0 sz with _|_;simp[eX]at h;have qC:0<sz:=G1 eX;simp only[eX,zC]at h;obtain⟨sz,rfl⟩:∃q,sz=q+1:=⟨sz-1,by omega⟩;obtain⟨_,_,AW,_⟩:=nj hr;have hl:=hr;have fU:=(hf.fits).bd _ _ AW;have rD:cx=.slice (some ⟨m.blk a.block,m.sh a.block+a.off,none⟩) n (m.cp a.block-bI c):=by rw[<-hx.at];simp[ren,bU,lI]
    have yV:(l.length-a.off)/(sz+1)<=m.cp a.block-bI c:=by
     rcases Nat.eq_zero_or_pos ((l.length-a.off)/(sz+1))with h0 |hp;omega;have pG:=Nat.div_mul_le_self (l.length-a.off) (sz+1);have AY:a.off<=l.length:=by rcases Nat.lt_or_ge l.length a.off with aH |AY;rw[show l.length-a.off=0 by omega]at hp;simp at hp;exact AY
     have:=Zm m w hf.fits (c:=c) (n:=(l.length-a.off)/(sz+1)) (off:=a.off) hl dO (by omega);omega
    have hu:=eU hT w hd;cases mx with
    |some vm=>
     simp only at h;rcases hb1:iA vm ((l.length-a.off)/(sz+1))with _|M0;simp[hb1]at h;simp only[hb1]at h;rcases nX:Nat.ble (a.off+M0*(sz+1)) l.length with _|_;simp[nX]at h;simp only[nX,zC]at h;rcases hb:fD n M0 lo hi (some vm)with _|q;simp[hb]at h;obtain⟨l1,hh,M⟩:=q;simp only[hb]at h;rcases hMc:Nat.blt M bP with _|_;simp[hMc]at h;simp only[hMc,zC,zA,zB]at h;obtain⟨rfl,rfl⟩:=h;have Ax:M<bP:=G1 hMc;have W?:M0<=m.cp a.block-bI c:=by have:=(QH (P:=P) m w hb1 _ (zF _) .index).2;omega
     obtain⟨b1,b2,b3,_⟩:=JZ (P:=P) (isS:=true) m w hb W?;simp only[Option.isSome_some,if_true]at b1;rw[e1,e2,e3]at b1;have HN:M-l1<bP:=Nat.lt_of_le_of_lt (Nat.sub_le _ _) Ax;refine⟨m,w,.slice (if M=l1 then some ⟨m.blk a.block,m.sh a.block+a.off,none⟩else some ⟨m.blk a.block,m.sh a.block+a.off+l1*(sz+1),none⟩) (hh-l1) (M-l1),?_,bQ.refl hf,fun m' ha=>?_⟩;rw[rD];simp only[Instr.sliceAt,zK,hu,zJ,Instr.slice,b1,lG hT w hs,zL,zM,uH];obtain⟨q1,q2,_⟩:=ha a.block fU;by_cases yY:M=l1;rw[yY]at HN ⊢;simp only[yC,zC,ren,q1,q2,if_true,bU,if_pos HN];simp only[decide_eq_false yY,zD,ren,q1,q2,if_neg yY,bU,if_pos HN,Nat.add_assoc]
    |none=>
     simp only at h;rcases hb:fD n ((l.length-a.off)/(sz+1)) lo hi none with _|q;simp[hb]at h;obtain⟨l1,hh,M⟩:=q;simp only[hb]at h;rcases nX:Nat.ble (a.off+hh*(sz+1)) l.length with _|_;simp[nX]at h;simp only[nX,zC]at h;have ZZ:a.off+hh*(sz+1)<=l.length:=zY nX;have hhC:=Zm m w hf.fits (c:=c) (n:=hh) (off:=a.off) hl dO ZZ;obtain⟨b1,b2,_,b4⟩:=JZ (P:=P) (isS:=true) m w hb yV;simp only[Option.isSome_none,Bool.false_eq_true,if_false]at b1;rw[e1,e2,e3]at b1;have cG:(Instr.sliceAt t cx clo chi cmx).run P w=.ok (.slice (if m.cp a.block-bI c=l1 then some ⟨m.blk a.block,m.sh a.block+a.off,none⟩else some ⟨m.blk a.block,m.sh a.block+a.off+l1*(sz+1),none⟩) (hh-l1) (m.cp a.block-bI c-l1)) w:=by rw[rD];simp only[Instr.sliceAt,zK,hu,zJ,Instr.slice,b1,lG hT w hs,zL,zM,uH]
     cases l1 with
     |zero=>
      simp only[zA,zB]at h;obtain⟨rfl,rfl⟩:=h;have Sr:(Instr.sliceAt t cx clo chi cmx).run P w=.ok (.slice (some ⟨m.blk a.block,m.sh a.block+a.off,none⟩) hh (m.cp a.block-bI c)) w:=by rw[Nat.sub_zero,Nat.sub_zero,Nat.zero_mul,Nat.add_zero]at cG;by_cases hC:m.cp a.block-bI c=0;rw[if_pos hC]at cG;exact cG;rw[if_neg hC]at cG;exact cG
      refine⟨m,w,_,Sr,bQ.refl hf,fun m' ha=>?_⟩;obtain⟨q1,q2,q3⟩:=ha a.block fU;simp only[ren,q1,q2,q3,bU,if_neg lI]
     |succ l1=>
      simp only at h;cases aH:Nat.blt (l1+1) hh with
      |true=>
       have tQ:l1+1<hh:=G1 aH;simp only[aH,zC,zA,zB]at h;obtain⟨rfl,rfl⟩:=h;refine⟨m,w,_,cG,bQ.refl hf,fun m' ha=>?_⟩;obtain⟨q1,q2,q3⟩:=ha a.block fU;have cT:¬ m.cp a.block-bI c=l1+1:=by omega
       have sT:¬ c+(l1+1)<bP:=fun hh=>lI (Nat.lt_of_le_of_lt (Nat.le_add_right _ _) hh);have B1:bI (c+(l1+1))=bI c+(l1+1):=qtb (Nat.le_of_not_lt lI) _;simp only[ren,q1,q2,q3,bU,if_neg sT,if_neg cT,B1,Nat.add_assoc,Nat.sub_sub]
      |false=>
       simp only[aH,zD,zA,zB]at h;obtain⟨rfl,rfl⟩:=h;have AY:=Nw aH;have A?:hh=l1+1:=by omega
       subst A?;rw[Nat.sub_self]at cG;by_cases hC:m.cp a.block-bI c=l1+1;rw[if_pos hC]at cG;refine⟨_,w,_,cG,bQ.ghost hf (m.blk a.block) (m.sh a.block+a.off) (m.cp a.block-bI c-(l1+1)),MI (zN _) fun m' ha=>?_⟩;rw[v01];obtain⟨_,_,e3⟩:=xA m s.nx (m.blk a.block) (m.sh a.block+a.off) (m.cp a.block-bI c-(l1+1));exact(ha s.nx (zN _)).2.2.trans e3;rw[if_neg hC]at cG;refine⟨_,w,_,cG,bQ.ghost hf (m.blk a.block) (m.sh a.block+a.off+(l1+1)*(sz+1)) (m.cp a.block-bI c-(l1+1)),MI (zN _) fun m' ha=>?_⟩;rw[v01];obtain⟨_,_,e3⟩:=xA m s.nx (m.blk a.block) (m.sh a.block+a.off+(l1+1)*(sz+1)) (m.cp a.block-bI c-(l1+1));exact(ha s.nx (zN _)).2.2.trans e3
    rw[decide_eq_false dO]at h;simp at h
  |_=>simp[hd]at h
 |_=>simp[hd]at h
end
def sA{v11 v09:Type}(f:v11->v09)(l:Z v11)(i:Nat):(l.eraseIdx i).map f=(l.map f).eraseIdx i:=by induction l generalizing i with|nil=>simp|cons a l ih=>cases i<;>simp[ih]
section
variable{P:Uz}{T:Tb}(hT:iK P T){m:Nm}{s:S}{w:Tz}(hf:fN m s w)
include hT hf
variable{t:O}
variable{mv:A}
variable{k:A}
variable{cm:A}
variable{ck:A}
variable{bE:S}
def qu6{x cx u:A}(hm:eI m s.nx mv cm)(hk:eI m s.nx k ck)(hx:eI m s.nx x cx)(h:WH T s t mv k x=some (u,bE)):
  OO P m s w (Instr.mapUpdate t cm ck cx) bE/\u=undef:=by
 unfold WH at h;rcases hd:T.und t with _|dd;simp[hd]at h;cases dd with
 |map kt et=>
  cases mv with
  |map r=>
   rcases r with _|r;simp[hd]at h;simp only[hd]at h;rcases qF:o7 T 50 kt k with _|_;simp[qF]at h;simp only[qF,zC]at h;obtain⟨ty,qA⟩:=Zv qF;rcases kZ:plain k with _|_;simp[kZ]at h;simp only[kZ,zC]at h;rcases hr:AE s r with _|q;simp[hr]at h;obtain⟨es,cl⟩:=q;simp only[hr]at h;have hb:w.heap[m.blk r]? = some (.map (es.map (dM m)).toArray cl):=(hf.fits).ok r _ (Ge hr);have EN:cm=.map (some (m.blk r)):=by rw[<-hm.at];simp[ren]
   have eck:ck=k:=by rw[<-hk.at];exact yI m k kZ
   have D3:=Lm hT m false 50 9950 w qF;rw[yI m k kZ]at D3;have c9:=Fy hf hr;rcases hfx:oK T kt k es 0 with _|fr;simp[hfx]at h;have rW:=JS hT m w qA hfx;rw[yI m k kZ]at rW;cases fr with
   |none=>simp only[hfx,zA,zB]at h;obtain⟨rfl,rfl⟩:=h;refine⟨?_,rfl⟩;obtain⟨w₁,h1,h2⟩:=Q3 (P:=P) hf hr (es':=es++[{ key:=k,val:=x,born:=cl }]) (cl':=cl+1) (ces:=es.map (dM m)++[{ key:=k,val:=cx,born:=cl }]) (fun m' ha=>by simp[dM,yI m' k kZ,hx m' ha];have:=c9 m' ha;simpa[dM]using this);refine⟨m,w₁,?_,h2⟩;rw[EN,eck];simp only[Instr.mapUpdate,zK,eU hT w hd,zJ,run_getObj_map hb,D3,rW,Option.map_none];rw[<-h1];simp
   |some p=>
    obtain⟨i,pv⟩:=p;simp only[hfx,i9]at h;rcases hei:es[i]? with _|e;simp[hei]at h;simp only[hei]at h;rcases hv:A7 50 e.key k with _|_;simp[hv]at h;simp only[hv,zC,zA,zB]at h;obtain⟨rfl,rfl⟩:=h;refine⟨?_,rfl⟩;obtain⟨tR,uR⟩:=qka (P:=P) hv w;have HA:∀m',aJ s.nx m m'->(L3 es i fun e=>{ e with val:=x }).map (dM m')=(es.map (dM m)).modify i fun e=>{ e with key:=k,val:=cx }:=fun m' ha=>by rw[I',<-c9 m' ha];apply List.ext_getElem?;intro j;simp only[List.getElem?_map,List.getElem?_modify];by_cases kB:i=j;subst kB;simp[hei,dM,hx m' ha,uR,yI m' k kZ];cases es[j]? <;> simp[kB]
    obtain⟨w₁,h1,h2⟩:=Q3 (P:=P) hf hr (cl':=cl) HA;refine⟨m,w₁,?_,h2⟩;have qH:(es.map (dM m)).toArray[i]? = some (dM m e):=by simp[hei]
    have nY:(dM m e).key=k:=by simp[dM,uR,yI m k kZ]
    rw[uR]at tR;rw[EN,eck];simp only[Instr.mapUpdate,zK,eU hT w hd,zJ,run_getObj_map hb,D3,rW,zM,qH,Option.getD_some,nY,tR];rw[<-h1];simp
  |_=>simp[hd]at h
 |_=>simp[hd]at h
def qyn{v:A}(hm:eI m s.nx mv cm)(hk:eI m s.nx k ck)(h:Et T s t mv k=some (v,bE)):Eff P m s w (Instr.mapEntry t cm ck) v bE:=by
 unfold Et at h;rcases hd:T.und t with _|dd;simp[hd]at h;cases dd with
 |map kt et=>
  cases mv with
  |map r=>
   rcases r with _|r;simp[hd]at h;simp only[hd]at h;rcases qF:o7 T 50 kt k with _|_;simp[qF]at h;simp only[qF,zC]at h;obtain⟨ty,qA⟩:=Zv qF;rcases kZ:plain k with _|_;simp[kZ]at h;simp only[kZ,zC]at h;rcases hr:AE s r with _|q;simp[hr]at h;obtain⟨es,cl⟩:=q;simp only[hr]at h;have hb:w.heap[m.blk r]? = some (.map (es.map (dM m)).toArray cl):=(hf.fits).ok r _ (Ge hr);have EN:cm=.map (some (m.blk r)):=by rw[<-hm.at];simp[ren]
   have eck:ck=k:=by rw[<-hk.at];exact yI m k kZ
   have D3:=Lm hT m false 50 9950 w qF;rw[yI m k kZ]at D3;have c9:=Fy hf hr;rcases hfx:oK T kt k es 0 with _|fr;simp[hfx]at h;have rW:=JS hT m w qA hfx;rw[yI m k kZ]at rW;cases fr with
   |none=>
    simp only[hfx]at h;rcases hi:T.inf et with _|y;simp[hi]at h;obtain⟨y1,y2,z⟩:=y;have hz:=fun m'=>C3 hT m' w hi
    simp only at hz;simp only[hi,zA,zB]at h;obtain⟨rfl,rfl⟩:=h;obtain⟨w₁,h1,h2⟩:=Q3 (P:=P) hf hr (es':=es++[{ key:=k,val:=z,born:=cl }]) (cl':=cl+1) (ces:=es.map (dM m)++[{ key:=k,val:=z,born:=cl }]) (fun m' ha=>by simp[dM,yI m' k kZ,(hz m').2];have:=c9 m' ha;simpa[dM]using this);refine⟨m,w₁,.tuple #[z,.int .i64 cl],?_,h2,fun m' _=>by simp[ren,aE,(hz m').2]⟩;rw[EN,eck];have pI:(setObj (m.blk r) (.map ((es.map (dM m)).toArray.push { key:=k,val:=z,born:=cl }) (cl+1))).run P w=.ok () w₁:=by rw[<-h1];simp
    simp only[Instr.mapEntry,zK,eU hT w hd,zJ,run_getObj_map hb,D3,rW,Option.map_none,(hz m).1,pI,zL,goInt]
   |some p=>
    obtain⟨i,pv⟩:=p;obtain⟨_,e0,Ud,KU⟩:=z2r es 0 hfx;simp only[Nat.sub_zero]at Ud;simp only[hfx,i9,Ud]at h;rcases hv:A7 50 e0.key k with _|_;simp[hv]at h;simp only[hv,zC,zA,zB]at h;obtain⟨rfl,rfl⟩:=h;obtain⟨tR,uR⟩:=qka (P:=P) hv w;obtain⟨w₁,h1,h2⟩:=Q3 (P:=P) hf hr (es':=es) (cl':=cl) c9;have qH:(es.map (dM m)).toArray[i]? = some (dM m e0):=by simp[Ud]
    have nY:(dM m e0).key=k:=by simp[dM,uR,yI m k kZ]
    have Un:(dM m e0).born=e0.born:=rfl;rw[uR]at tR;have HA:(es.map (dM m)).toArray.modify i (fun e=>{ e with key:=k })=(es.map (dM m)).toArray:=by apply Array.ext';simp only[Array.toList_modify];apply List.ext_getElem?;intro j;simp only[List.getElem?_modify];by_cases kB:i=j;subst kB;simp[Ud,dM,uR,yI m k kZ];cases ((es.map (dM m)).toArray.toList)[j]? <;> simp[kB]
    refine⟨m,w₁,.tuple #[ren m pv,.int .i64 e0.born],?_,h2,fun m' ha=>?_⟩;rw[EN,eck];simp only[Instr.mapEntry,zK,eU hT w hd,zJ,run_getObj_map hb,D3,rW,zM,qH,Option.getD_some,nY,tR,HA,h1,zL,goInt,Un];have:=c9 m' ha;have h3:(dM m' e0)=dM m e0:=by have:=congrArg (fun l=>l[i]?) this;simpa[Ud]using this
    have h4:ren m' pv=ren m pv:=by have:=congrArg MapEntry.val h3;simpa[dM,KU]using this
    simp[ren,aE,h4]
  |_=>simp[hd]at h
 |_=>simp[hd]at h
omit hT in
def z2k{t:O}{mv st x cm cst cx u:A}{bE:S}(hm:eI m s.nx mv cm)(hs:eI m s.nx st cst)(hx:eI m s.nx x cx)(h:Lq s mv st x=some (u,bE)):
  OO P m s w (Instr.entryStore t cm cst cx) bE/\u=undef:=by
 unfold Lq at h;cases mv with
 |map r=>
  rcases r with _|r;simp at h;cases st with
  |int k b=>
   simp only at h;rcases hr:AE s r with _|q;simp[hr]at h;obtain⟨es,cl⟩:=q;simp only[hr]at h;rcases Un:PV b es 0 with _|i;simp[Un]at h;simp only[Un,zA,zB]at h;obtain⟨rfl,rfl⟩:=h;refine⟨?_,rfl⟩;have hb:w.heap[m.blk r]? = some (.map (es.map (dM m)).toArray cl):=(hf.fits).ok r _ (Ge hr);have EN:cm=.map (some (m.blk r)):=by rw[<-hm.at];simp[ren]
   have ecs:cst=.int k b:=by rw[<-hs.at];simp[ren]
   have c9:=Fy hf hr;have Ub:∀(l:Z MapEntry)(n i:Nat),PV b l n=some i->n<=i/\(l.map (dM m)).findIdx? (fun e=>(e.born:Int)==b)=some (i-n):=by
    intro l;induction l with
    |nil=>intro n i hh;simp[PV]at hh|cons e l ih=>
     intro n i hh;simp only[PV]at hh;by_cases he:(e.born:Int)=b;simp[he]at hh;subst hh;have bV:(((dM m e).born:Int)==b)=true:=by simpa[dM]using he
     refine⟨zF _,?_⟩;rw[zQ,List.findIdx?_cons,bV];simp;simp only[he,yB,zD]at hh;obtain⟨h1,h2⟩:=ih (n+1) i hh;have bV:(((dM m e).born:Int)==b)=false:=by simpa[dM]using he
     refine⟨by omega,?_⟩;rw[zQ,List.findIdx?_cons,bV,h2];simp;omega
   obtain⟨_,rW⟩:=Ub es 0 i Un;have HA:∀m',aJ s.nx m m'->(L3 es i fun e=>{ e with val:=x }).map (dM m')=(es.map (dM m)).modify i fun e=>{ e with val:=cx }:=fun m' ha=>by rw[I',<-c9 m' ha];apply List.ext_getElem?;intro j;simp only[List.getElem?_map,List.getElem?_modify];by_cases kB:i=j;subst kB;cases es[i]? <;> simp[dM,hx m' ha];cases es[j]? <;> simp[kB]
   obtain⟨w₁,h1,h2⟩:=Q3 (P:=P) hf hr (cl':=cl) HA;refine⟨m,w₁,?_,h2⟩;rw[EN,ecs];have w?:(es.map (dM m)).toArray.findIdx? (fun e=>(e.born:Int)==b)=some i:=by rw[List.findIdx?_toArray,rW];simp
   simp only[Instr.entryStore,zK,run_getObj_map hb,zJ,asInt,asIntOf,zL,w?];rw[<-h1];simp
  |_=>simp at h
 |_=>simp at h
def Bu{ty:O}{ts:Z O}{v:A}(hm:eI m s.nx mv cm)(hk:eI m s.nx k ck)(h:DB T s t mv k=some (v,bE)):Eff P m s w (Builtin.delete_ (t::ts).toArray ty #[cm,ck]) v bE:=by
 unfold DB at h;rcases hd:T.und t with _|dd;simp[hd]at h;cases dd with
 |map kt et=>
  cases mv with
  |map r=>
   cases r with
   |none=>
    simp only[hd]at h;rcases qF:o7 T 50 kt k with _|_;simp[qF]at h;simp only[qF,zC,zA,zB]at h;obtain⟨rfl,rfl⟩:=h;have EN:cm=.map none:=by rw[<-hm.at];simp[ren]
    have D3:=Lm hT m true 50 9950 w qF;rw[hk.at]at D3;refine⟨m,w,undef,?_,bQ.refl hf,vG fun _=>by simp[undef,ren,aE]⟩;rw[EN];have O2:(Instr.checkKey true 10000 kt ck).run P w=.ok () w:=D3;simp[Builtin.delete_,eU hT w hd,O2,undef]
   |some r=>
    simp only[hd]at h;rcases qF:o7 T 50 kt k with _|_;simp[qF]at h;simp only[qF,zC]at h;obtain⟨ty,qA⟩:=Zv qF;rcases hr:AE s r with _|q;simp[hr]at h;obtain⟨es,cl⟩:=q;simp only[hr]at h;have hb:w.heap[m.blk r]? = some (.map (es.map (dM m)).toArray cl):=(hf.fits).ok r _ (Ge hr);have EN:cm=.map (some (m.blk r)):=by rw[<-hm.at];simp[ren]
    have D3:=Lm hT m (es.map (dM m)).toArray.isEmpty 50 9950 w qF;rw[hk.at]at D3;have O2:(Instr.checkKey (es.map (dM m)).toArray.isEmpty 10000 kt ck).run P w=.ok () w:=D3;have c9:=Fy hf hr;rcases hfx:oK T kt k es 0 with _|fr;simp[hfx]at h;have rW:=JS hT m w qA hfx;rw[hk.at]at rW;cases fr with
    |none=>simp only[hfx,zA,zB]at h;obtain⟨rfl,rfl⟩:=h;obtain⟨w₁,h1,h2⟩:=Q3 (P:=P) hf hr (es':=es) (cl':=cl) c9;refine⟨m,w₁,undef,?_,h2,vG fun _=>by simp[undef,ren,aE]⟩;rw[EN];simp only[Builtin.delete_,List.getElem?_toArray,List.getElem?_cons_zero,zH,zK,eU hT w hd,zJ,run_getObj_map hb,O2,rW,Option.map_none,h1,zL,undef]
    |some p=>
     obtain⟨i,pv⟩:=p;simp only[hfx,zA,zB]at h;obtain⟨rfl,rfl⟩:=h;obtain⟨w₁,h1,h2⟩:=Q3 (P:=P) hf hr (es':=WJ es i) (cl':=cl) (ces:=(es.map (dM m)).eraseIdx i) (fun m' ha=>by rw[qpa,<-c9 m' ha,sA]);refine⟨m,w₁,undef,?_,h2,vG fun _=>by simp[undef,ren,aE]⟩;have pI:(setObj (m.blk r) (.map ((es.map (dM m)).toArray.eraseIdxIfInBounds i) cl)).run P w=.ok () w₁:=by rw[<-h1];simp
     rw[EN];simp only[Builtin.delete_,List.getElem?_toArray,List.getElem?_cons_zero,zH,zK,eU hT w hd,zJ,run_getObj_map hb,O2,rW,zM,pI,zL,undef]
  |_=>simp[hd]at h
 |_=>simp[hd]at h
end
def y8(m:Nm)(n:Nat)(tm:Z A)(a:Act):Prop:=∀m',aJ n m m'->a.tmps=⟨aE m' tm⟩
variable{m:Nm}
variable{n:Nat}
variable{tm:Z A}
variable{a:Act}
def y8.ext{m':Nm}{n':Nat}(h:y8 m n tm a)(ha:aJ n m m')(hn:n<=n'):y8 m' n' tm a:=fun k hk=>h k (ha.trans hk hn)
variable{v:A}
def y8.evalO(h:y8 m n tm a){x:Jp}(hx:evalO tm x=some v):eI m n v (a.eval x):=fun m' ha=>(kJ (h m' ha) hx).symm
def z41(m:Nm)(tm:Z A)(d:Nat)(v:A):aE m (tm.set d v)=(aE m tm).set d (ren m v):=by simp[lD,List.map_set]
def y8.put{m:Nm}{n:Nat}{tm:Z A}{a:Act}(h:y8 m n tm a){v cv:A}(hv:eI m n v cv)(d:I Tmp):y8 m n (A9 tm d v) (a.put d cv):=fun m' ha=>by
 rcases d with _|d;exact h m' ha;simp only[Act.put,A9,h m' ha,z41,hv m' ha,List.setIfInBounds_toArray]
section
variable{P:Uz}{T:Tb}(hT:iK P T){m:Nm}{s:S}{w:Tz}(hf:fN m s w)
include hT hf
def Bq(ha:y8 m s.nx tm a)(o:Oper){bE:S}(h:qS T tm s o.op=some (v,bE)):
  ∃aI w₁ cv nxt,(execOp a.eval o).run P w=.ok nxt w₁/\(nxt=.value cv\/(nxt=.skip/\cv=undef))/\bQ m s w aI bE w₁/\eI aI bE.nx v cv:=by
 obtain⟨dst,op,type,pos,after,guard⟩:=o;simp only at h;have dW:∀{x:Sem A},Eff P m s w x v bE->∃aI w₁ cv nxt,(do let y <-x;pure (Next.value y):Sem Next).run P w=.ok nxt w₁/\(nxt=.value cv\/(nxt=.skip/\cv=undef))/\bQ m s w aI bE w₁/\eI aI bE.nx v cv:=by rintro x ⟨aI,w₁,cv,h1,h2,h3⟩;exact⟨aI,w₁,cv,_,by simp only[zK,h1,zJ,zL],.inl rfl,h2,h3⟩
 have AM:∀{x:Sem Unit},OO P m s w x bE/\v=undef->∃aI w₁ cv nxt,(do x;pure Next.skip:Sem Next).run P w=.ok nxt w₁/\(nxt=.value cv\/(nxt=.skip/\cv=undef))/\bQ m s w aI bE w₁/\eI aI bE.nx v cv:=by rintro x ⟨⟨aI,w₁,h1,h2⟩,rfl⟩;exact⟨aI,w₁,undef,_,by simp only[zK,h1,zJ,zL],.inr ⟨rfl,rfl⟩,h2,vG fun _=>by simp[undef,ren,aE]⟩
 unfold qS at h;cases op with
 |alloc e=>simp only at h;rcases hi:T.inf e with _|x;simp[hi]at h;obtain⟨x1,x2,z⟩:=x;simp only[hi,zA,zB]at h;obtain⟨rfl,rfl⟩:=h;have hz:=(C3 hT m w hi).1;have sQ:=Fx hT hi;simp only at hz sQ;refine dW ⟨_,_,.pointer (some ⟨w.heap.size,0,none⟩),?_,Zh hf (qt sQ) e 0,qux _ _ _ _ (zN _)⟩;simp[Instr.alloc,hz,newVar,Go.newRow]
 |box e x=>simp only at h;rcases hx:evalO tm x with _|u;simp[hx]at h;simp only[hx,zA,zB]at h;obtain⟨rfl,rfl⟩:=h;refine dW ⟨_,_,.pointer (some ⟨w.heap.size,0,none⟩),?_,Zh hf (ha.evalO hx).cells e 0,qux _ _ _ _ (zN _)⟩;simp[Instr.box,newVar,Go.newRow]
 |store t p x=>simp only at h;rcases hp:evalO tm p with _|u;simp[hp]at h;rcases hx:evalO tm x with _|u';simp[hp,hx]at h;simp only[hp,hx]at h;exact AM (z4c hT hf (ha.evalO hp) (ha.evalO hx) h)
 |buildSlice t n ps=>
  simp only at h;rcases hp:FR tm ps.toList with _|qs;simp[hp]at h;simp only[hp]at h;have e1:(ps.map fun(i,x)=>(i,a.eval x))=(ps.toList.map fun p=>(p.1,a.eval p.2)).toArray:=by cases ps;simp
  have:=qrx hT hf (cps:=ps.toList.map fun p=>(p.1,a.eval p.2)) (fun m' fS=>(dp (ha m' fS) hp).symm) h;simp only[execOp];rw[e1];exact dW this
 |makeSlice t l c=>simp only at h;rcases hp:evalO tm l with _|u;simp[hp]at h;rcases hx:evalO tm c with _|u';simp[hp,hx]at h;simp only[hp,hx]at h;exact dW (z7h hT hf (ha.evalO hp) (ha.evalO hx) h)
 |makeMap t r=>cases r with|some r=>simp at h|none=>simp only[zA,zB]at h;obtain⟨rfl,rfl⟩:=h;refine dW ⟨_,_,.map (some w.heap.size),?_,bQ.alloc hf (.map #[] 0) (.inr ([],0)) 0 ?_,fun m' fS=>?_⟩;simp[Instr.makeMap];intro m' fS;have e1:=(fS s.nx (zN _)).1;simp only[uD,e1,(xA m s.nx w.heap.size 0 0).1];show(w.heap.push _)[w.heap.size]? = _;simp;have e1:=(fS s.nx (zN _)).1;simp only[ren,e1,(xA m s.nx w.heap.size 0 0).1]
 |slice t x lo hi mx=>simp only at h;rcases hx:evalO tm x with _|u;simp[hx]at h;rcases h1:oZ tm lo with _|l;simp[hx,h1]at h;rcases h2:oZ tm hi with _|hh;simp[hx,h1,h2]at h;rcases h3:oZ tm mx with _|mm;simp[hx,h1,h2,h3]at h;simp only[hx,h1,h2,h3]at h;exact dW (z0a hT hf (ha.evalO hx) (fun m' fS=>(MC (ha m' fS) h1).symm) (fun m' fS=>(MC (ha m' fS) h2).symm) (fun m' fS=>(MC (ha m' fS) h3).symm) h)
 |mapUpdate t q k x=>simp only at h;rcases h1:evalO tm q with _|u1;simp[h1]at h;rcases h2:evalO tm k with _|u2;simp[h1,h2]at h;rcases h3:evalO tm x with _|u3;simp[h1,h2,h3]at h;simp only[h1,h2,h3]at h;exact AM (qu6 hT hf (ha.evalO h1) (ha.evalO h2) (ha.evalO h3) h)
 |insert t q k x=>simp only at h;rcases h1:evalO tm q with _|u1;simp[h1]at h;rcases h2:evalO tm k with _|u2;simp[h1,h2]at h;rcases h3:evalO tm x with _|u3;simp[h1,h2,h3]at h;simp only[h1,h2,h3]at h;exact AM (qu6 hT hf (ha.evalO h1) (ha.evalO h2) (ha.evalO h3) h)
 |mapEntry t q k=>simp only at h;rcases h1:evalO tm q with _|u1;simp[h1]at h;rcases h2:evalO tm k with _|u2;simp[h1,h2]at h;simp only[h1,h2]at h;exact dW (qyn hT hf (ha.evalO h1) (ha.evalO h2) h)
 |entryStore t q k x=>simp only at h;rcases h1:evalO tm q with _|u1;simp[h1]at h;rcases h2:evalO tm k with _|u2;simp[h1,h2]at h;rcases h3:evalO tm x with _|u3;simp[h1,h2,h3]at h;simp only[h1,h2,h3]at h;exact AM (z2k hf (ha.evalO h1) (ha.evalO h2) (ha.evalO h3) h)
 |call c=>
  obtain⟨callee,args,ats⟩:=c;simp only at h;cases callee with
  |builtin b=>
   cases b with
   |append=>
    simp only at h;rcases hx:jP tm args.toList with _|vs;simp[hx]at h;rcases vs with _ |⟨x,_ |⟨y,_ |⟨z,l⟩⟩⟩;simp[hx]at h;simp[hx]at h;obtain⟨ats⟩:=ats;rcases ats with _ |⟨t,_ |⟨xt,_ |⟨q,r⟩⟩⟩;simp[hx]at h;simp[hx]at h;simp only[hx]at h;have e0:=sO (ha m (aJ.refl _ _)) hx;simp only[aE]at e0;have r1:eI m s.nx x (ren m x):=fun m' fS=>by have e1:=sO (ha m' fS) hx;rw[e0]at e1;simp only[aE]at e1;simp at e1;exact e1.1.symm
    have r2:eI m s.nx y (ren m y):=fun m' fS=>by have e1:=sO (ha m' fS) hx;rw[e0]at e1;simp only[aE]at e1;simp at e1;exact e1.2.symm
    obtain⟨aI,w₁,cv,g1,g2,g3⟩:=qvg hT hf (ty:=type) r1 r2 h;refine⟨aI,w₁,cv,.value cv,?_,.inl rfl,g2,g3⟩;simp only[execOp,zK,resolve,zL,zJ,invoke,builtin,e0];rw[g1];rfl;simp[hx]at h;simp[hx]at h
   |copy=>
    simp only at h;rcases hx:jP tm args.toList with _|vs;simp[hx]at h;rcases vs with _ |⟨x,_ |⟨y,_ |⟨z,l⟩⟩⟩;simp[hx]at h;simp[hx]at h;obtain⟨ats⟩:=ats;rcases ats with _ |⟨t,ts⟩;simp[hx]at h;simp only[hx]at h;have e0:=sO (ha m (aJ.refl _ _)) hx;simp only[aE]at e0;have r1:eI m s.nx x (ren m x):=fun m' fS=>by have e1:=sO (ha m' fS) hx;rw[e0]at e1;simp only[aE]at e1;simp at e1;exact e1.1.symm
    have r2:eI m s.nx y (ren m y):=fun m' fS=>by have e1:=sO (ha m' fS) hx;rw[e0]at e1;simp only[aE]at e1;simp at e1;exact e1.2.symm
    obtain⟨aI,w₁,cv,g1,g2,g3⟩:=aa hT hf (ty:=type) (ts:=ts) r1 r2 h;refine⟨aI,w₁,cv,.value cv,?_,.inl rfl,g2,g3⟩;simp only[execOp,zK,resolve,zL,zJ,invoke,builtin,e0];rw[g1];rfl;simp[hx]at h
   |delete=>
    simp only at h;rcases hx:jP tm args.toList with _|vs;simp[hx]at h;rcases vs with _ |⟨x,_ |⟨y,_ |⟨z,l⟩⟩⟩;simp[hx]at h;simp[hx]at h;obtain⟨ats⟩:=ats;rcases ats with _ |⟨t,ts⟩;simp[hx]at h;simp only[hx]at h;have e0:=sO (ha m (aJ.refl _ _)) hx;simp only[aE]at e0;have r1:eI m s.nx x (ren m x):=fun m' fS=>by have e1:=sO (ha m' fS) hx;rw[e0]at e1;simp only[aE]at e1;simp at e1;exact e1.1.symm
    have r2:eI m s.nx y (ren m y):=fun m' fS=>by have e1:=sO (ha m' fS) hx;rw[e0]at e1;simp only[aE]at e1;simp at e1;exact e1.2.symm
    obtain⟨aI,w₁,cv,g1,g2,g3⟩:=Bu hT hf (ty:=type) (ts:=ts) r1 r2 h;refine⟨aI,w₁,cv,.value cv,?_,.inl rfl,g2,g3⟩;simp only[execOp,zK,resolve,zL,zJ,invoke,builtin,e0];rw[g1];rfl;simp[hx]at h
   |clear=>
    simp only at h;rcases hx:jP tm args.toList with _|vs;simp[hx]at h;rcases vs with _ |⟨x,_ |⟨y,l⟩⟩;simp[hx]at h;obtain⟨ats⟩:=ats;rcases ats with _ |⟨t,ts⟩;simp[hx]at h;simp only[hx]at h;have e0:=sO (ha m (aJ.refl _ _)) hx;simp only[aE]at e0;have r1:eI m s.nx x (ren m x):=fun m' fS=>by have e1:=sO (ha m' fS) hx;rw[e0]at e1;simp only[aE]at e1;simp at e1;exact e1.symm
    obtain⟨aI,w₁,cv,g1,g2,g3⟩:=z2a hT hf (ty:=type) (ts:=ts) r1 h;refine⟨aI,w₁,cv,.value cv,?_,.inl rfl,g2,g3⟩;simp only[execOp,zK,resolve,zL,zJ,invoke,builtin,e0];rw[g1];rfl;simp[hx]at h
   |_=>simp at h
  |_=>simp at h
 |_=>simp at h
end
def Er(P:Uz)(call:E4):Prop :=
 ∀f args s v bE,call f args s=some (v,bE)->∀m w cargs,fN m s w->mU m s.nx args cargs->
  Calls P f cargs.toArray w fun e w₁=>∃aI cv,e=.returned cv/\bQ m s w aI bE w₁/\eI aI bE.nx v cv
section
variable{P:Uz}{T:Tb}(hT:iK P T){call:E4}(hC:Er P call)
include hT
def qoy(ha:y8 m n tm a)(o:Oper)(w:Tz){f:FuncId}{args:Z A}(h:callOf T tm o.op=some (f,args)):
  ∃cargs,(execOp a.eval o).run P w=.ok (.enter f cargs.toArray) w/\mU m n args cargs:=by
 obtain⟨dst,op,type,pos,after,guard⟩:=o;simp only at h;unfold callOf at h;cases op with
 |call c=>
  obtain⟨callee,a7,ats⟩:=c;simp only at h;cases callee with
  |value g=>
   simp only at h;rcases hg:evalO tm g with _|u;simp[hg]at h;cases u with
   |func fn first cap=>
    cases fn with
    |func k=>
     simp only[hg]at h;rcases hk:T.fn k with _|fn;simp[hk]at h;simp only[hk]at h;rcases hb:fn.body.isSome with _|_;simp[hb]at h;simp only[hb,zC]at h;rcases hl:jP tm a7.toList with _|vs;simp[hl]at h;simp only[hl,zA,zB]at h;obtain⟨rfl,rfl⟩:=h;obtain⟨Aj,Te⟩:=hT.fn k fn hk;obtain⟨first⟩:=first
     obtain⟨cap⟩:=cap;have e0:=kJ (ha m (aJ.refl _ _)) hg;have e1:=sO (ha m (aJ.refl _ _)) hl;refine⟨aE m first++aE m vs++aE m cap,?_,fun m' fS=>?_⟩;have hnb:fn.body.isNone=false:=by cases hbb:fn.body<;>simp_all
     simp only[ren,kS]at e0;simp only[execOp,zK,resolve,e0,e1,Deferred.ofValue,zL,zJ,invoke,callFunc,run_program,Aj,Te hb,hnb,Bool.false_eq_true,if_false];simp;have Bs:=kJ (ha m' fS) hg;have Br:=sO (ha m' fS) hl;rw[e0]at Bs;rw[e1]at Br;simp only[ren,kS]at Bs;simp at Bs Br;rw[K3,K3,Bs.1,Bs.2,Br]
    |_=>simp[hg]at h
   |_=>simp[hg]at h
  |_=>simp at h
 |_=>simp at h
include hC
def RB{s:S}{w:Tz}(hf:fN m s w)(ha:y8 m s.nx tm a)(o:Oper){bE:S}(h:xG T call tm s o.op=some (v,bE))
  {next:Act->Tz->Prop} {Q:Exit->Act->Tz->Prop} (hn:∀aI w₁ cv,bQ m s w aI bE w₁->eI aI bE.nx v cv->next (a.put o.dst cv) w₁):o.wp P a w next Q:=by
 unfold xG at h;unfold Oper.wp;cases h1:gT T tm o.op with
 |some u=>simp only[h1,zA,zB]at h;obtain⟨rfl,rfl⟩:=h;have cG:=fun m' fS=>z84 hT m' w (ha m' fS) o h1;rw[cG m (aJ.refl _ _)];refine hn m w _ (bQ.refl hf) fun m' fS=>?_;have e1:=cG m' fS;rw[cG m (aJ.refl _ _)]at e1;simp at e1;exact e1.symm
 |none=>
  simp only[h1]at h;cases h2:mL T tm s o.op with
  |some u=>simp only[h2,zA,zB]at h;obtain⟨rfl,rfl⟩:=h;have cG:=fun m' fS=>tf hT m' w (hf m' fS) (ha m' fS) o h2;rw[cG m (aJ.refl _ _)];refine hn m w _ (bQ.refl hf) fun m' fS=>?_;have e1:=cG m' fS;rw[cG m (aJ.refl _ _)]at e1;simp at e1;exact e1.symm
  |none=>
   simp only[h2]at h;cases h3:qS T tm s o.op with
   |some r=>simp only[h3,zA]at h;subst h;obtain⟨aI,w₁,cv,nxt,g1,g2,g3,g4⟩:=Bq hT hf ha o h3;rw[g1];rcases g2 with rfl |⟨rfl,rfl⟩;exact hn aI w₁ cv g3 g4;exact hn aI w₁ undef g3 g4
   |none=>simp only[h3]at h;rcases h4:callOf T tm o.op with _|q;simp[h4]at h;obtain⟨f,args⟩:=q;simp only[h4]at h;obtain⟨cargs,g1,g2⟩:=qoy hT ha o w h4;rw[g1];show Calls P f _ w _;refine(hC f args s v bE h m w cargs hf g2).mono ?_;rintro e w₁ ⟨aI,cv,rfl,g3,g4⟩;exact hn aI w₁ cv g3 g4
omit hC hT in
def fe{m:Nm}{tm:Z A}{a:Act}(ha:a.tmps=⟨aE m tm⟩)(aA:Bo Oper)(o:Oper):Region.wanted o (yielded aA a.tmps)=Lz aA.toList tm o:=by
 unfold Region.wanted Lz;rcases o.guard with _|g;rfl;obtain⟨j,want⟩:=g;simp only[yielded,yE,i9,ha];have hj:aA.toList[j]? = aA[j]?:=by simp
 rw[hj];rcases aA[j]? with _|q;simp;simp only[Option.bind_some];rcases hd:q.dst with _|d;simp;simp only[Option.bind_some,List.getElem?_toArray,lD,List.getElem?_map];rcases tm[d]? with _|v;simp;simp only[zM];cases v with
 |pointer p=>cases p<;>simp[ren]|slice p n c=>cases p<;>simp[ren]
 |map r=>cases r<;>simp[ren]|chan r=>cases r<;>simp[ren]
 |bool b=>simp[ren]|_=>simp[ren]
end
def K1{b c:BQ}(h:cond b c false=true):b=true/\c=true:=by cases b<;>simp_all
def qw0{l:Z Jp}{t:Tmp}(h : .tmp t∈l):t∈tmpsOf l:=by induction l with|nil=>simp at h|cons x l ih=>rcases zI.1 h with rfl |h2;simp[tmpsOf];cases x<;>simp[tmpsOf,ih h2]
section
variable{T:Tb}{tm tm':Z A}{op:Op}
end
variable{k:Nat}
def qyo{aY:Z Nat}{es:Z Edge}(h:(LL aY es).testBit k=true):∃e∈es,Region.binds .any e=true/\(k=e.on\/∃x,aY[e.on]? = some x/\x.testBit k=true):=by
 induction es with
 |nil=>simp[LL]at h|cons e es ih=>
  simp only[LL,i9]at h;cases hb:Region.binds .any e with
  |false=>simp only[hb,zD]at h;obtain⟨e',h1,h2⟩:=ih h;exact⟨e',by simp[h1],h2⟩
  |true=>simp only[hb,zC,Nat.testBit_or,Bool.or_eq_true]at h;rcases h with(h |h)|h;refine⟨e,by simp,hb,.inl ?_⟩;rw[Nat.testBit_two_pow]at h;simpa using(of_decide_eq_true h).symm;refine⟨e,by simp,hb,.inr ?_⟩;rcases hx:aY[e.on]? with _|x;simp[hx]at h;simp only[hx]at h;exact⟨x,rfl,h⟩;obtain⟨e',h1,h2⟩:=ih h;exact⟨e',by simp[h1],h2⟩
def fm:∀(l:Z Oper)(aY:Z Nat),(dN l aY).length=aY.length+l.length/\(dN l aY).take aY.length=aY/\
  ∀i o,l[i]? = some o->(dN l aY)[aY.length+i]? = some (LL ((dN l aY).take (aY.length+i)) o.after.toList)
 |[],aY=>by simp[dN]
 |o::l,aY=>by
  obtain⟨h1,h2,h3⟩:=fm l (aY++[LL aY o.after.toList]);simp only[dN];refine⟨by rw[h1];simp;omega,?_,fun i q hq=>?_⟩;have:=congrArg (List.take aY.length) h2;rw[List.take_take]at this;simpa using this;cases i with
  |zero=>
   simp only[List.getElem?_cons_zero,zA]at hq;subst hq;have e1:(dN l (aY++[LL aY o.after.toList])).take aY.length=aY:=by have:=congrArg (List.take aY.length) h2;rw[List.take_take]at this;simpa using this
   rw[Nat.add_zero,e1];have:=congrArg (fun z=>z[aY.length]?) h2;simp only[List.getElem?_take]at this;simpa using this
  |succ i=>simp only[zH]at hq;have:=h3 i q hq;simp only[zU,zO,zS]at this;rw[show aY.length+(i+1)=aY.length+(0+1)+i by omega];exact this
section
variable(aA:Z Oper)
def Pre(i k:Nat):Prop:=∃x,(dN aA [])[i]? = some x/\x.testBit k=true
variable{i:Nat}
def tn(h:Pre aA i k):∃o e,aA[i]? = some o/\e∈o.after.toList/\Region.binds .any e=true/\(k=e.on\/Pre aA e.on k):=by
 obtain⟨x,h1,h2⟩:=h;obtain⟨g1,_,g3⟩:=fm aA [];have hi:i<aA.length:=by have:=(zG.1 h1).1;simp at g1;omega
 have ho:aA[i]? = some aA[i]:=by simp[hi]
 have:=g3 i _ ho;simp only[zS,Nat.zero_add]at this;rw[h1]at this;simp only[zA]at this;rw[this]at h2;obtain⟨e,he,hb,hk⟩:=qyo h2;refine⟨_,e,ho,he,hb,?_⟩;rcases hk with hk |⟨y,hy,hyk⟩;exact .inl hk;refine .inr ⟨y,?_,hyk⟩;rw[List.getElem?_take]at hy;split at hy;exact hy;cases hy
def z3f{es:Z Edge}(h:CE i es=true):∀e∈es,Region.binds .any e=true->e.on<i:=by
 induction es with
 |nil=>simp|cons e es ih=>
  simp only[CE]at h;intro e' xP bV;cases hb:Region.binds .any e with
  |false=>simp only[hb,zD]at h;rcases zI.1 xP with rfl |xP;rw[hb]at bV;cases bV;exact ih h e' xP bV
  |true=>simp only[hb,zC]at h;obtain⟨h1,h2⟩:=K1 h;rcases zI.1 xP with rfl |xP;exact G1 h1;exact ih h2 e' xP bV
def qqr{lk:Z Tmp}{di:I Tmp}{i mi:Nat}:∀(l:Z Oper)(ms:Z Nat)(b:Nat),rowOk lk di i mi l ms b=true->∀j o,l[j]? = some o->∃mk,ms[j]? = some mk/\gl lk di i mi (b+j) mk o.dst=true
 |[],_,_,_=>fun j o h=>by simp at h
 |o::l,[],b,h=>by simp[rowOk]at h
 |o::l,mk::ms,b,h=>fun j q hq=>by
  simp only[rowOk]at h;obtain⟨h1,h2⟩:=K1 h;cases j with
  |zero=>simp at hq;subst hq;exact⟨mk,rfl,h1⟩|succ j=>simp only[zH]at hq;obtain⟨mk',g1,g2⟩:=qqr l ms (b+1) h2 j q hq;exact⟨mk',by simpa using g1,by rw[show b+(j+1)=b+1+j by omega];exact g2⟩
def ij{ms:Z Nat}:∀(l:Z Oper)(mr:Z Nat)(b:Nat),Lc aA ms l mr b=true->∀j o,l[j]? = some o->∃mi,mr[j]? = some mi/\CE (b+j) o.after.toList=true/\rowOk (LP aA o) o.dst (b+j) mi aA ms 0=true
 |[],_,_,_=>fun j o h=>by simp at h
 |o::l,[],b,h=>by simp[Lc]at h
 |o::l,mi::mr,b,h=>fun j q hq=>by
  simp only[Lc]at h;obtain⟨h1,h2⟩:=K1 h;obtain⟨h2,h3⟩:=K1 h2;cases j with
  |zero=>simp at hq;subst hq;exact⟨mi,rfl,h1,h2⟩|succ j=>simp only[zH]at hq;obtain⟨mi',g1,g2,g3⟩:=ij l mr (b+1) h3 j q hq;refine⟨mi',by simpa using g1,?_,?_⟩;rw[show b+(j+1)=b+1+j by omega];exact g2;rw[show b+(j+1)=b+1+j by omega];exact g3
variable{aA}(c9:WY aA=true)
include c9
def uh{o:Oper}(ho:aA[i]? = some o):∀e∈o.after.toList,Region.binds .any e=true->e.on<i:=by obtain⟨_,_,h2,_⟩:=ij aA aA _ 0 c9 i o ho;rw[Nat.zero_add]at h2;exact z3f h2
def z0h{o q:Oper}(ho:aA[i]? = some o)(hq:aA[k]? = some q)(NR:i≠k){d:Tmp}(hd:q.dst=some d):o.dst≠some d/\(d∈LP aA o->Pre aA i k\/Pre aA k i):=by
 obtain⟨mi,h1,_,h3⟩:=ij aA aA _ 0 c9 i o ho;obtain⟨mk,h4,h5⟩:=qqr aA _ 0 h3 k q hq;simp only[Nat.zero_add,gl,hd,beq_eq,NR,yB,zD]at h5;have tail:(cond ((LP aA o).any (Nat.beq d)) (cond (mi.testBit k) true (mk.testBit i)) true=true)->d∈LP aA o->Pre aA i k\/Pre aA k i:=fun h6 hl=>by have P?:(LP aA o).any (Nat.beq d)=true:=List.any_eq_true.2 ⟨d,hl,by simp⟩;rw[P?]at h6;simp only[zC]at h6;rcases hb:mi.testBit k with _|_;simp only[hb,zD]at h6;exact .inr ⟨mk,h4,h6⟩;exact .inl ⟨mi,h1,hb⟩
 cases hod:o.dst with|none=>simp only[hod,zD]at h5;exact⟨by simp,tail h5⟩|some d'=>simp only[hod]at h5;by_cases e:d=d';simp[e]at h5;simp only[e,yB,zD]at h5;exact⟨by simpa using fun x=>e x.symm,tail h5⟩
def z5x:∀(i k:Nat),Pre aA i k->k<i:=by
 intro i;induction i using Nat.strongRecOn with
 |_ i ih=>intro k h;obtain⟨o,e,h1,h2,h3,h4⟩:=tn aA h;have aH:=uh c9 h1 e h2 h3;rcases h4 with rfl |h4;exact aH;exact Nat.lt_trans (ih e.on aH k h4) aH
def Closed(aA:Z Oper)(L:Nat->Prop):Prop:=∀i o,L i->aA[i]? = some o->∀e∈o.after.toList,Region.binds .any e=true->L e.on
def iu{L:Nat->Prop}(hL:Closed aA L):∀(i k:Nat),L i->Pre aA i k->L k:=by
 intro i;induction i using Nat.strongRecOn with
 |_ i ih=>intro k hi h;obtain⟨o,e,h1,h2,h3,h4⟩:=tn aA h;have aH:=uh c9 h1 e h2 h3;have he:=hL i o hi h1 e h2 h3;rcases h4 with rfl |h4;exact he;exact ih e.on aH k he h4
def qi{L:Nat->Prop}(hL:Closed aA L)(hi:∀o,aA[i]? = some o->∀e∈o.after.toList,Region.binds .any e=true->L e.on)(h:Pre aA i k):L k:=by obtain⟨o,e,h1,h2,h3,h4⟩:=tn aA h;have he:=hi o h1 e h2 h3;rcases h4 with rfl |h4;exact he;exact iu c9 hL e.on k he h4
end
section
variable{P:Uz}{T:Tb}(hT:iK P T){call:E4}(hC:Er P call)(aA:Bo Oper){tm₀:Z A}{pw:S}{rs:Z Rec}{tm':Z A}{s':S}
 (iQ:z6b T call aA.toList aA.toList tm₀ pw=some (rs,tm',s')) (c9:WY aA.toList=true) (hrs:z64 T rs (dN aA.toList []) rs (dN aA.toList []) 0=true)
include iQ c9
include hT hC hrs
end
section
variable{P:Uz}{T:Tb}(hT:iK P T){call:E4}(hC:Er P call)
include hT hC
end
def XX(n:Nat)(l:Z A):pad n l=l++List.replicate (n-l.length) undef:=by induction n generalizing l with|zero=>simp[pad]|succ n ih=>rcases l with _|⟨v,l⟩;simp[pad,ih,List.replicate_succ];simp[pad,ih]
section
variable{P:Uz}{T:Tb}(hT:iK P T)
include hT
def uz{m:Nm}{s:S}{w:Tz}(hf:Fits m s w){tm:Z A}(F:ResultVar->Sem A)(hF1:∀t,F (.tmp t)=pure ((⟨aE m tm⟩:Bo A).getD t undef))
  (Z?:∀a t,F (.cell a t)=(do loadVar t (<-asAddr ((⟨aE m tm⟩:Bo A).getD a undef)))):∀(rs:Z ResultVar)(vs:Z A),DS T tm s rs=some vs->(rs.mapM F).run P w=.ok (aE m vs) w
 |[],vs,h=>by simp[DS]at h;subst h;simp[aE]
 |.tmp t::rs,vs,h=>by
  simp only[DS,i9]at h;rcases ht:tm[t]? with _|v;simp[ht]at h;simp only[ht]at h;rcases hr:DS T tm s rs with _|l;simp[hr]at h;simp only[hr,zA]at h;subst h;have ih:=uz hf F hF1 Z? rs l hr;have e1:(⟨aE m tm⟩:Bo A).getD t undef=ren m v:=by simp[lD,ht]
  simp only[List.mapM_cons,zK,hF1,zL,zJ,ih,e1,aE]
 |.cell a t::rs,vs,h=>by
  simp only[DS]at h;rcases ht:mL T tm s (.load t (.tmp a))with _|v;simp[ht]at h;simp only[ht]at h;rcases hr:DS T tm s rs with _|l;simp[hr]at h;simp only[hr,zA]at h;subst h;have ih:=uz hf F hF1 Z? rs l hr;simp only[mL,evalO]at ht;rcases KQ:nth tm a with _|u;simp[KQ]at ht;cases u with
  |pointer p=>
   rcases p with _|q;simp[KQ]at ht;simp only[KQ]at ht;rcases hl:lk s.h q.block with _|blk;simp[hl]at ht;rcases blk with⟨l',e,md⟩|x;simp only[hl]at ht;have Th:=qyk hT m w hf hl ht;rw[i9]at KQ;have e1:(⟨aE m tm⟩:Bo A).getD a undef=.pointer (some ⟨m.blk q.block,m.sh q.block+q.off,none⟩):=by simp[lD,KQ,ren]
   simp only[List.mapM_cons,zK,Z?,e1,asAddr,zL,zJ,Th,ih,aE];simp[hl]at ht
  |_=>simp[KQ]at ht
def qwa{m:Nm}{s:S}{w:Tz}(hf:Fits m s w){tm:Z A}{fn:Func}{vs:Z A}(h:DS T tm s fn.results.toList=some vs):
  (results fn ⟨aE m tm⟩).run P w=.ok (ren m (DV vs)) w:=by unfold results;rw[zK,Array.mapM_eq_mapM_toList,Sem.run_map,uz hT hf _ (fun t=>rfl) (fun a t=>rfl) fn.results.toList vs h];simp only[zJ,zL];congr 1;rcases vs with _ |⟨v,_ |⟨u,l⟩⟩;simp[aE,DV,ren];simp[aE,DV];simp[aE,DV,ren]
end
def T'(P:Uz)(t:O):P.info? t=P.types[t]? \/P.types[t]? = none:=by by_cases h:t<P.types.size;exact .inl (by unfold Tables.info?;rw[if_pos h]);exact .inr (Array.getElem?_eq_none (Nat.le_of_not_lt h))
def z8l (P : Uz) (eqs : Z O) (hm : P.follows .mixedOrders = true) (hn : ∀ f ∈ P.funcs.toList, f.body.isSome = true → (f.name == "runtime.NumGoroutine") = false)
  (he:∀t∈eqs,P.stoodInHeld t=false/\P.eqGuardType P.depth t=false):iK P (BP P eqs) where
 und t d h:=by
  simp only[BP,i9]at h;rcases ht:P.types.toList[t]? with _|i;simp[ht]at h;have hi:P.info? t=some i:=by
   have qY:P.types[t]? = some i:=by simpa using ht
   rcases T' P t with h1 |h1;rw[h1,qY];rw[h1]at qY;cases qY
  simp only[ht]at h;unfold Program.underlying;rw[hi];obtain⟨desc,s1,s2,s3,s4,s5,s6,s7,s8,s9⟩:=i;cases desc with
  |named nm u=>
   simp only at h ⊢;rcases hu:P.types.toList[u]? with _|j;simp[hu]at h;have hj:P.info? u=some j:=by
    have NG:P.types[u]? = some j:=by simpa using hu
    rcases T' P u with h1 |h1;rw[h1,NG];rw[h1]at NG;cases NG
   simp only[hu,zA]at h;rw[hj];simp[h]
  |_=>simpa using h
 inf t a b z h:=by
  simp only[BP,i9]at h;rcases ht:P.types.toList[t]? with _|i;simp[ht]at h;have hi:P.info? t=some i:=by
   have qY:P.types[t]? = some i:=by simpa using ht
   rcases T' P t with h1 |h1;rw[h1,qY];rw[h1]at qY;cases qY
  simp only[ht]at h;rcases hz:i.zero with _|z';simp[hz]at h;simp only[hz]at h;rcases hp:plain z' with _|_;simp[hp]at h;simp only[hp,zC,zA,zB]at h;obtain⟨rfl,rfl,rfl⟩:=h;exact⟨hp,i,hi,rfl,rfl,hz⟩
 fn f g h:=by
  simp only[BP,i9]at h;have h':P.funcs[f]? = some g:=by simpa using h
  exact⟨h',hn g (zX h)⟩
 eqs t h:=by
  simp only[BP]at h;obtain⟨u,hu,e⟩:=List.any_eq_true.1 h;have:t=u:=by simpa[beq_eq]using e
  subst this;exact he t hu
 mixed:=hm
end Go.Rx
