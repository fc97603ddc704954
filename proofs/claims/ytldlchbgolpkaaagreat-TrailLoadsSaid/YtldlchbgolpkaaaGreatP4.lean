import Derived.Laws.Append
import Derived.Test.YtldlchbgolpkaaaGreatP3
set_option linter.all false
namespace Go.Rx
open Go
def Eff(P:H0)(m:Nm)(s:S)(w:PL)(x:Sem O)(v:O)(bI:S):Prop :=
 ∃aK w₁ cv,x.run P w=.ok cv w₁/\bG m s w aK bI w₁/\eT aK bI.nx v cv
def Q3(P:H0)(m:Nm)(s:S)(w:PL)(x:Sem Unit)(bI:S):Prop :=
 ∃aK w₁,x.run P w=.ok () w₁/\bG m s w aK bI w₁
def eT.cells{m:Nm}{n:Nat}{v cv:O}(h:eT m n v cv):n7 m n v.cells.toList cv.cells.toList:=fun m' ha=>by
 rw[<-h m' ha,jp,lZ]
variable{m:Nm}
variable{n:Nat}
variable{l:V O}
def ju(h:∀m',aE m' l=l):n7 m n l l:=fun m' _=>h m'
variable{v:O}
def B7(h:∀m',ren m' v=v):eT m n v v:=fun m' _=>h m'
def n7.append{a b ca cb:V O}(h:n7 m n a ca)(h':n7 m n b cb):n7 m n (a++b) (ca++cb):=fun m' ha=>by
 rw[x3,h m' ha,h' m' ha]
def DU(m:Nm)(i b sh cp:Nat):(m.set i b sh cp).blk i=b/\(m.set i b sh cp).sh i=sh/\(m.set i b sh cp).cp i=cp:=by simp[Nm.set]
variable{s:S}
def z1e(b sh cp n:Nat)(hn:s.nx<n):eT (m.set s.nx b sh cp) n (.pointer (some ⟨s.nx,0,none⟩)) (.pointer (some ⟨b,sh,none⟩)):=fun m' ha=>by
 have⟨h1,h2,_⟩:=ha s.nx hn;have⟨e1,e2,_⟩:=DU m s.nx b sh cp;simp[ren,h1,h2,e1,e2]
variable{w:PL}
def wo(hf:fY m s w){cl:V O}(hl:n7 m s.nx l cl)(e:TypeId)(cp:Nat):
  bG m s w (m.set s.nx w.heap.size 0 cp) (newRow s l e 0) (w.alloc (.cells ⟨cl⟩ e)):=by refine bG.alloc hf _ _ cp fun m' ha=>?_;have qP:aI s.nx m m':=(Nm.agree_set m s.nx w.heap.size 0 cp).trans ha (Nat.le_succ _);have⟨h1,h2,_⟩:=ha s.nx (zN _);have⟨e1,e2,_⟩:=DU m s.nx w.heap.size 0 cp;refine⟨by rw[h2,e2],?_⟩;rw[h1,e1,hl m' qP];show(w.heap.push _)[w.heap.size]? = _;simp
def yf(hf:fY m s w){cl rest:V O}(hl:n7 m s.nx l cl)(e:TypeId)(cp sz:Nat)(aZ:l.length+rest.length=cp*sz):
  bG m s w (m.set s.nx w.heap.size 0 cp) (newRow s l e (sz+2)) (w.alloc (.cells ⟨cl++rest⟩ e)):=by refine bG.alloc hf _ _ cp fun m' ha=>?_;have qP:aI s.nx m m':=(Nm.agree_set m s.nx w.heap.size 0 cp).trans ha (Nat.le_succ _);have⟨h1,h2,h3⟩:=ha s.nx (zN _);have⟨e1,e2,e3⟩:=DU m s.nx w.heap.size 0 cp;refine⟨[],rest,?_,by simp[h2,e2],by rw[h3,e3,aZ]⟩;rw[h1,e1,hl m' qP];show(w.heap.push _)[w.heap.size]? = _;simp
def fm{e:TypeId}{md:Nat}(h:md≠1):Own (.inl (l,e,md))=true:=by rcases md with _ |_ |n<;>simp_all[Own]
def jb{P:H0}(hf:fY m s w){i off:Nat}{l' vs nH:V O}{e:TypeId}{md:Nat}(hr:cY s i=some (l,e,md))(hp:uC l off vs=some l')
  (hv:n7 m s.nx vs nH) (h1:tI vs=true):
  ∃w₁,(storeCells ⟨m.blk i,m.sh i+off,none⟩ nH 0).run P w=.ok () w₁/\bG m s w m ⟨up s.h i (.inl (l',e,md)),s.nx⟩ w₁:=by
 have⟨hl,qM⟩:=ky hr;have⟨aZ,BK⟩:=qwt hp;have A5:∀v∈nH,v.oneCell'=true:=by rw[<-hv.at];exact qsd h1
 have eZ:nH.length=vs.length:=by rw[<-hv.at];simp
 rcases md with _ |_ |n;have h0:∀m',aI s.nx m m'->m'.sh i=0/\w.heap[m'.blk i]? = some (.cells (aE m' l).toArray e (0,0)):=fun m' ha=>(hf m' ha).ok i _ hl
 obtain⟨pc,hb⟩:=h0 m (aI.refl _ _);have cK:=run_storeCells_at P (m.blk i) off e nH 0 _ w hb (by simp;omega) A5;simp only[Nat.add_zero]at cK;rw[pc,Nat.zero_add];refine⟨_,cK,bG.write hf hl (fm qM) (fun k hk=>setRow_other w _ k _ hk) (by simp) rfl rfl rfl (zF _) fun m' ha=>?_⟩;obtain⟨hsh',cP⟩:=h0 m' ha;have AG:m'.blk i=m.blk i:=(ha i ((hf.fits).bd i _ hl)).1;refine⟨hsh',?_⟩;rw[AG,setRow_heap w _ _ _ e (0,0) hb];rw[AG]at cP;have wC:aE m' l=aE m l:=by have:=hb.symm.trans cP;simp at this;exact this.symm
 rw[BK,x3,x3,hv m' ha];have e1:aE m' (l.take off)=(aE m l).take off:=by rw[<-wC];simp[kE,List.map_take]
 have e2:aE m' (l.drop (off+vs.length))=(aE m l).drop (off+nH.length):=by rw[<-wC,eZ];simp[kE,List.map_drop]
 rw[e1,e2];exact absurd rfl qM;have h0:∀m',aI s.nx m m'->∃pr rest,w.heap[m'.blk i]? = some (.cells (pr++aE m' l++rest).toArray e (0,0))/\pr.length=m'.sh i/\l.length+rest.length=m'.cp i*n:=fun m' ha=>(hf m' ha).ok i _ hl;have⟨pr,rest,hb,CN,E7⟩:=h0 m (aI.refl _ _);have cK:=run_storeCells_at P (m.blk i) (m.sh i+off) e nH 0 _ w hb (by simp;omega) A5;simp[Nat.add_zero]at cK;refine⟨_,cK,bG.write hf hl (fm qM) (fun k hk=>setRow_other w _ k _ hk) (by simp) rfl rfl rfl (zF _) fun m' ha=>?_⟩;have⟨pr',IQ,cP,hpr',hrest'⟩:=h0 m' ha;have⟨AG,Ja,pu⟩:=ha i ((hf.fits).bd i _ hl);rw[AG]at cP;have cU:pr'++aE m' l++IQ=pr++aE m l++rest:=by have:=hb.symm.trans cP;simp at this;simpa using this.symm
 have Uu:pr'=pr/\aE m' l=aE m l/\IQ=rest:=by rw[zT,zT]at cU;have⟨e1,e2⟩:=List.append_inj cU (by rw[hpr',CN,Ja]);have⟨e3,e4⟩:=List.append_inj e2 (by simp);exact⟨e1,e3,e4⟩
 refine⟨pr,rest,?_,by rw[Ja,CN],?_⟩;rw[AG,setRow_heap w _ _ _ e (0,0) hb];rw[BK,x3,x3,hv m' ha];have e1:aE m' (l.take off)=(aE m l).take off:=by rw[<-Uu.2.1];simp[kE,List.map_take]
 have e2:aE m' (l.drop (off+vs.length))=(aE m l).drop (off+nH.length):=by rw[<-Uu.2.1,eZ];simp[kE,List.map_drop]
 rw[e1,e2];congr 2;simp[zT];rw[<-CN,List.take_append,zW (by omega),Nat.add_sub_cancel_left,List.take_append_of_le_length (by simp;omega)];rw[List.drop_append,List.drop_of_length_le (by omega),List.nil_append,show pr.length+off+nH.length-pr.length=off+nH.length by omega,List.drop_append_of_le_length (by simp;omega)];simp;rw[pu,<-E7,BK];simp;omega
section
variable{P:H0}{T:Tb}(hT:kT P T){m:Nm}{s:S}{w:PL}(hf:fY m s w)
include hT hf
def zar{t:TypeId}{p cp cv u:O}{bI:S}(hp:eT m s.nx p cp)(hv:eT m s.nx v cv)(h:Ex T s t p v=some (u,bI)):
  Q3 P m s w (Instr.storeAt t cp cv) bI/\u=undef:=by
 unfold Ex at h;cases p with
 |pointer q=>
  rcases q with _|a;simp at h;simp only[beq_eq]at h;rcases hs:cT T t with _|n;simp[hs]at h;simp only[hs]at h;by_cases hn:v.cells.toList.length=n;simp only[hn,yC,zC]at h;rcases h1:tI v.cells.toList with _|_;simp[h1]at h;simp only[h1,zC]at h;rcases hr:cY s a.block with _|r;simp[hr]at h;obtain⟨l,e,md⟩:=r;simp only[hr]at h;rcases hq:uC l a.off v.cells.toList with _|l';simp[hq]at h;simp only[hq,zA,zB]at h;obtain⟨rfl,rfl⟩:=h;refine⟨?_,rfl⟩;obtain⟨w₁,cR,aS⟩:=jb (P:=P) hf hr hq hv.cells h1;refine⟨m,w₁,?_,aS⟩;have Wa:cp=.pointer (some ⟨m.blk a.block,m.sh a.block+a.off,none⟩):=by rw[<-hp.at];simp[ren]
  have dU:cv.cells.size=n:=by
   have:cv.cells.toList.length=n:=by rw[<-hv.cells.at];simpa using hn
   simpa using this
  subst Wa;simp[Instr.storeAt,Instr.sureAddr,storeVar,o8 hT w hs,dU,cR];simp only[hn,yB,zD]at h;cases h
 |_=>simp at h
omit hT hf in
def Nj(z:H2 O)(n:Nat):(Array.range (n*z.size)).map (fun i=>z[i%z.size]!)=⟨cC z.toList n⟩:=by
 apply Array.ext';simp[Array.toList_map,Array.toList_range];rcases Nat.eq_zero_or_pos z.size with h0 |gA;have hz:z= #[]:=by simpa using h0
 subst hz;induction n with
 |zero=>simp[cC]|succ n ih=>simp[cC]at ih ⊢;exact ih
 induction n with
 |zero=>simp[cC]|succ n ih=>
  have e:(n+1)*z.size=z.size+n*z.size:=by rw[Nat.add_mul];omega
  rw[e,List.range_add,List.map_append,cC,<-ih];congr 1;apply List.ext_getElem?;intro i;by_cases hi:i<z.size;simp[hi,Nat.mod_eq_of_lt hi];simp[hi];rw[List.map_map];apply List.map_congr_left;intro i _;simp
omit hT hf in
def xz(z:V O)(n:Nat):(cC z n).length=n*z.length:=by induction n with|zero=>simp[cC]|succ n ih=>simp[cC,ih,Nat.add_mul];omega
omit hT hf in
def Oe{z:V O}(h:∀m',aE m' z=z)(n:Nat)(m':Nm):aE m' (cC z n)=cC z n:=by induction n with|zero=>simp[cC,aE]|succ n ih=>simp[cC,x3,ih,h]
omit hf in
def Gp{t:TypeId}{x:Nat×Nat×O}(h:T.inf t=some x)(m':Nm):aE m' x.2.2.cells.toList=x.2.2.cells.toList:=by have:=(J4 hT m' default h).2;rw[<-lZ,<-jp,this]
omit hT hf in
def S0{b sh cp n len c c':Nat}(hn:s.nx<n)(hc:∀m',aI n (m.set s.nx b sh cp) m'->bX m' s.nx c=c'):
  eT (m.set s.nx b sh cp) n (.slice (some ⟨s.nx,0,none⟩) len c) (.slice (some ⟨b,sh,none⟩) len c'):=fun m' ha=>by
 have⟨h1,h2,_⟩:=ha s.nx hn;have⟨e1,e2,_⟩:=DU m s.nx b sh cp;simp[ren,h1,h2,e1,e2,hc m' ha]
def qyk{t:TypeId}{ps:V (Nat×O)}{bI:S}{cps:V (Nat×O)}(hps:∀m',aI s.nx m m'->ps.map (fun p=>(p.1,ren m' p.2))=cps)
  (h:Oh T s t n ps=some (v,bI)):Eff P m s w (Instr.buildSlice t n cps.toArray) v bI:=by
 unfold Oh at h;rcases hd:T.und t with _|d;simp[hd]at h;cases d with
 |slice e=>
  simp only[hd]at h;rcases hi:T.inf e with _|x;simp[hi]at h;obtain⟨sz,by_,z⟩:=x;have dU:cT T e=some sz:=by simp[cT,hi]
  have hz:=fun m'=>J4 hT m' w hi;have w9:=Gp hT hi;simp only at hz w9;simp only[hi,beq_eq]at h;rcases h1:Nat.ble (n*sz) 16777216 with _|_
  simp[h1]at h;simp only[h1,zC]at h;have y6:n*sz<=16777216:=by simpa[Nat.ble_eq]using h1
  by_cases h2:z.cells.toList.length=sz;simp only[h2,yC,zC]at h;rcases h3:F4 (fun i=>some (i*sz,sz)) (cC z.cells.toList n) ps with _|cs;simp[h3]at h;rcases h4:Nat.blt n bY with _|_;simp[h3,h4]at h;have h4':n<bY:=by simpa[Nat.blt_eq]using h4
  simp only[h3,h4,zC,zA,zB]at h;obtain⟨rfl,rfl⟩:=h;have mF:∀m',aI s.nx m m'->Instr.fill (fun i=>some (i*sz,sz)) ⟨cC z.cells.toList n⟩ cps=some ⟨aE m' cs⟩:=fun m' ha=>by have:=Nh m' _ ps _ _ h3;rw[hps m' ha,Oe w9]at this;exact this
  obtain⟨cl,eZ⟩:∃cl,n7 m s.nx cs cl:=⟨aE m cs,fun m' ha=>by have e1:=mF m' ha;have e2:=mF m (aI.refl _ _);rw[e1]at e2;simpa using e2⟩;have iE:z.cells.size=sz:=by simpa using h2
  refine⟨_,_,.slice (some ⟨w.heap.size,0,none⟩) n n,?_,wo hf eZ e 0,?_⟩;have g9:(Array.range (n*sz)).map (fun i=>(if n*sz=0 then(#[]:H2 O)else z.cells)[i%(if n*sz=0 then(#[]:H2 O)else z.cells).size]!)=⟨cC z.cells.toList n⟩:=by
   by_cases h0:n*sz=0;rw[h0];apply Array.ext';have:(cC z.cells.toList n).length=0:=by rw[xz,h2,h0]
   simp[List.length_eq_zero_iff.1 this];simp only[if_neg h0];have:=Nj z.cells n;rw[iE]at this;rw[<-this];simp[iE]
  have TY:=mF m (aI.refl _ _);rw[eZ.at]at TY;have hnot:¬ n*sz>2^24:=by omega
  have P0:=(hz m).1;by_cases h0:n*sz=0;simp only[if_pos h0]at g9;simp only[Instr.buildSlice,zK,iK hT w hd,zJ,o8 hT w dU,Sem.run_ite,if_neg hnot,zL,if_pos h0];rw[g9,TY];simp[Go.newRow];simp only[if_neg h0]at g9;simp only[Instr.buildSlice,zK,iK hT w hd,zJ,o8 hT w dU,Sem.run_ite,if_neg hnot,zL,if_neg h0,P0];rw[g9,TY];simp[Go.newRow];refine S0 (zN _) fun m' _=>?_;simp[bX,h4'];simp only[h2,yB,zD]at h;cases h
 |_=>simp[hd]at h
end
variable{n:Nat}
def z4i{m:Nm}{s:S}{w:PL}(hf:fY m s w){b:M Addr}{cs:V O}(h:pL s b n=some cs):
  cs.length=n/\∃N2,n7 m s.nx cs N2/\∀a,b=some a->∀j u,N2[j]? = some u->w.cell? ((⟨m.blk a.block,m.sh a.block+a.off,none⟩:Addr).add j)=some u:=by
 cases n with
 |zero=>simp[pL]at h;subst h;exact⟨rfl,[],fun _ _=>by simp[aE],fun _ _ j u hu=>by simp at hu⟩|succ n=>
  simp[pL]at h;rcases b with _|a;simp at h;simp only at h;rcases hl:lk s.h a.block with _|blk;simp[hl]at h;rcases blk with⟨l,e,md⟩|x;simp[hl]at h;have hc:∀m',aI s.nx m m'->∀j v,cs[j]? = some v->w.cell? ⟨m.blk a.block,m.sh a.block+(a.off+j),none⟩=some (ren m' v):=fun m' ha j v hj=>by have hr:wX m' a.block l e w md:=(hf m' ha).ok _ _ hl;have:=hr.cell (z7k h hj);have⟨e1,e2,_⟩:=ha a.block ((hf.fits).bd _ _ hl);rw[e1,e2]at this;exact this
  refine⟨G' h,aE m cs,fun m' ha=>?_,?_⟩;rw[kE,kE];apply List.map_congr_left;intro v hv;have⟨j,hj⟩:=List.getElem?_of_mem hv;have e1:=hc m' ha j v hj;have e2:=hc m (aI.refl _ _) j v hj;rw[e1]at e2;simpa using e2;rintro _ ⟨rfl⟩ j u hu;rw[kE,List.getElem?_map]at hu;rcases hj:cs[j]? with _|v;simp[hj]at hu;simp[hj]at hu;subst hu;rw[yU,Nat.add_assoc];exact hc m (aI.refl _ _) j v hj;simp[hl]at h
def zas(x K d n k z:Nat):x+K*z-(x+d*z+n*z+k*z)=(K-(d+n+k))*z:=by rw[Nat.sub_mul,Nat.add_mul,Nat.add_mul];omega
def z8o(n k K d:Nat)(h:n+k<=K-d):n+k+(K-(d+n+k))=K-d:=by omega
def mZ(m:Nm):M Addr->Nat->Nat
 |none,c=>c|some a,c=>bX m a.block c
def bG.rename{m:Nm}{s:S}{w w':PL}(h:fY m s w){i:Nat}{b b':lP}(hb:lk s.h i=some b)(MW:Own b=true)(sh' cp':Nat)
  (hw:∀k,k≠m.blk i->w'.heap[k]? = w.heap[k]?) (dU:w'.heap.size=w.heap.size) (h1:w'.os=w.os) (h2:w'.tape=w.tape) (h3:w'.output=w.output) (_h4:w.drawn<=w'.drawn) (hc:∀m',aI (s.nx+1) (m.set s.nx (m.blk i) sh' cp') m'->uY m' s.nx w' b'):
  bG m s w (m.set s.nx (m.blk i) sh' cp') ⟨(s.nx,b')::rm s.h i,s.nx+1⟩ w':=by
 have AG:i<s.nx:=(h.fits).bd i b hb;have key:∀j d,s.nx≠j->lk ((s.nx,b')::rm s.h i) j=some d->lk s.h j=some d/\i≠j:=fun j d hj hd=>by simp[n9,hj,if_false,qk]at hd;by_cases e:i=j;simp[e]at hd;simp[e,if_false]at hd;exact⟨hd,e⟩
 refine⟨Nm.agree_set m _ _ _ _,Nat.le_succ _,?_,?_,?_,by omega,h1,h2,h3⟩;intro m' ha;have qP:aI s.nx m m':=(Nm.agree_set m s.nx (m.blk i) sh' cp').trans ha (Nat.le_succ _);have hf:=h m' qP;have iC:m'.blk s.nx=m.blk i:=by have:=(ha s.nx (zN _)).1;simpa[Nm.set]using this
 have hmi:m'.blk i=m.blk i:=(qP i AG).1;refine⟨fun j d hd=>?_,fun j k d d' hd bF AC ho=>?_,fun j d hd=>?_⟩;by_cases e:s.nx=j;subst e;simp[n9,if_true,zA]at hd;subst hd;exact hc m' ha;have⟨bF,lM⟩:=key j d e hd;refine(hf.ok j d bF).world (hw _ ?_);rw[<-hmi];exact fun x=>hf.inj i j b d hb bF lM MW x.symm;by_cases e:s.nx=j;subst e;have⟨hk,FZ⟩:=key k d' AC bF;rw[iC,<-hmi];exact hf.inj i k b d' hb hk FZ MW;have⟨hj,lM⟩:=key j d e hd;by_cases e2:s.nx=k;subst e2;rw[iC,<-hmi];exact fun x=>hf.inj i j b d hb hj lM MW x.symm;have⟨hk,FZ⟩:=key k d' e2 bF;exact hf.inj j k d d' hj hk AC ho;by_cases e:s.nx=j;subst e;exact zN _;exact Nat.lt_succ_of_lt (hf.bd j d (key j d e hd).1);rintro k ⟨j,d,hd,ho,rfl⟩;left;by_cases e:s.nx=j;subst e;exact⟨i,b,hb,MW,by simp[Nm.set]⟩;have⟨hj,_⟩:=key j d e hd;have:=(h.fits).bd j d hj;exact⟨j,d,hj,ho,by simp[Nm.set,show j≠s.nx by omega]⟩;intro k hk hn;exact hw k fun e=>hn ⟨i,b,hb,MW,e.symm⟩
def iB(z:H2 O)(n:Nat):(Builtin.zeroCells z n).size=n*z.size:=by simp[Builtin.zeroCells]
def qsw{b:Nat}(h:yQ n b=true):n*b<=140737488355328/\n<=140737488355328:=by unfold yQ at h;rcases h1:Nat.ble (n*b) 140737488355328 with _|_;simp[h1]at h;simp[h1,zC]at h;exact⟨by simpa[Nat.ble_eq]using h1,by simpa[Nat.ble_eq]using h⟩
def Gr(m:Nm)(i:Nat):bX m i bY=m.cp i:=by simp[bX,bR]
section
variable{P:H0}{T:Tb}(hT:kT P T){m:Nm}{s:S}{w:PL}(hf:fY m s w)
include hT hf
variable{t:TypeId}
variable{v:O}
variable{bI:S}
def zdb{l c cl cc:O}(hl:eT m s.nx l cl)(hc:eT m s.nx c cc)(h:Jz T s t l c=some (v,bI)):Eff P m s w (Instr.makeSlice t cl cc) v bI:=by
 unfold Jz at h;rcases hd:T.und t with _|d;simp[hd]at h;cases d with
 |slice e=>
  simp only[hd]at h;cases l with
  |int k1 a=>
   cases c with
   |int k2 b=>
    simp only at h;have e1:cl=.int k1 a:=by rw[<-hl.at];simp[ren]
    have e2:cc=.int k2 b:=by rw[<-hc.at];simp[ren]
    subst e1 e2;rcases hi:T.inf e with _|x;simp[hi]at h;obtain⟨sz,by_,z⟩:=x;have dU:cT T e=some sz:=by simp[cT,hi]
    have hz:=fun m'=>J4 hT m' w hi;have w9:=Gp hT hi;simp only at hz w9;obtain⟨_,i,TV,Vl,TU,hi4⟩:=hT.inf e _ _ _ hi;simp only[hi,beq_eq]at h;cases Is:IntKind.i64.wrap a with
    |negSucc x=>simp[Is]at h|ofNat n=>
     cases Uh:IntKind.i64.wrap b with
     |negSucc x=>simp[Is,Uh]at h|ofNat k=>
      simp only[Is,Uh]at h;rcases h1:Nat.ble n k with _|_;simp[h1]at h;rcases h2:Nat.ble (by_*k) 281474976710656 with _|_;simp[h1,h2]at h;by_cases h3:z.cells.toList.length=sz;rcases h4:Nat.blt k bY with _|_;simp only[h1,h2,h3,h4,zC,yC,zD]at h;cases h;simp only[h1,h2,h3,h4,zC,yC,zA,zB]at h;obtain⟨rfl,rfl⟩:=h;have y6:n<=k:=by simpa[Nat.ble_eq]using h1
      have HP:by_*k<=281474976710656:=zY h2;have h4':k<bY:=by simpa[Nat.blt_eq]using h4
      have iE:z.cells.size=sz:=by simpa using h3
      refine⟨_,_,.slice (some ⟨w.heap.size,0,none⟩) n k,?_,wo hf (ju (Oe w9 k)) e 0,?_⟩;have As:∀q:Nat,q<=k->(decide ((q:Int)<0)||decide ((i.bytes:Int)*(q:Int)>2^48))=false:=by intro q hq;have:by_*q<=281474976710656:=Nat.le_trans (Nat.mul_le_mul_left _ hq) HP;have h':((by_*q:Nat):Int)<=((281474976710656:Nat):Int):=Int.ofNat_le.2 this;simp only[Bool.or_eq_false_iff,decide_eq_false_iff_not,TU];refine⟨by omega,?_⟩;rw[Int.natCast_mul]at h';simp only[gt_iff_lt,Int.not_lt];exact h'
      have g9:(Array.range (k*sz)).map (fun i=>(if k*sz=0 then(#[]:H2 O)else z.cells)[i%(if k*sz=0 then(#[]:H2 O)else z.cells).size]!)=⟨cC z.cells.toList k⟩:=by
       by_cases h0:k*sz=0;rw[h0];apply Array.ext';have:(cC z.cells.toList k).length=0:=by rw[xz,h3,h0]
       simp[List.length_eq_zero_iff.1 this];simp only[if_neg h0];have:=Nj z.cells k;rw[iE]at this;rw[<-this];simp[iE]
      have fD:(((decide ((k:Int)<0)||decide ((i.bytes:Int)*(k:Int)>2^48))||decide ((n:Int)<0))||decide ((n:Int)>(k:Int)))=false:=by rw[As k (zF _)];simp;omega
      have hwa':IntKind.i64.wrap a=(n:Int):=Is;have hwb':IntKind.i64.wrap b=(k:Int):=Uh;have P0:=(hz m).1;simp only[Instr.makeSlice,zK,iK hT w hd,zJ,asInt,asIntOf,zL,typeInfo,run_program,TV,hwa',hwb',Sem.run_ite,fD,Bool.false_eq_true,if_false,run_askRoom,zZ,o8 hT w dU];by_cases h0:k*sz=0;simp only[if_pos h0]at g9;simp only[if_pos h0];rw[g9];simp[Go.newRow];simp only[if_neg h0]at g9;simp only[if_neg h0,P0,zJ];rw[g9];simp[Go.newRow];refine S0 (zN _) fun m' _=>?_;simp[bX,h4'];simp only[h1,h2,h3,zC,yB,zD]at h;cases h
   |_=>simp at h
  |_=>simp at h
 |_=>simp[hd]at h
omit hf in
def Pa{t xt ty e e2:TypeId}{size:Nat}(ht:T.und t=some (.slice e))(hx:T.und xt=some (.slice e2))(hs:cT T e=some size){base xb:M Addr}{n C k xc:Nat}{cnew:H2 O}{w₁:PL}
  (iC:(Builtin.firstCells size k (.slice xb k xc)).run P w=.ok cnew w) (bM:n+k<=C) (cK:∀a,base=some a->(storeCells (a.add (n*size)) cnew.toList).run P w=.ok () w₁) (fD:base=none->w₁=w):
  (Builtin.append_ #[t,xt] ty #[.slice base n C,.slice xb k xc]).run P w=.ok (.slice base (n+k) C) w₁:=by cases base with|none=>rw[fD rfl];simp[Builtin.append_,iK hT w ht,iK hT w hx,o8 hT w hs,Builtin.lenOf,bM,iC]|some a=>simp[Builtin.append_,iK hT w ht,iK hT w hx,o8 hT w hs,Builtin.lenOf,bM,iC,cK a rfl]
omit hf in
def jJ{t xt ty e e2:TypeId}{size by_:Nat}{z:O}(ht:T.und t=some (.slice e))(hx:T.und xt=some (.slice e2))(hi:T.inf e=some (size,by_,z)){base xb:M Addr}{n C k xc:Nat}{cnew cold:H2 O}
  (iC:∀w',w'.heap=w.heap->(Builtin.firstCells size k (.slice xb k xc)).run P w'=.ok cnew w') (lK:∀w',w'.heap=w.heap->(Builtin.firstCells size n (.slice base n C)).run P w'=.ok cold w') (bM:C<n+k) (hr:yQ (n+k) by_=true): (Builtin.append_ #[t,xt] ty #[.slice base n C,.slice xb k xc]).run P w=
   .ok (.slice (some ⟨w.heap.size,0,none⟩) (n+k) ((Question.appendCap (n+k) C e).cut (w.tape w.drawn (.appendCap (n+k) C e)))) ((w.drew).alloc (.cells (cold++cnew++Builtin.zeroCells z.cells (((Question.appendCap (n+k) C e).cut (w.tape w.drawn (.appendCap (n+k) C e)))-(n+k))) e)):=by
 have⟨r1,r2⟩:=qsw hr;have⟨_,i,TV,Vl,TU,hi4⟩:=hT.inf e _ _ _ hi;have hs:cT T e=some size:=by simp[cT,hi]
 have g1:¬ n+k<=C:=by omega
 have g2:¬ (((n+k:Nat):Int)>IntKind.i64.max/\(False\/i.bytes=0)):=by rw[IntKind.max_i64];omega
 have g3:¬ Builtin.nextslicecap (n+k) C*i.bytes>2^48:=by have:=growslice_fits (bytes:=i.bytes) bM (by rw[TU];exact r1);omega
 have hn:=iC w.drew rfl;have ho:=lK w.drew rfl;have HL:({ w with drawn:=w.drawn+1 }:PL)=w.drew:=rfl;have hz:(zeroValue e).run P w.drew=.ok z w.drew:=(J4 hT (⟨id,id,id⟩:Nm) w.drew hi).1;simp[Builtin.append_,iK hT w ht,iK hT w hx,o8 hT w hs,Builtin.lenOf,if_neg g1,typeInfo,TV];have g2':¬ (9223372036854775807<(n:Int)+(k:Int)/\i.bytes=0):=by omega
 have g3':¬ 281474976710656<Builtin.nextslicecap (n+k) C*i.bytes:=g3;have hff:(Question.appendCap (n+k) C e).forced=false:=rfl;simp[if_neg g2',if_neg g3',hff,Bool.false_eq_true,if_false,ho,hn,hz,zJ];simp[Go.newRow];rfl
omit hf in
def qp1{t xt ty e e2:TypeId}{size by_:Nat}{z:O}(ht:T.und t=some (.slice e))(hx:T.und xt=some (.slice e2))(hi:T.inf e=some (size,by_,z)){base xb:M Addr}{n C k xc:Nat}{cnew cold:H2 O}
  (iC:∀w',w'.heap=w.heap->(Builtin.firstCells size k (.slice xb k xc)).run P w'=.ok cnew w') (lK:∀w',w'.heap=w.heap->(Builtin.firstCells size n (.slice base n C)).run P w'=.ok cold w') (bM:C<n+k) (hr:yQ (n+k) by_=true):
  ∃nc,n+k<=nc/\(Builtin.append_ #[t,xt] ty #[.slice base n C,.slice xb k xc]).run P w=
   .ok (.slice (some ⟨w.heap.size,0,none⟩) (n+k) nc) ((w.drew).alloc (.cells (cold++cnew++Builtin.zeroCells z.cells (nc-(n+k))) e)):=
 ⟨_,by simp[Question.cut],jJ hT ht hx hi iC lK bM hr⟩
omit hT in
def Nx{b:M Addr}{n size:Nat}{cs:V O}(h:pL s b (n*size)=some cs):
  ∃N2,n7 m s.nx cs N2/\cs.length=n*size/\∀w',w'.heap=w.heap->∀len cap,(Builtin.firstCells size n (.slice (b.map fun a=>⟨m.blk a.block,m.sh a.block+a.off,none⟩) len cap)).run P w'=.ok ⟨N2⟩ w':=by
 have⟨h1,N2,h2,h3⟩:=z4i hf h;refine⟨N2,h2,h1,fun w' hw len cap=>?_⟩;have hl:N2.length=n*size:=by rw[<-h2.at];simp[h1]
 cases b with
 |none=>
  have:n*size=0:=by cases hz:n*size with|zero=>rfl|succ k=>rw[hz]at h;simp[pL]at h
  have:N2=[]:=List.length_eq_zero_iff.1 (by omega);subst this;simp[Builtin.firstCells]
 |some a=>exact run_firstCells_some w' size n _ len cap N2 hl (fun j u hu=>by have:=h3 a rfl j u hu;rw[<-this];simp[World.cell?,hw])
omit hT in
def ze5{i c sz:Nat}{l:V O}{e:TypeId}(hl:lk s.h i=some (.inl (l,e,sz+1+2))){off n:Nat}(ho:off=bR c*(sz+1))(hn:off+n*(sz+1)<=l.length):n+bR c<=m.cp i:=by
 have⟨pr,rest,_,_,h3⟩:=(hf.fits).ok i _ hl;have:(n+bR c)*(sz+1)<=m.cp i*(sz+1):=by rw[Nat.add_mul];omega
 exact Nat.le_of_mul_le_mul_right this (by omega)
variable{xt:TypeId}
variable{ty:TypeId}
variable{u9:O}
def z2f{e e2:TypeId}{sz by_:Nat}{z:O}(hd:T.und t=some (.slice e))(dI:T.und xt=some (.slice e2))(hi:T.inf e=some (sz+1,by_,z)){a:Addr}{l p new cnew:V O}{c k:Nat}{xb:M Addr}{xc:Nat}
  (hr:cY s a.block=some (l,e,sz+1+2)) (eL:a.off=bR c*(sz+1)) (hc:¬ c<bY) (bM:yQ (n+(k+1)) by_=true) (y3:z.cells.toList.length=sz+1) (hg:xS l a.off (n*(sz+1))=some p) (G3:n7 m s.nx new cnew) (vA:new.length=(k+1)*(sz+1)) (h1:tI new=true) (iD:∀w',w'.heap=w.heap->∀len cap,(Builtin.firstCells (sz+1) (k+1) (.slice (xb.map fun a=>⟨m.blk a.block,m.sh a.block+a.off,none⟩) len cap)).run P w'=.ok ⟨cnew⟩ w')
  {cx:O} (uQ:cx=.slice (xb.map fun a=>⟨m.blk a.block,m.sh a.block+a.off,none⟩) (k+1) (mZ m xb xc)) (ecs:u9=.slice ((some a).map fun a=>⟨m.blk a.block,m.sh a.block+a.off,none⟩) n (mZ m (some a) c)):
  Eff P m s w (Builtin.append_ #[t,xt] ty #[u9,cx]) (.slice (some ⟨s.nx,0,none⟩) (n+(k+1)) bY) ⟨(s.nx,.inl (p++new,e,sz+1+2))::rm s.h a.block,s.nx+1⟩:=by
 have dU:cT T e=some (sz+1):=by simp[cT,hi]
 have⟨hl,qM⟩:=ky hr;have⟨HJ,BJ⟩:=Nk hg;have kI:=G' hg;have gM:mZ m (some a) c=m.cp a.block-bR c:=by simp[mZ,bX,hc]
 have gW:=(hf.fits).bd _ _ hl;have ED:pL s (some a) (n*(sz+1))=some p:=by cases hn:n*(sz+1)with|zero=>rw[hn]at kI;simp[pL,List.length_eq_zero_iff.1 kI]|succ q=>rw[hn]at hg;simp[pL,hl,hg]
 have⟨cold,AD,_,xM⟩:=Nx (P:=P) hf ED;have eZ:cnew.length=(k+1)*(sz+1):=by rw[<-G3.at];simp[vA]
 rw[gM]at ecs;by_cases sL:n+(k+1)<=m.cp a.block-bR c
 ·-- iG is room
  have⟨pr,rest,hb,CN,E7⟩:=(hf.fits).ok _ _ hl;have Aa:a.off+n*(sz+1)+cnew.length<=l.length+rest.length:=by rw[E7,eL,eZ,<-Nat.add_mul,<-Nat.add_mul];exact Nat.mul_le_mul_right _ (by omega)
  have A5:∀v∈cnew,v.oneCell'=true:=by rw[<-G3.at];exact qsd h1
  have Z?:(pr++aE m l++rest).length=m.sh a.block+(l.length+rest.length):=by simp[CN]
  have cK:=run_storeCells_at P (m.blk a.block) (m.sh a.block+a.off+n*(sz+1)) e cnew 0 _ w hb (by simp only[List.size_toArray,Z?];omega) A5;simp only[Nat.add_zero]at cK;refine⟨_,_,.slice (some ⟨m.blk a.block,m.sh a.block+a.off,none⟩) (n+(k+1)) (m.cp a.block-bR c),?_,bG.rename (w':=w.setRow (m.blk a.block) ((pr++aE m l++rest).take (m.sh a.block+a.off+n*(sz+1))++cnew++(pr++aE m l++rest).drop (m.sh a.block+a.off+n*(sz+1)+cnew.length)).toArray) hf hl (fm qM) (m.sh a.block+a.off) (m.cp a.block-bR c) (fun k hk=>setRow_other w _ k _ hk) (by simp) rfl rfl rfl (zF _) ?_,?_⟩;rw[uQ,ecs];exact Pa (P:=P) hT (w:=w) (ty:=ty) hd dI dU (iD w rfl _ _) sL (fun a' qP=>by simp only[zM,zA]at qP;subst qP;rw[yU];exact cK) (fun fD=>by simp at fD);intro m' ha;have⟨y6,HP,Bp⟩:=ha s.nx (zN _);have⟨e1,e2,e3⟩:=DU m s.nx (m.blk a.block) (m.sh a.block+a.off) (m.cp a.block-bR c);have qP:aI s.nx m m':=(Nm.agree_set m s.nx _ _ _).trans ha (Nat.le_succ _);refine⟨(pr++aE m l++rest).take (m.sh a.block+a.off),(pr++aE m l++rest).drop (m.sh a.block+a.off+n*(sz+1)+cnew.length),?_,?_,?_⟩;rw[y6,e1,setRow_heap w _ _ _ e (0,0) hb,x3,G3 m' qP,AD m' qP];have Ao:((pr++aE m l++rest).drop (m.sh a.block+a.off)).take (n*(sz+1))=cold:=by rw[<-AD.at,HJ];rcases Nat.eq_zero_or_pos (n*(sz+1))with h0 |gA;rw[h0];simp[aE];rw[<-CN,zT,List.drop_append,List.drop_of_length_le (by omega),List.nil_append,Nat.add_sub_cancel_left,List.drop_append_of_le_length (by simp;omega),List.take_append_of_le_length (by simp;omega)];simp[kE,List.map_drop,List.map_take]
  have Ix:(pr++aE m l++rest).take (m.sh a.block+a.off+n*(sz+1))=(pr++aE m l++rest).take (m.sh a.block+a.off)++cold:=by rw[List.take_add,Ao]
  rw[Ix];congr 2;simp[zT];rw[HP,e2,List.length_take,Z?];omega;rw[Bp,e3,zU,kI,vA,List.length_drop,Z?];rw[E7,eZ,eL,<-Nat.add_mul];have e4:=zas (m.sh a.block) (m.cp a.block) (bR c) n (k+1) (sz+1);rw[e4,<-Nat.add_mul,z8o _ _ _ _ sL];refine S0 (zN _) fun m' ha=>?_;rw[Gr];have⟨_,_,e3⟩:=DU m s.nx (m.blk a.block) (m.sh a.block+a.off) (m.cp a.block-bR c);exact(ha s.nx (zN _)).2.2.trans e3
 have aF:m.cp a.block-bR c<n+(k+1):=by omega
 have⟨nc,hnc2,cR⟩:=qp1 (P:=P) hT (w:=w) (ty:=ty) hd dI hi (n:=n) (k:=k+1) (C:=m.cp a.block-bR c) (base:=(some a).map fun a=>⟨m.blk a.block,m.sh a.block+a.off,none⟩) (fun w' hw=>iD w' hw (k+1) (mZ m xb xc)) (fun w' hw=>xM w' hw n _) aF bM;have Az:fY m s w.drew:=kg _ hf;have aS:=yf Az (rest:=(Builtin.zeroCells z.cells (nc-(n+(k+1)))).toList) (AD.append G3) e nc (sz+1) (by
  have TK:z.cells.size=sz+1:=by simpa using y3
  rw[zU,kI,vA,Array.length_toList,iB,TK,<-Nat.add_mul,<-Nat.add_mul];congr 1;omega)
 have cU:=((bG.draw (w.drawn+1) hf).trans aS).trans (bG.forget aS.fits a.block);have cK:(⟨rm (newRow s (p++new) e (sz+1+2)).h a.block,(newRow s (p++new) e (sz+1+2)).nx⟩:S)=⟨(s.nx,.inl (p++new,e,sz+1+2))::rm s.h a.block,s.nx+1⟩:=by simp[newRow,rm,beq_eq,show s.nx≠a.block by omega]
 rw[cK]at cU;refine⟨_,_,.slice (some ⟨w.heap.size,0,none⟩) (n+(k+1)) nc,?_,cU,?_⟩;rw[uQ,ecs,cR];congr 3;simp;have hw:w.drew.heap.size=w.heap.size:=rfl;rw[hw];refine S0 (zN _) fun m' ha=>?_;rw[Gr];have⟨_,_,e3⟩:=DU m s.nx w.heap.size 0 nc;exact(ha s.nx (zN _)).2.2.trans e3
omit hT in
def fh {base : M Addr} {n c sz : Nat} {v : O} {bI : S} (h : (cond (Nat.blt c bY) (cond (Nat.ble n c) (some (Value.slice base n c, s)) none)
            (match base with
              |some a=> match cY s a.block with
                |some (l,_,md)=> cond (Nat.beq md (sz+3)) (cond (Nat.beq a.off (bR c*(sz+1))) (match xS l a.off (n*(sz+1))with
                  |some _=> some (Value.slice base n c,s)|none=> none) none) none
                |none=> none
              |none=> none))=some (v,bI)):v=.slice base n c/\bI=s/\n<=mZ m base c:=by
  simp[beq_eq]at h;cases hc:Nat.blt c bY with
  |true=>simp[hc,zC]at h;have mV:c<bY:=J6 hc;rcases vB:Nat.ble n c with _|_;simp only[vB,zD]at h;cases h;simp[vB,zC,zA,zB]at h;refine⟨h.1.symm,h.2.symm, ?_⟩;have:n<=c:=zY vB;rcases base with _|a;exact this;simp[mZ,bX,if_pos mV];exact this
  |false=>have mV : ¬ c<bY:=Ol hc;simp[hc,zD]at h;rcases base with _|a;simp at h;simp only at h;rcases hr:cY s a.block with _|r;simp[hr]at h;have⟨l,e',md⟩:=r;simp[hr]at h;by_cases qM:md=sz+3;by_cases eL:a.off=bR c*(sz+1);rw[decide_eq_true qM,decide_eq_true eL]at h;simp[zC]at h;rcases hg:xS l a.off (n*(sz+1))with _|q;simp[hg]at h;simp[hg,zA,zB]at h;refine⟨h.1.symm,h.2.symm, ?_⟩;have⟨_,sL⟩:=Nk hg;have hl:=(ky hr).1;subst qM;simp[mZ,bX,if_neg mV];rcases Nat.eq_zero_or_pos n with h0 |gA;rw[h0];exact Nat.zero_le _;have tP:0<n*(sz+1):=Nat.mul_pos gA (by omega);have:=ze5 hf (c:=c) (n:=n) (off:=a.off) hl eL (by omega);omega;rw[decide_eq_true qM,decide_eq_false eL]at h;simp at h;rw[decide_eq_false qM]at h;simp at h
def qse{sv x cx:O}(hs:eT m s.nx sv u9)(hx:eT m s.nx x cx)(h:xZ T s t xt sv x=some (v,bI)):Eff P m s w (Builtin.append_ #[t,xt] ty #[u9,cx]) v bI:=by
 unfold xZ at h;rcases hd:T.und t with _|d;simp[hd]at h;cases d with
 |slice e=>
  rcases dI:T.und xt with _|d2;simp[hd,dI]at h;cases d2 with
  |slice e2=>
   cases sv with
   |slice base n c=>
    cases x with
    |slice xb k xc=>
     simp only[hd,dI]at h;rcases hi:T.inf e with _|y;simp[hi]at h;obtain⟨sz,by_,z⟩:=y;cases sz with
     |zero=>simp[hi]at h|succ sz=>
      have dU:cT T e=some (sz+1):=by simp[cT,hi]
      simp only[hi]at h;rcases hcx:pL s xb (k*(sz+1))with _|new;simp[hcx]at h;simp only[hcx]at h;rcases h1:tI new with _|_;simp[h1]at h;simp only[h1,zC]at h;obtain⟨cnew,G3,vA,iD⟩:=Nx (P:=P) hf hcx;have uQ:cx=.slice (xb.map fun a=>⟨m.blk a.block,m.sh a.block+a.off,none⟩) k (mZ m xb xc):=by rw[<-hx.at];cases xb<;>simp[ren,mZ]
      have ecs:u9=.slice (base.map fun a=>⟨m.blk a.block,m.sh a.block+a.off,none⟩) n (mZ m base c):=by rw[<-hs.at];cases base<;>simp[ren,mZ]
      cases k with
      |zero=>
       have hnn:cnew=[]:=List.length_eq_zero_iff.1 (by rw[<-G3.at];simp[vA]);subst hnn;have fin:v=.slice base n c->bI=s->n<=(mZ m base c)->Eff P m s w (Builtin.append_ #[t,xt] ty #[u9,cx]) v bI:=by rintro rfl rfl sL;refine⟨m,w,u9,?_,bG.refl hf,hs⟩;rw[uQ,ecs];have:=Pa (P:=P) hT (w:=w) (ty:=ty) (w₁:=w) hd dI dU (base:=base.map fun a=>⟨m.blk a.block,m.sh a.block+a.off,none⟩) (n:=n) (iD w rfl 0 (mZ m xb xc)) (C:=(mZ m base c)) (by simpa using sL) (fun a _=>by simp[storeCells]) (fun _=>rfl);simpa using this
       obtain⟨e1,e2,sL⟩:=fh hf h;exact fin e1 e2 sL
      |succ k=>
       simp only[X9,beq_eq]at h;cases hc:Nat.blt c bY with
       |true=>
        simp only[hc,zC]at h;have mV:c<bY:=J6 hc;have gM:(mZ m base c)=c:=by cases base<;>simp[mZ,bX,mV]
        cases vB:Nat.ble (n+(k+1)) c with
        |true=>simp only[vB,zC]at h;have sL:n+(k+1)<=c:=zY vB;rcases base with _|a;simp at h;simp only at h;rcases hr:cY s a.block with _|r;simp[hr]at h;obtain⟨l,e',md⟩:=r;simp only[hr]at h;rcases hp:uC l (a.off+n*(sz+1)) new with _|l';simp[hp]at h;simp only[hp,zA,zB]at h;obtain⟨rfl,rfl⟩:=h;obtain⟨w₁,cK,aS⟩:=jb (P:=P) hf hr hp G3 h1;refine⟨m,w₁,.slice (some ⟨m.blk a.block,m.sh a.block+a.off,none⟩) (n+(k+1)) c,?_,aS,?_⟩;rw[uQ,ecs,gM];exact Pa (P:=P) hT (w:=w) (ty:=ty) hd dI dU (iD w rfl _ _) sL (fun a' qP=>by simp only[zM,zA]at qP;subst qP;rw[yU,Nat.add_assoc];exact cK) (fun fD=>by simp at fD);intro m' ha;have gW:=(hf.fits).bd _ _ (ky hr).1;obtain⟨b1,b2,_⟩:=ha a.block gW;simp[ren,b1,b2,bX,mV]
        |false=>
         simp only[vB,zD]at h;have aF:c<n+(k+1):=by rcases Nat.lt_or_ge c (n+(k+1))with hh |hh;exact hh;have:=Nat.ble_eq_true_of_le hh;rw[this]at vB;cases vB
         rcases hco:pL s base (n*(sz+1))with _|old;simp[hco]at h;simp only[hco]at h;rcases bM:yQ (n+(k+1)) by_ with _|_;simp[bM]at h;simp only[bM,zC]at h;by_cases y3:z.cells.toList.length=sz+1;simp only[y3,yC,zC,zA,zB]at h;obtain⟨rfl,rfl⟩:=h;obtain⟨cold,AD,A6,xM⟩:=Nx (P:=P) hf hco;obtain⟨nc,hnc2,cR⟩:=qp1 (P:=P) hT (w:=w) (ty:=ty) hd dI hi (n:=n) (k:=k+1) (C:=c) (base:=base.map fun a=>⟨m.blk a.block,m.sh a.block+a.off,none⟩) (fun w' hw=>iD w' hw (k+1) (mZ m xb xc)) (fun w' hw=>xM w' hw n c) aF bM;have Az:fY m s w.drew:=kg _ hf;have aS:=yf Az (rest:=(Builtin.zeroCells z.cells (nc-(n+(k+1)))).toList) (AD.append G3) e nc (sz+1) (by
          have TK:z.cells.size=sz+1:=by simpa using y3
          rw[zU,A6,vA,Array.length_toList,iB,TK,<-Nat.add_mul,<-Nat.add_mul];congr 1;omega)
         refine⟨_,_,.slice (some ⟨w.heap.size,0,none⟩) (n+(k+1)) nc,?_,(bG.draw (w.drawn+1) hf).trans aS,?_⟩;rw[uQ,ecs,gM,cR];congr 3;simp;have hw:w.drew.heap.size=w.heap.size:=rfl;rw[hw];refine S0 (zN _) fun m' ha=>?_;rw[Gr];obtain⟨_,_,e3⟩:=DU m s.nx w.heap.size 0 nc;exact(ha s.nx (zN _)).2.2.trans e3;simp only[y3,yB,zD]at h;cases h
       |false=>
        simp only[hc,zD]at h;generalize hD:bR c=D at h;have mV:¬ c<bY:=Ol hc;rcases base with _|a;simp at h;simp only at h;rcases hr:cY s a.block with _|r;simp[hr]at h;obtain⟨l,e',md⟩:=r;simp only[hr]at h;by_cases qM:md=sz+1+2;by_cases PD:e'=e;by_cases eL:a.off=D*(sz+1);rcases bM:yQ (n+(k+1)) by_ with _|_;simp[qM,PD,bM]at h;by_cases y3:z.cells.toList.length=sz+1;rcases hg:xS l a.off (n*(sz+1))with _|p;simp only[qM,PD,yC,zC,bM,y3,hg,<-eL]at h;cases h;have h':some (Value.slice (some ⟨s.nx,0,none⟩) (n+(k+1)) bY,(⟨(s.nx,.inl (p++new,e,sz+1+2))::rm s.h a.block,s.nx+1⟩:S))=some (v,bI):=by simpa only[qM,PD,yC,zC,bM,y3,hg,<-eL]using h
        simp only[zA,zB]at h';obtain⟨rfl,rfl⟩:=h';subst qM PD;clear h;exact z2f hT hf hd dI hi hr (by rw[hD];exact eL) mV bM y3 hg G3 vA h1 iD uQ ecs;simp only[qM,PD,yC,yB,zC,zD,bM,y3,<-eL]at h;cases h;simp only[qM,PD,eL,yC,yB,zC,zD]at h;cases h;simp only[qM,PD,yC,yB,zC,zD]at h;cases h;simp only[qM,yB,zD]at h;cases h
    |_=>simp[hd,dI]at h
   |_=>simp[hd,dI]at h
  |_=>simp[hd,dI]at h
 |_=>simp[hd]at h
omit hT hf in
def kh(size len cap:Nat)(b:M Addr)(w':PL):(Builtin.firstCells size 0 (.slice b len cap)).run P w'=.ok #[] w':=by cases b<;>simp[Builtin.firstCells,loadCells,loadCellsFrom]
def z3u{sv x cx:O}(hs:eT m s.nx sv u9)(hx:eT m s.nx x cx)(h:w5 T s t xt sv x=some (v,bI)):Eff P m s w (Builtin.append_ #[t,xt] ty #[u9,cx]) v bI:=by
 have src:∀{sv u9:O}{a:M Addr},eT m s.nx sv u9->xZ T s t xt sv (.slice none 0 0)=some (v,bI)->Eff P m s w (Builtin.append_ #[t,xt] ty #[u9,.slice a 0 0]) v bI:=by
  intro sv u9 a hs h;have h0:=h;unfold xZ at h;rcases hd:T.und t with _|d;simp[hd]at h;cases d with
  |slice e=>
   rcases dI:T.und xt with _|d2;simp[hd,dI]at h;cases d2 with
   |slice e2=>
    cases sv with
    |slice base n c=>
     simp only[hd,dI]at h;rcases hi:T.inf e with _|y;simp[hi]at h;obtain⟨sz,by_,z⟩:=y;cases sz with
     |zero=>simp[hi]at h|succ sz=>
      have dU:cT T e=some (sz+1):=by simp[cT,hi]
      simp only[hi,Nat.zero_mul,pL,tI,zC]at h;obtain⟨e1,e2,sL⟩:=fh hf h;subst e1;subst e2;have ecs:u9=.slice (base.map fun a=>⟨m.blk a.block,m.sh a.block+a.off,none⟩) n (mZ m base c):=by rw[<-hs.at];cases base<;>simp[ren,mZ]
      refine⟨m,w,u9,?_,bG.refl hf,hs⟩;rw[ecs];have:=Pa (P:=P) hT (w:=w) (ty:=ty) (w₁:=w) hd dI dU (base:=base.map fun a=>⟨m.blk a.block,m.sh a.block+a.off,none⟩) (n:=n) (xb:=a) (xc:=0) (k:=0) (cnew:=#[]) (kh _ _ _ _ _) (C:=(mZ m base c)) (by simpa using sL) (fun a _=>by simp[storeCells]) (fun _=>rfl);simpa using this
    |_=>simp[hd,dI]at h
   |_=>simp[hd,dI]at h
  |_=>simp[hd]at h
 have tgt:∀{x cx:O}{a:M Addr}{v':O}{s':S},(eT m s.nx x cx\/x=.slice none 0 0/\∃b,cx=.slice b 0 0)->xZ T s t xt (.slice none 0 0) x=some (v',s')->(v'=.slice none 0 0/\s'=s/\(Builtin.append_ #[t,xt] ty #[.slice a 0 0,cx]).run P w=.ok (.slice a 0 0) w)\/((∃b n c,v'=.slice (some b) n c)/\Eff P m s w (Builtin.append_ #[t,xt] ty #[.slice a 0 0,cx]) v' s'):=by
  intro x cx a v' s' hx h;have Bb:=fun hx=>qse (ty:=ty) hT hf (B7 (m:=m) (n:=s.nx) (v:=.slice none 0 0) fun _=>by simp[ren]) (cx:=cx) hx h;unfold xZ at h;rcases hd:T.und t with _|d
  simp[hd]at h;cases d with
  |slice e=>
   rcases dI:T.und xt with _|d2;simp[hd,dI]at h;cases d2 with
   |slice e2=>
    cases x with
    |slice xb k xc=>
     simp only[hd,dI]at h;rcases hi:T.inf e with _|y;simp[hi]at h;obtain⟨sz,by_,z⟩:=y;cases sz with
     |zero=>simp[hi]at h|succ sz=>
      have dU:cT T e=some (sz+1):=by simp[cT,hi]
      simp only[hi]at h;rcases hcx:pL s xb (k*(sz+1))with _|new;simp[hcx]at h;simp only[hcx]at h;rcases h1:tI new with _|_;simp[h1]at h;simp only[h1,zC]at h;obtain⟨cnew,G3,vA,iD⟩:=Nx (P:=P) hf hcx;have uQ:eT m s.nx (.slice xb k xc) cx->cx=.slice (xb.map fun a=>⟨m.blk a.block,m.sh a.block+a.off,none⟩) k (mZ m xb xc):=fun hx=>by rw[<-hx.at];cases xb<;>simp[ren,mZ]
      cases k with
      |zero=>
       obtain⟨e1,e2,sL⟩:=fh (sz:=sz) hf h;refine .inl ⟨e1,e2,?_⟩;have hcx0:∃b c,cx=.slice b 0 c:=by rcases hx with hx |⟨_,b,hb⟩;exact⟨_,_,uQ hx⟩;exact⟨b,0,hb⟩
       obtain⟨b,c,rfl⟩:=hcx0;have:=Pa (P:=P) hT (w:=w) (ty:=ty) (w₁:=w) hd dI dU (base:=a) (n:=0) (xb:=b) (xc:=c) (k:=0) (cnew:=#[]) (kh _ _ _ _ _) (C:=0) (zF _) (fun a _=>by simp[storeCells]) (fun _=>rfl);simpa using this
      |succ k=>
       have bM:yQ (0+(k+1)) by_=true/\∃b n c,v'=.slice (some b) n c:=by
        simp only[X9]at h;have c0:Nat.blt 0 bY=true:=Nat.ble_eq_true_of_le (by simp[bY]);have c1:Nat.ble (0+(k+1)) 0=false:=by rcases hb:Nat.ble (0+(k+1)) 0 with _|_;rfl;have:=zY hb;omega
        simp only[c0,c1,zC,zD,Nat.zero_mul,pL]at h;rcases hr:yQ (0+(k+1)) by_ with _|_;simp only[hr,zD]at h;cases h;simp only[hr,zC]at h;rcases hz:Nat.beq z.cells.toList.length (sz+1)with _|_;simp only[hz,zD]at h;cases h;simp only[hz,zC,zA,zB]at h;exact⟨rfl,_,_,_,h.1.symm⟩
       refine .inr ⟨bM.2,?_⟩;have hx:eT m s.nx (.slice xb (k+1) xc) cx:=by rcases hx with hx |⟨hx,_⟩;exact hx;cases hx
       have⟨aK,w₁,cv,g1,g2,g3⟩:=Bb hx;refine⟨aK,w₁,cv,?_,g2,g3⟩;rw[uQ hx]at g1 ⊢;have q2:=jJ (P:=P) hT (w:=w) (ty:=ty) hd dI hi (base:=none) (n:=0) (C:=0) (cold:=#[]) (fun w' hw=>iD w' hw (k+1) (mZ m xb xc)) (fun w' _=>kh _ _ _ _ _) (by omega) bM.1;have q2':=jJ (P:=P) hT (w:=w) (ty:=ty) hd dI hi (base:=a) (n:=0) (C:=0) (cold:=#[]) (fun w' hw=>iD w' hw (k+1) (mZ m xb xc)) (fun w' _=>kh _ _ _ _ _) (by omega) bM.1;rw[q2',<-q2];exact g1
    |_=>simp[hd,dI]at h
   |_=>simp[hd,dI]at h
  |_=>simp[hd]at h
 have flat:(eT m s.nx (yS x) cx\/yS x=.slice none 0 0/\∃b,cx=.slice b 0 0):=by
  cases x with
  |chan r=>rcases r with _|r;exact .inl hx;have:=hx.at;simp[ren]at this;exact .inr ⟨rfl,_,this.symm⟩
  |_=>exact .inl hx
 unfold w5 at h;cases hw:BG sv with
 |false=>simp[hw,zD]at h;rcases flat with hx |⟨e1,b,rfl⟩;exact qse hT hf hs hx h;rw[e1]at h;exact src hs h
 |true=>
  simp[hw,zC]at h;obtain⟨r,rfl⟩:∃r,sv=.chan (some r):=by
   cases sv with
   |chan r=>cases r with
    |none=>simp[BG]at hw|some r=>exact⟨r,rfl⟩
   |_=>simp[BG]at hw
  have ecs:=hs.at;simp[ren]at ecs;rcases ha:xZ T s t xt (.slice none 0 0) (yS x)with _|q;simp[ha]at h;have⟨v',s'⟩:=q;rcases tgt (a:=some ⟨m.blk r,m.sh r,some (m.cp r)⟩) flat ha with⟨e1,e2,cR⟩|⟨⟨b,n,c,e1⟩,Bb⟩;rw[ha,e1]at h;simp[zA,zB]at h;have⟨rfl,rfl⟩:=h;exact⟨m,w,u9,by rw[<-ecs];exact cR,bG.refl hf,hs⟩;rw[ha,e1]at h;simp[zA,zB]at h;have⟨rfl,rfl⟩:=h;rw[<-ecs,<-e1];exact Bb
end
variable{m:Nm}
variable{s:S}
variable{w:PL}
def bG.ghost(h:fY m s w)(b sh cp:Nat):bG m s w (m.set s.nx b sh cp) ⟨s.h,s.nx+1⟩ w:=by refine⟨Nm.agree_set m _ _ _ _,Nat.le_succ _,fun m' ha=>?_,?_,fun _ _ _=>rfl,zF _,rfl,rfl,rfl⟩;have hf:=h m' ((Nm.agree_set m s.nx b sh cp).trans ha (Nat.le_succ _));exact⟨hf.ok,hf.inj,fun i c hc=>Nat.lt_succ_of_lt (hf.bd i c hc)⟩;rintro k ⟨j,d,hd,ho,rfl⟩;have:=(h.fits).bd j d hd;exact .inl ⟨j,d,hd,ho,by simp[Nm.set,show j≠s.nx by omega]⟩
variable{r:Nat}
variable{es:V MapEntry}
variable{cl:Nat}
def Gu(h:DQ s r=some (es,cl)):lk s.h r=some (.inr (es,cl)):=by unfold DQ at h;rcases hl:lk s.h r with _|b;simp[hl]at h;rcases b with x |x<;>simp[hl]at h;rw[h]
def XQ{P:H0}(hf:fY m s w){es':V MapEntry}{ces:V MapEntry}{cl':Nat}(hr:DQ s r=some (es,cl))
  (he:∀m',aI s.nx m m'->es'.map (fB m')=ces):
  ∃w₁,(setObj (m.blk r) (.map ces.toArray cl')).run P w=.ok () w₁/\bG m s w m (NU s r es' cl') w₁:=by have hl:=Gu hr;have hb:w.heap[m.blk r]? = some (.map (es.map (fB m)).toArray cl):=(hf.fits).ok r _ hl;refine⟨{ w with heap:=w.heap.setIfInBounds (m.blk r) (.map ces.toArray cl') },by simp[setObj,Sem.run,hb],?_⟩;refine bG.write hf hl rfl (fun k hk=>?_) (by simp) rfl rfl rfl (zF _) fun m' ha=>?_;exact Array.getElem?_setIfInBounds_ne (Ne.symm hk);have AG:m'.blk r=m.blk r:=(ha r ((hf.fits).bd r _ hl)).1;have aF:=(hf.fits).size hl;simp[uY,AG,he m' ha];exact Array.getElem?_setIfInBounds_self_of_lt aF
def kc(hf:fY m s w)(hr:DQ s r=some (es,cl)):∀m',aI s.nx m m'->es.map (fB m')=es.map (fB m):=fun m' ha=>by
 have hl:=Gu hr;have h1:w.heap[m.blk r]? = some (.map (es.map (fB m)).toArray cl):=(hf.fits).ok r _ hl;have h2:w.heap[m'.blk r]? = some (.map (es.map (fB m')).toArray cl):=(hf m' ha).ok r _ hl;rw[(ha r ((hf.fits).bd r _ hl)).1,h1]at h2;simp at h2;exact List.map_congr_left fun e PD=>(h2 e PD).symm
def z4c{a b:ByteArray}(h:lW a.data.toList b.data.toList=true):a=b:=by
 rw[kj]at h;have:a.data.toList=b.data.toList:=by simpa using h
 exact ByteArray.ext (Array.ext' this)
def zed{E:O->O->D1}{n:Nat}(hE:∀a b,E a b=true->a=b/\Instr.sameBits n a b=true)(x y:V O)(h:ES E x y=true):x=y/\((x.zip y).all fun p=>Instr.sameBits n p.1 p.2)=true:=by induction x generalizing y with|nil=>cases y<;>simp_all[ES]|cons a x ih=>rcases y with _|⟨b,y⟩;simp[ES]at h;simp[ES]at h;rcases vJ:E a b with _|_;simp[vJ]at h;simp[vJ,zC]at h;have⟨e1,e2⟩:=hE a b vJ;have⟨e3,e4⟩:=ih y h;subst e1 e3;simp only[List.zip_cons_cons,List.all_cons,e2,e4];simp
def VW(d k:Nat):∀a b,AT d a b=true->a=b/\Instr.sameBits (d+k) a b=true:=by
 induction d with
 |zero=>intro a b h;simp[AT]at h|succ d ih=>
  intro a b h;have hs:d+1+k=(d+k)+1:=by omega
  rw[hs];simp[AT]at h;cases a with
  |int k1 x=>cases b with|int k2 y=>simp only at h;by_cases e1:k1=k2;by_cases e2:x=y;subst e1 e2;exact⟨rfl,by simp[Instr.sameBits]⟩;simp[e1,e2]at h;simp[e1]at h|_=>simp at h
  |bool x=>cases b with|bool y=>simp at h;subst h;exact⟨rfl,by simp[Instr.sameBits]⟩|_=>simp at h
  |string x=>cases b with|string y=>simp only at h;have:=z4c h;subst this;exact⟨rfl,by simp[Instr.sameBits,beq_toListBytes]⟩|_=>simp at h
  |agg x=>
   cases b with
   |agg y=>have⟨x⟩:=x;have⟨y⟩:=y;simp only at h;have⟨e1,e2⟩:=zed ih x y h;subst e1;refine⟨rfl,?_⟩;simp only[Instr.sameBits,beq_self_eq_true,Bool.true_and];exact e2
   |_=>simp at h
  |_=>simp at h
def qqo{P:H0}{a b:O}(h:AT 50 a b=true)(w:PL):(Instr.keyThatStays a b).run P w=.ok b w/\a=b:=by have⟨e1,e2⟩:=VW 50 9950 a b h;refine⟨?_,e1⟩;have e3:Instr.sameBits 10000 a b=true:=e2;simp[Instr.keyThatStays,e3]
def Z'(es:V MapEntry)(i:Nat)(f:MapEntry->MapEntry):N4 es i f=es.modify i f:=by induction es generalizing i with|nil=>simp[N4]|cons e es ih=>cases i<;>simp[N4,ih]
def qvs(es:V MapEntry)(i:Nat):XM es i=es.eraseIdx i:=by induction es generalizing i with|nil=>simp[XM]|cons e es ih=>cases i<;>simp[XM,ih]
variable{v:O}
def z9j{T:Tb}{kt:TypeId}{k:O}(es:V MapEntry)(b:Nat){i:Nat}(h:rE T kt k es b=some (some (i,v))):b<=i/\∃e,es[i-b]? = some e/\e.val=v:=by
 induction es generalizing b with
 |nil=>simp[rE]at h|cons e es ih=>
  simp[rE]at h;rcases he:eqv T 50 kt k e.key with _|r;simp[he]at h;cases r with
  |true=>simp[he]at h;have⟨rfl,rfl⟩:=h;exact⟨zF _,e,by simp,rfl⟩
  |false=>simp[he]at h;have⟨h1,e',h2,h3⟩:=ih (b+1) h;refine⟨by omega,e',?_,h3⟩;rw[show i-b=(i-(b+1))+1 by omega];simpa using h2
section
variable{P:H0}{T:Tb}(hT:kT P T){m:Nm}{s:S}{w:PL}(hf:fY m s w)
include hT hf
variable{t:TypeId}
variable{ty:TypeId}
variable{x:O}
variable{bI:S}
def zcw{ts:V TypeId}{d cd cx:O}(bF:eT m s.nx d cd)(hx:eT m s.nx x cx)(h:Kd T s t d x=some (v,bI)):Eff P m s w (Builtin.copy_ (t::ts).toArray ty #[cd,cx]) v bI:=by
 unfold Kd at h;rcases hd:T.und t with _|dd;simp[hd]at h;cases dd with
 |slice e=>
  cases d with
  |slice base n c=>
   cases x with
   |slice xb k xc=>
    simp[hd]at h;rcases hs:cT T e with _|sz;simp[hs]at h;simp[hs]at h;rcases hcx:pL s xb (Nat.min k n*sz)with _|cs;simp[hcx]at h;simp[hcx]at h;rcases h1:tI cs with _|_;simp[h1]at h;simp[h1,zC]at h;have⟨cnew,G3,vA,iD⟩:=Nx (P:=P) hf hcx;have uQ:cx=.slice (xb.map fun a=>⟨m.blk a.block,m.sh a.block+a.off,none⟩) k (mZ m xb xc):=by rw[<-hx.at];cases xb<;>simp[ren,mZ]
    have ecd:cd=.slice (base.map fun a=>⟨m.blk a.block,m.sh a.block+a.off,none⟩) n (mZ m base c):=by rw[<-bF.at];cases base<;>simp[ren,mZ]
    have vG:=iD w rfl k (mZ m xb xc);have fin:∀w₁,(∀a,base=some a->(storeCells ⟨m.blk a.block,m.sh a.block+a.off,none⟩ cnew).run P w=.ok () w₁)->(base=none->w₁=w)->
      (Builtin.copy_ (t::ts).toArray ty #[cd,cx]).run P w=.ok (.int .i64 (Nat.min k n)) w₁:=by
     intro w₁ h2 h3;rw[uQ,ecd];rcases base with _|a;rw[h3 rfl];simp[Builtin.copy_,iK hT w hd,Builtin.lenOf,o8 hT w hs,vG,goInt];simp[Builtin.copy_,iK hT w hd,Builtin.lenOf,o8 hT w hs,vG,goInt,h2 a rfl]
    cases cs with
    |nil=>
     simp[zA,zB]at h;have⟨rfl,rfl⟩:=h;have hnn:cnew=[]:=by rw[<-G3.at];simp[aE]
     subst hnn;exact⟨m,w,_,fin w (fun a _=>by simp[storeCells]) (fun _=>rfl),bG.refl hf,B7 fun _=>by simp[ren]⟩
    |cons c0 cs=>simp only at h;rcases base with _|a;simp at h;simp only at h;rcases hr:cY s a.block with _|r;simp[hr]at h;have⟨l,e',md⟩:=r;simp[hr]at h;rcases hp:uC l a.off (c0::cs)with _|l';simp[hp]at h;simp[hp,zA,zB]at h;have⟨rfl,rfl⟩:=h;have⟨w₁,cK,aS⟩:=jb (P:=P) hf hr hp G3 h1;exact⟨m,w₁,_,fin w₁ (fun a' qP=>by cases qP;exact cK) (fun fD=>by cases fD),aS,B7 fun _=>by simp[ren]⟩
   |_=>simp[hd]at h
  |_=>simp[hd]at h
 |_=>simp[hd]at h
omit hf in
def qxh{t xt ty e:TypeId}{kd k:IntKind}{size by_ j:Nat}{z:O}{q:Int}(hw:IntKind.i64.wrap q=((j+1:Nat):Int))(ht:T.und t=some (.slice e))(hx:T.und xt=some (.int kd))(hi:T.inf e=some (size,by_,z))(TP:0<size)(hr:yQ (j+1) by_=true):
  ∃nc,j+1<=nc/\(Builtin.append_ #[t,xt] ty #[.slice none 0 0,.int k q]).run P w=
   .ok (.slice (some ⟨w.heap.size,0,none⟩) (j+1) nc) ((w.drew).alloc (.cells (Builtin.zeroCells z.cells (j+1)++Builtin.zeroCells z.cells (nc-(j+1))) e)):=by
 have⟨r1,r2⟩:=qsw hr;obtain⟨_,i,TV,Vl,TU,hi4⟩:=hT.inf e _ _ _ hi;have hs:cT T e=some size:=by simp[cT,hi]
 have g0:¬ (((j+1:Nat):Int)<0):=by omega
 have g4:¬ (((j+1:Nat):Int)*(i.bytes:Int)>2^48):=by rw[TU];have h':(((j+1)*by_:Nat):Int)<=((140737488355328:Nat):Int):=Int.ofNat_le.2 r1;rw[Int.natCast_mul]at h';omega
 have g1:¬ 0+(j+1)<=0:=by omega
 have g2:¬ (((0+(j+1):Nat):Int)>IntKind.i64.max/\(True\/i.bytes=0)):=by rw[IntKind.max_i64];omega
 have g3:¬ Builtin.nextslicecap (0+(j+1)) 0*i.bytes>2^48:=by have:=growslice_fits (bytes:=i.bytes) (show 0<0+(j+1) by omega) (by rw[TU,Nat.zero_add];exact r1);omega
 have g5:¬ (j+1)*size=0:=by have:=Nat.mul_pos (show 0<j+1 by omega) TP;omega
 have hz:(zeroValue e).run P w.drew=.ok z w.drew:=(J4 hT (⟨id,id,id⟩:Nm) w.drew hi).1;refine⟨(Question.appendCap (0+(j+1)) 0 e).cut (w.tape w.drawn (.appendCap (0+(j+1)) 0 e)),by simp[Question.cut],?_⟩;have hff:(Question.appendCap (0+(j+1)) 0 e).forced=false:=rfl;simp only[Builtin.append_,List.getElem?_toArray,List.getElem?_cons_zero,zH,zK,iK hT w ht,iK hT w hx,o8 hT w hs,zJ,zL,Sem.run_ite,if_true,asInt,asIntOf,hw,g0,if_false,typeInfo,run_program,TV,g4,zZ,g1,g2,g3,g5];simp[Builtin.firstCells];have hff':(Question.appendCap (j+1) 0 e).forced=false:=rfl;simp only[hff',Bool.false_eq_true,if_false,hz,zJ];simp[Go.newRow];rfl
def z2c{xt:TypeId}{sv u9 cx:O}(CJ:eT m s.nx sv u9)(hx:eT m s.nx x cx)(h:xa T s t xt sv x=some (v,bI)):Eff P m s w (Builtin.append_ #[t,xt] ty #[u9,cx]) v bI:=by
 unfold xa at h;split at h;rename_i e kd kd' i hd dI;have e1:u9=.slice none 0 0:=by rw[<-CJ.at];simp[ren]
 have e2:cx=.int kd' i:=by rw[<-hx.at];simp[ren]
 subst e1 e2;split at h;rename_i sz by_ z hi;split at h;rename_i k hw;rcases bM:yQ (k+1) by_ with _|_;simp[bM]at h;rw[bM]at h;simp only[zC]at h;rcases y3:Nat.beq z.cells.toList.length (sz+1)with _|_;rw[y3]at h;cases h;rw[y3]at h;simp only[zC]at h;rcases h1:tI (cC z.cells.toList (k+1))with _|_;rw[h1]at h;cases h;rw[h1]at h;simp only[zC,zA,zB]at h;obtain⟨rfl,rfl⟩:=h;have w9:=Gp hT hi;simp only at w9;have TK:z.cells.size=sz+1:=by simpa[beq_eq]using y3
 obtain⟨nc,vB,cR⟩:=qxh (P:=P) (w:=w) (ty:=ty) (k:=kd') hT hw hd dI hi (by omega) bM;have Az:fY m s w.drew:=kg _ hf;have P0:(Builtin.zeroCells z.cells (k+1)).toList=cC z.cells.toList (k+1):=by have:=Nj z.cells (k+1);simp only[Builtin.zeroCells]at*;rw[this]
 have aS:=yf Az (rest:=(Builtin.zeroCells z.cells (nc-(k+1))).toList) (ju (Oe w9 (k+1))) e nc (sz+1) (by
  have a1:(Builtin.zeroCells z.cells (nc-(k+1))).toList.length=(nc-(k+1))*z.cells.size:=by rw[Array.length_toList,iB]
  have a2:(cC z.cells.toList (k+1)).length=(k+1)*z.cells.size:=by rw[xz,Array.length_toList]
  rw[a1,a2,TK,<-Nat.add_mul];congr 1;omega)
 refine⟨_,_,.slice (some ⟨w.heap.size,0,none⟩) (k+1) nc,?_,(bG.draw (w.drawn+1) hf).trans aS,?_⟩;rw[cR];congr 3;apply Array.ext';simp[P0];have hw:w.drew.heap.size=w.heap.size:=rfl;rw[hw];refine S0 (zN _) fun m' ha=>?_;rw[Gr];have⟨_,_,e3⟩:=DU m s.nx w.heap.size 0 nc;exact(ha s.nx (zN _)).2.2.trans e3;cases h;cases h;cases h
def z2d{xt:TypeId}{sv u9 cx:O}(CJ:eT m s.nx sv u9)(hx:eT m s.nx x cx)(h:XX T s t xt sv x=some (v,bI)):Eff P m s w (Builtin.append_ #[t,xt] ty #[u9,cx]) v bI:=by unfold XX at h;split at h;rename_i r hr;cases h;exact z3u hT hf CJ hx hr;exact z2c hT hf CJ hx h
def z94{ts:V TypeId}{cx:O}(hx:eT m s.nx x cx)(h:XO T s t x=some (v,bI)):Eff P m s w (Builtin.clear_ (t::ts).toArray ty #[cx]) v bI:=by
 unfold XO at h;rcases hd:T.und t with _|dd;simp[hd]at h;cases dd with
 |slice e=>
  cases x with
  |slice base n c=>
   simp[hd]at h;have uQ:cx=.slice (base.map fun a=>⟨m.blk a.block,m.sh a.block+a.off,none⟩) n (mZ m base c):=by rw[<-hx.at];cases base<;>simp[ren,mZ]
   cases n with
   |zero=>simp[zA,zB]at h;have⟨rfl,rfl⟩:=h;refine⟨m,w,undef,?_,bG.refl hf,B7 fun _=>by simp[undef,ren,aE]⟩;rw[uQ];cases base<;>simp[Builtin.clear_,iK hT w hd,undef]
   |succ n=>
    cases base with
    |none=>simp[zA,zB]at h;have⟨rfl,rfl⟩:=h;refine⟨m,w,undef,?_,bG.refl hf,B7 fun _=>by simp[undef,ren,aE]⟩;rw[uQ];simp[Builtin.clear_,iK hT w hd,undef]
    |some a=>
     simp only at h;rcases hi:T.inf e with _|q;simp[hi]at h;have⟨sz,by_,z⟩:=q;simp[hi]at h;have hz:=(J4 hT m w hi).1;have w9:=Gp hT hi;simp only at hz w9;rcases h1:tI (cC z.cells.toList (n+1))with _|_;simp[h1]at h;simp[h1,zC]at h;rcases hr:cY s a.block with _|r;simp[hr]at h;have⟨l,e',md⟩:=r;simp[hr]at h;rcases hp:uC l a.off (cC z.cells.toList (n+1))with _|l';simp[hp]at h;simp[hp,zA,zB]at h;have⟨rfl,rfl⟩:=h;have⟨w₁,cK,aS⟩:=jb (P:=P) hf hr hp (ju (Oe w9 (n+1))) h1;refine⟨m,w₁,undef,?_,aS,B7 fun _=>by simp[undef,ren,aE]⟩;have P0:(Builtin.zeroCells z.cells (n+1)).toList=cC z.cells.toList (n+1):=by have:=Nj z.cells (n+1);simp only[Builtin.zeroCells]at*;rw[this]
     rw[uQ];simp[Builtin.clear_,iK hT w hd,undef,hz,P0,cK]
  |_=>simp[hd]at h
 |_=>simp[hd]at h
def z7n{cx:O}{lo hi mx:M O}{clo chi cmx:M O}(hx:eT m s.nx x cx)(h1:∀m',aI s.nx m m'->lo.map (ren m')=clo)(h2:∀m',aI s.nx m m'->hi.map (ren m')=chi)
  (h3:∀m',aI s.nx m m'->mx.map (ren m')=cmx) (h:Ey T s t x lo hi mx=some (v,bI)):Eff P m s w (Instr.sliceAt t cx clo chi cmx) v bI:=by
 have e1:=h1 m (aI.refl _ _);have e2:=h2 m (aI.refl _ _);have e3:=h3 m (aI.refl _ _);unfold Ey at h;rcases hd:T.und t with _|dd;simp[hd]at h;cases dd with
 |slice e=>
  cases x with
  |slice p n c=>
   rcases p with _|a;simp[hd]at h;simp[hd]at h;cases hc:Nat.blt c bY with
   |true=>simp[hc]at h|false=>
    have mV:¬ c<bY:=Ol hc;simp[hc,zD]at h;rcases hs:cT T e with _|sz;simp[hs]at h;simp[hs]at h;rcases hr:F9 s a.block sz with _|l;simp[hr]at h;simp[hr,beq_eq]at h;by_cases eL:a.off=bR c*sz;rw[decide_eq_true eL]at h;simp[zC]at h;rcases gA:Nat.blt 0 sz with _|_;simp[gA]at h;have tP:0<sz:=J6 gA;simp[gA,zC]at h;obtain⟨sz,rfl⟩:∃q,sz=q+1:=⟨sz-1,by omega⟩;have⟨_,_,MX,_⟩:=nr hr;have hl:=hr;have gW:=(hf.fits).bd _ _ MX;have uQ:cx=.slice (some ⟨m.blk a.block,m.sh a.block+a.off,none⟩) n (m.cp a.block-bR c):=by rw[<-hx.at];simp[ren,bX,mV]
    have CT:(l.length-a.off)/(sz+1)<=m.cp a.block-bR c:=by
     rcases Nat.eq_zero_or_pos ((l.length-a.off)/(sz+1))with h0 |hp;omega;have sL:=Nat.div_mul_le_self (l.length-a.off) (sz+1);have EB:a.off<=l.length:=by rcases Nat.lt_or_ge l.length a.off with aF |EB;rw[show l.length-a.off=0 by omega]at hp;simp at hp;exact EB
     have:=xe m w hf.fits (c:=c) (n:=(l.length-a.off)/(sz+1)) (off:=a.off) hl eL (by omega);omega
    have hu:=iK hT w hd;cases mx with
    |some vm=>
     simp only at h;rcases vH:jS vm ((l.length-a.off)/(sz+1))with _|M0;simp[vH]at h;simp[vH]at h;rcases pP:Nat.ble (a.off+M0*(sz+1)) l.length with _|_;simp[pP]at h;simp[pP,zC]at h;rcases hb:i8 n M0 lo hi (some vm)with _|q;simp[hb]at h;have⟨l1,hh,v10⟩:=q;simp[hb]at h;rcases hMc:Nat.blt v10 bY with _|_;simp[hMc]at h;simp[hMc,zC,zA,zB]at h;have⟨rfl,rfl⟩:=h;have Bl:v10<bY:=J6 hMc;have hM0:M0<=m.cp a.block-bR c:=by have:=(RX (P:=P) m w vH _ (zF _) .index).2;omega
     have⟨b1,b2,b3,_⟩:=OB (P:=P) (isS:=true) m w hb hM0;simp only[Option.isSome_some,if_true]at b1;rw[e1,e2,e3]at b1;have KM:v10-l1<bY:=Nat.lt_of_le_of_lt (Nat.sub_le _ _) Bl;refine⟨m,w,.slice (if v10=l1 then some ⟨m.blk a.block,m.sh a.block+a.off,none⟩else some ⟨m.blk a.block,m.sh a.block+a.off+l1*(sz+1),none⟩) (hh-l1) (v10-l1),?_,bG.refl hf,fun m' ha=>?_⟩;rw[uQ];simp[Instr.sliceAt,zK,hu,zJ,Instr.slice,b1,o8 hT w hs,zL,zM,yU];have⟨q1,q2,_⟩:=ha a.block gW;by_cases CX:v10=l1;rw[CX]at KM ⊢;simp only[yC,zC,ren,q1,q2,if_true,bX,if_pos KM];simp only[decide_eq_false CX,zD,ren,q1,q2,if_neg CX,bX,if_pos KM,Nat.add_assoc]
    |none=>
     simp only at h;rcases hb:i8 n ((l.length-a.off)/(sz+1)) lo hi none with _|q;simp[hb]at h;have⟨l1,hh,v10⟩:=q;simp[hb]at h;rcases pP:Nat.ble (a.off+hh*(sz+1)) l.length with _|_;simp[pP]at h;simp[pP,zC]at h;have Ar:a.off+hh*(sz+1)<=l.length:=zY pP;have hhC:=xe m w hf.fits (c:=c) (n:=hh) (off:=a.off) hl eL Ar;have⟨b1,b2,_,b4⟩:=OB (P:=P) (isS:=true) m w hb CT;simp only[Option.isSome_none,Bool.false_eq_true,if_false]at b1;rw[e1,e2,e3]at b1;have cR:(Instr.sliceAt t cx clo chi cmx).run P w=.ok (.slice (if m.cp a.block-bR c=l1 then some ⟨m.blk a.block,m.sh a.block+a.off,none⟩else some ⟨m.blk a.block,m.sh a.block+a.off+l1*(sz+1),none⟩) (hh-l1) (m.cp a.block-bR c-l1)) w:=by rw[uQ];simp[Instr.sliceAt,zK,hu,zJ,Instr.slice,b1,o8 hT w hs,zL,zM,yU]
     cases l1 with
     |zero=>
      simp[zA,zB]at h;have⟨rfl,rfl⟩:=h;have Um:(Instr.sliceAt t cx clo chi cmx).run P w=.ok (.slice (some ⟨m.blk a.block,m.sh a.block+a.off,none⟩) hh (m.cp a.block-bR c)) w:=by rw[Nat.sub_zero,Nat.sub_zero,Nat.zero_mul,Nat.add_zero]at cR;by_cases hC:m.cp a.block-bR c=0;rw[if_pos hC]at cR;exact cR;rw[if_neg hC]at cR;exact cR
      refine⟨m,w,_,Um,bG.refl hf,fun m' ha=>?_⟩;have⟨q1,q2,q3⟩:=ha a.block gW;simp[ren,q1,q2,q3,bX,if_neg mV]
     |succ l1=>
      simp only at h;cases aF:Nat.blt (l1+1) hh with
      |true=>
       have xK:l1+1<hh:=J6 aF;simp[aF,zC,zA,zB]at h;have⟨rfl,rfl⟩:=h;refine⟨m,w,_,cR,bG.refl hf,fun m' ha=>?_⟩;have⟨q1,q2,q3⟩:=ha a.block gW;have d5:¬ m.cp a.block-bR c=l1+1:=by omega
       have vB:¬ c+(l1+1)<bY:=fun hh=>mV (Nat.lt_of_le_of_lt (Nat.le_add_right _ _) hh);have BL:bR (c+(l1+1))=bR c+(l1+1):=qzp (Nat.le_of_not_lt mV) _;simp[ren,q1,q2,q3,bX,if_neg vB,if_neg d5,BL,Nat.add_assoc,Nat.sub_sub]
      |false=>
       simp[aF,zD,zA,zB]at h;have⟨rfl,rfl⟩:=h;have EB:=Ol aF;have HK:hh=l1+1:=by omega
       subst HK;rw[Nat.sub_self]at cR;by_cases hC:m.cp a.block-bR c=l1+1;rw[if_pos hC]at cR;refine⟨_,w,_,cR,bG.ghost hf (m.blk a.block) (m.sh a.block+a.off) (m.cp a.block-bR c-(l1+1)),S0 (zN _) fun m' ha=>?_⟩;rw[Gr];have⟨_,_,e3⟩:=DU m s.nx (m.blk a.block) (m.sh a.block+a.off) (m.cp a.block-bR c-(l1+1));exact(ha s.nx (zN _)).2.2.trans e3;rw[if_neg hC]at cR;refine⟨_,w,_,cR,bG.ghost hf (m.blk a.block) (m.sh a.block+a.off+(l1+1)*(sz+1)) (m.cp a.block-bR c-(l1+1)),S0 (zN _) fun m' ha=>?_⟩;rw[Gr];have⟨_,_,e3⟩:=DU m s.nx (m.blk a.block) (m.sh a.block+a.off+(l1+1)*(sz+1)) (m.cp a.block-bR c-(l1+1));exact(ha s.nx (zN _)).2.2.trans e3
    rw[decide_eq_false eL]at h;simp at h
  |_=>simp[hd]at h
 |_=>simp[hd]at h
end
def vL{v11 I:Type}(f:v11->I)(l:V v11)(i:Nat):(l.eraseIdx i).map f=(l.map f).eraseIdx i:=by induction l generalizing i with|nil=>simp|cons a l ih=>cases i<;>simp[ih]
section
variable{P:H0}{T:Tb}(hT:kT P T){m:Nm}{s:S}{w:PL}(hf:fY m s w)
include hT hf
variable{t:TypeId}
variable{mv:O}
variable{k:O}
variable{cm:O}
variable{ck:O}
variable{bI:S}
def z0i{x cx u:O}(hm:eT m s.nx mv cm)(hk:eT m s.nx k ck)(hx:eT m s.nx x cx)(h:XH T s t mv k x=some (u,bI)):
  Q3 P m s w (Instr.mapUpdate t cm ck cx) bI/\u=undef:=by
 unfold XH at h;rcases hd:T.und t with _|dd;simp[hd]at h;cases dd with
 |map kt et=>
  cases mv with
  |map r=>
   rcases r with _|r;simp[hd]at h;simp[hd]at h;rcases tR:pJ T 50 kt k with _|_;simp[tR]at h;simp[tR,zC]at h;have⟨ty,pB⟩:=xp tR;rcases kI:plain k with _|_;simp[kI]at h;simp[kI,zC]at h;rcases hr:DQ s r with _|q;simp[hr]at h;have⟨es,cl⟩:=q;simp[hr]at h;have hb:w.heap[m.blk r]? = some (.map (es.map (fB m)).toArray cl):=(hf.fits).ok r _ (Gu hr);have HQ:cm=.map (some (m.blk r)):=by rw[<-hm.at];simp[ren]
   have eck:ck=k:=by rw[<-hk.at];exact C6 m k kI
   have xO:=Mq hT m false 50 9950 w tR;rw[C6 m k kI]at xO;have cK:=kc hf hr;rcases hfx:rE T kt k es 0 with _|fr;simp[hfx]at h;have vG:=O4 hT m w pB hfx;rw[C6 m k kI]at vG;cases fr with
   |none=>simp[hfx,zA,zB]at h;have⟨rfl,rfl⟩:=h;refine⟨?_,rfl⟩;have⟨w₁,h1,h2⟩:=XQ (P:=P) hf hr (es':=es++[{ key:=k,val:=x,born:=cl }]) (cl':=cl+1) (ces:=es.map (fB m)++[{ key:=k,val:=cx,born:=cl }]) (fun m' ha=>by simp[fB,C6 m' k kI,hx m' ha];have:=cK m' ha;simpa[fB]using this);refine⟨m,w₁,?_,h2⟩;rw[HQ,eck];simp only[Instr.mapUpdate,zK,iK hT w hd,zJ,MP hb,xO,vG,Option.map_none];rw[<-h1];simp
   |some p=>
    have⟨i,pv⟩:=p;simp[hfx,jD]at h;rcases hei:es[i]? with _|e;simp[hei]at h;simp[hei]at h;rcases hv:AT 50 e.key k with _|_;simp[hv]at h;simp[hv,zC,zA,zB]at h;have⟨rfl,rfl⟩:=h;refine⟨?_,rfl⟩;have⟨tS,G2⟩:=qqo (P:=P) hv w;have K8:∀m',aI s.nx m m'->(N4 es i fun e=>{ e with val:=x }).map (fB m')=(es.map (fB m)).modify i fun e=>{ e with key:=k,val:=cx }:=fun m' ha=>by rw[Z',<-cK m' ha];apply List.ext_getElem?;intro j;simp[List.getElem?_map,List.getElem?_modify];by_cases lM:i=j;subst lM;simp[hei,fB,hx m' ha,G2,C6 m' k kI];cases es[j]? <;> simp[lM]
    have⟨w₁,h1,h2⟩:=XQ (P:=P) hf hr (cl':=cl) K8;refine⟨m,w₁,?_,h2⟩;have tU:(es.map (fB m)).toArray[i]? = some (fB m e):=by simp[hei]
    have vD:(fB m e).key=k:=by simp[fB,G2,C6 m k kI]
    rw[G2]at tS;rw[HQ,eck];simp only[Instr.mapUpdate,zK,iK hT w hd,zJ,MP hb,xO,vG,zM,tU,Option.getD_some,vD,tS];rw[<-h1];simp
  |_=>simp[hd]at h
 |_=>simp[hd]at h
def z6b{v:O}(hm:eT m s.nx mv cm)(hk:eT m s.nx k ck)(h:Ft T s t mv k=some (v,bI)):Eff P m s w (Instr.mapEntry t cm ck) v bI:=by
 unfold Ft at h;rcases hd:T.und t with _|dd;simp[hd]at h;cases dd with
 |map kt et=>
  cases mv with
  |map r=>
   rcases r with _|r;simp[hd]at h;simp only[hd]at h;rcases tR:pJ T 50 kt k with _|_;simp[tR]at h;simp only[tR,zC]at h;obtain⟨ty,pB⟩:=xp tR;rcases kI:plain k with _|_;simp[kI]at h;simp only[kI,zC]at h;rcases hr:DQ s r with _|q;simp[hr]at h;obtain⟨es,cl⟩:=q;simp only[hr]at h;have hb:w.heap[m.blk r]? = some (.map (es.map (fB m)).toArray cl):=(hf.fits).ok r _ (Gu hr);have HQ:cm=.map (some (m.blk r)):=by rw[<-hm.at];simp[ren]
   have eck:ck=k:=by rw[<-hk.at];exact C6 m k kI
   have xO:=Mq hT m false 50 9950 w tR;rw[C6 m k kI]at xO;have cK:=kc hf hr;rcases hfx:rE T kt k es 0 with _|fr;simp[hfx]at h;have vG:=O4 hT m w pB hfx;rw[C6 m k kI]at vG;cases fr with
   |none=>
    simp only[hfx]at h;rcases hi:T.inf et with _|y;simp[hi]at h;obtain⟨y1,y2,z⟩:=y;have hz:=fun m'=>J4 hT m' w hi
    simp only at hz;simp only[hi,zA,zB]at h;obtain⟨rfl,rfl⟩:=h;obtain⟨w₁,h1,h2⟩:=XQ (P:=P) hf hr (es':=es++[{ key:=k,val:=z,born:=cl }]) (cl':=cl+1) (ces:=es.map (fB m)++[{ key:=k,val:=z,born:=cl }]) (fun m' ha=>by simp[fB,C6 m' k kI,(hz m').2];have:=cK m' ha;simpa[fB]using this);refine⟨m,w₁,.tuple #[z,.int .i64 cl],?_,h2,fun m' _=>by simp[ren,aE,(hz m').2]⟩;rw[HQ,eck];have y6:(setObj (m.blk r) (.map ((es.map (fB m)).toArray.push { key:=k,val:=z,born:=cl }) (cl+1))).run P w=.ok () w₁:=by rw[<-h1];simp
    simp only[Instr.mapEntry,zK,iK hT w hd,zJ,MP hb,xO,vG,Option.map_none,(hz m).1,y6,zL,goInt]
   |some p=>
    obtain⟨i,pv⟩:=p;obtain⟨_,e0,Vt,hpv⟩:=z9j es 0 hfx;simp only[Nat.sub_zero]at Vt;simp only[hfx,jD,Vt]at h;rcases hv:AT 50 e0.key k with _|_;simp[hv]at h;simp only[hv,zC,zA,zB]at h;obtain⟨rfl,rfl⟩:=h;obtain⟨tS,G2⟩:=qqo (P:=P) hv w;obtain⟨w₁,h1,h2⟩:=XQ (P:=P) hf hr (es':=es) (cl':=cl) cK;have tU:(es.map (fB m)).toArray[i]? = some (fB m e0):=by simp[Vt]
    have vD:(fB m e0).key=k:=by simp[fB,G2,C6 m k kI]
    have Wf:(fB m e0).born=e0.born:=rfl;rw[G2]at tS;have K8:(es.map (fB m)).toArray.modify i (fun e=>{ e with key:=k })=(es.map (fB m)).toArray:=by apply Array.ext';simp only[Array.toList_modify];apply List.ext_getElem?;intro j;simp only[List.getElem?_modify];by_cases lM:i=j;subst lM;simp[Vt,fB,G2,C6 m k kI];cases ((es.map (fB m)).toArray.toList)[j]? <;> simp[lM]
    refine⟨m,w₁,.tuple #[ren m pv,.int .i64 e0.born],?_,h2,fun m' ha=>?_⟩;rw[HQ,eck];simp only[Instr.mapEntry,zK,iK hT w hd,zJ,MP hb,xO,vG,zM,tU,Option.getD_some,vD,tS,K8,h1,zL,goInt,Wf];have:=cK m' ha;have h3:(fB m' e0)=fB m e0:=by have:=congrArg (fun l=>l[i]?) this;simpa[Vt]using this
    have h4:ren m' pv=ren m pv:=by have:=congrArg MapEntry.val h3;simpa[fB,hpv]using this
    simp[ren,aE,h4]
  |_=>simp[hd]at h
 |_=>simp[hd]at h
omit hT in
def z9d{t:TypeId}{mv st x cm cst cx u:O}{bI:S}(hm:eT m s.nx mv cm)(hs:eT m s.nx st cst)(hx:eT m s.nx x cx)(h:Ms s mv st x=some (u,bI)):
  Q3 P m s w (Instr.entryStore t cm cst cx) bI/\u=undef:=by
 unfold Ms at h;cases mv with
 |map r=>
  rcases r with _|r;simp at h;cases st with
  |int k b=>
   simp only at h;rcases hr:DQ s r with _|q;simp[hr]at h;have⟨es,cl⟩:=q;simp[hr]at h;rcases Wf:RB b es 0 with _|i;simp[Wf]at h;simp[Wf,zA,zB]at h;have⟨rfl,rfl⟩:=h;refine⟨?_,rfl⟩;have hb:w.heap[m.blk r]? = some (.map (es.map (fB m)).toArray cl):=(hf.fits).ok r _ (Gu hr);have HQ:cm=.map (some (m.blk r)):=by rw[<-hm.at];simp[ren]
   have ecs:cst=.int k b:=by rw[<-hs.at];simp[ren]
   have cK:=kc hf hr;have Vp:∀(l:V MapEntry)(n i:Nat),RB b l n=some i->n<=i/\(l.map (fB m)).findIdx? (fun e=>(e.born:Int)==b)=some (i-n):=by
    intro l;induction l with
    |nil=>intro n i hh;simp[RB]at hh|cons e l ih=>
     intro n i hh;simp[RB]at hh;by_cases he:(e.born:Int)=b;simp[he]at hh;subst hh;have cP:(((fB m e).born:Int)==b)=true:=by simpa[fB]using he
     refine⟨zF _,?_⟩;rw[zQ,List.findIdx?_cons,cP];simp;simp[he,yB,zD]at hh;have⟨h1,h2⟩:=ih (n+1) i hh;have cP:(((fB m e).born:Int)==b)=false:=by simpa[fB]using he
     refine⟨by omega,?_⟩;rw[zQ,List.findIdx?_cons,cP,h2];simp;omega
   have⟨_,vG⟩:=Vp es 0 i Wf;have K8:∀m',aI s.nx m m'->(N4 es i fun e=>{ e with val:=x }).map (fB m')=(es.map (fB m)).modify i fun e=>{ e with val:=cx }:=fun m' ha=>by rw[Z',<-cK m' ha];apply List.ext_getElem?;intro j;simp[List.getElem?_map,List.getElem?_modify];by_cases lM:i=j;subst lM;cases es[i]? <;> simp[fB,hx m' ha];cases es[j]? <;> simp[lM]
   have⟨w₁,h1,h2⟩:=XQ (P:=P) hf hr (cl':=cl) K8;refine⟨m,w₁,?_,h2⟩;rw[HQ,ecs];have Vq:(es.map (fB m)).toArray.findIdx? (fun e=>(e.born:Int)==b)=some i:=by rw[List.findIdx?_toArray,vG];simp
   simp only[Instr.entryStore,zK,MP hb,zJ,asInt,asIntOf,zL,Vq];rw[<-h1];simp
  |_=>simp at h
 |_=>simp at h
def Cu{ty:TypeId}{ts:V TypeId}{v:O}(hm:eT m s.nx mv cm)(hk:eT m s.nx k ck)(h:GC T s t mv k=some (v,bI)):Eff P m s w (Builtin.delete_ (t::ts).toArray ty #[cm,ck]) v bI:=by
 unfold GC at h;rcases hd:T.und t with _|dd;simp[hd]at h;cases dd with
 |map kt et=>
  cases mv with
  |map r=>
   cases r with
   |none=>
    simp only[hd]at h;rcases tR:pJ T 50 kt k with _|_;simp[tR]at h;simp only[tR,zC,zA,zB]at h;obtain⟨rfl,rfl⟩:=h;have HQ:cm=.map none:=by rw[<-hm.at];simp[ren]
    have xO:=Mq hT m true 50 9950 w tR;rw[hk.at]at xO;refine⟨m,w,undef,?_,bG.refl hf,B7 fun _=>by simp[undef,ren,aE]⟩;rw[HQ];have PF:(Instr.checkKey true 10000 kt ck).run P w=.ok () w:=xO;simp[Builtin.delete_,iK hT w hd,PF,undef]
   |some r=>
    simp only[hd]at h;rcases tR:pJ T 50 kt k with _|_;simp[tR]at h;simp only[tR,zC]at h;obtain⟨ty,pB⟩:=xp tR;rcases hr:DQ s r with _|q;simp[hr]at h;obtain⟨es,cl⟩:=q;simp only[hr]at h;have hb:w.heap[m.blk r]? = some (.map (es.map (fB m)).toArray cl):=(hf.fits).ok r _ (Gu hr);have HQ:cm=.map (some (m.blk r)):=by rw[<-hm.at];simp[ren]
    have xO:=Mq hT m (es.map (fB m)).toArray.isEmpty 50 9950 w tR;rw[hk.at]at xO;have PF:(Instr.checkKey (es.map (fB m)).toArray.isEmpty 10000 kt ck).run P w=.ok () w:=xO;have cK:=kc hf hr;rcases hfx:rE T kt k es 0 with _|fr;simp[hfx]at h;have vG:=O4 hT m w pB hfx;rw[hk.at]at vG;cases fr with
    |none=>simp only[hfx,zA,zB]at h;obtain⟨rfl,rfl⟩:=h;obtain⟨w₁,h1,h2⟩:=XQ (P:=P) hf hr (es':=es) (cl':=cl) cK;refine⟨m,w₁,undef,?_,h2,B7 fun _=>by simp[undef,ren,aE]⟩;rw[HQ];simp only[Builtin.delete_,List.getElem?_toArray,List.getElem?_cons_zero,zH,zK,iK hT w hd,zJ,MP hb,PF,vG,Option.map_none,h1,zL,undef]
    |some p=>
     obtain⟨i,pv⟩:=p;simp only[hfx,zA,zB]at h;obtain⟨rfl,rfl⟩:=h;obtain⟨w₁,h1,h2⟩:=XQ (P:=P) hf hr (es':=XM es i) (cl':=cl) (ces:=(es.map (fB m)).eraseIdx i) (fun m' ha=>by rw[qvs,<-cK m' ha,vL]);refine⟨m,w₁,undef,?_,h2,B7 fun _=>by simp[undef,ren,aE]⟩;have y6:(setObj (m.blk r) (.map ((es.map (fB m)).toArray.eraseIdxIfInBounds i) cl)).run P w=.ok () w₁:=by rw[<-h1];simp
     rw[HQ];simp only[Builtin.delete_,List.getElem?_toArray,List.getElem?_cons_zero,zH,zK,iK hT w hd,zJ,MP hb,PF,vG,zM,y6,zL,undef]
  |_=>simp[hd]at h
 |_=>simp[hd]at h
end
def vX(m:Nm)(n:Nat)(tm:V O)(a:Act):Prop:=∀m',aI n m m'->a.tmps=⟨aE m' tm⟩
variable{m:Nm}
variable{n:Nat}
variable{tm:V O}
variable{a:Act}
def vX.ext{m':Nm}{n':Nat}(h:vX m n tm a)(ha:aI n m m')(hn:n<=n'):vX m' n' tm a:=fun k hk=>h k (ha.trans hk hn)
variable{v:O}
def vX.evalO(h:vX m n tm a){x:EW}(hx:evalO tm x=some v):eT m n v (a.eval x):=fun m' ha=>(kF (h m' ha) hx).symm
def z1f(m:Nm)(tm:V O)(d:Nat)(v:O):aE m (tm.set d v)=(aE m tm).set d (ren m v):=by simp[kE,List.map_set]
def vX.put{m:Nm}{n:Nat}{tm:V O}{a:Act}(h:vX m n tm a){v cv:O}(hv:eT m n v cv)(d:M Tmp):vX m n (LQ tm d v) (a.put d cv):=fun m' ha=>by
 rcases d with _|d;exact h m' ha;simp[Act.put,LQ,h m' ha,z1f,hv m' ha,List.setIfInBounds_toArray]
section
variable{P:H0}{T:Tb}(hT:kT P T){m:Nm}{s:S}{w:PL}(hf:fY m s w)
include hT hf
def Cs(ha:vX m s.nx tm a)(o:Oper){bI:S}(h:uD T tm s o.op=some (v,bI)):
  ∃aK w₁ cv nxt,(execOp a.eval o).run P w=.ok nxt w₁/\(nxt=.value cv\/(nxt=.skip/\cv=undef))/\bG m s w aK bI w₁/\eT aK bI.nx v cv:=by
 obtain⟨dst,op,type,pos,after,guard⟩:=o;simp only at h;have eP:∀{x:Sem O},Eff P m s w x v bI->∃aK w₁ cv nxt,(do let y <-x;pure (Next.value y):Sem Next).run P w=.ok nxt w₁/\(nxt=.value cv\/(nxt=.skip/\cv=undef))/\bG m s w aK bI w₁/\eT aK bI.nx v cv:=by rintro x ⟨aK,w₁,cv,h1,h2,h3⟩;exact⟨aK,w₁,cv,_,by simp only[zK,h1,zJ,zL],.inl rfl,h2,h3⟩
 have E5:∀{x:Sem Unit},Q3 P m s w x bI/\v=undef->∃aK w₁ cv nxt,(do x;pure Next.skip:Sem Next).run P w=.ok nxt w₁/\(nxt=.value cv\/(nxt=.skip/\cv=undef))/\bG m s w aK bI w₁/\eT aK bI.nx v cv:=by rintro x ⟨⟨aK,w₁,h1,h2⟩,rfl⟩;exact⟨aK,w₁,undef,_,by simp only[zK,h1,zJ,zL],.inr ⟨rfl,rfl⟩,h2,B7 fun _=>by simp[undef,ren,aE]⟩
 unfold uD at h;cases op with
 |alloc e=>simp only at h;rcases hi:T.inf e with _|x;simp[hi]at h;obtain⟨x1,x2,z⟩:=x;simp only[hi,zA,zB]at h;obtain⟨rfl,rfl⟩:=h;have hz:=(J4 hT m w hi).1;have w9:=Gp hT hi;simp only at hz w9;refine eP ⟨_,_,.pointer (some ⟨w.heap.size,0,none⟩),?_,wo hf (ju w9) e 0,z1e _ _ _ _ (zN _)⟩;simp[Instr.alloc,hz,newVar,Go.newRow]
 |box e x=>simp only at h;rcases hx:evalO tm x with _|u;simp[hx]at h;simp only[hx,zA,zB]at h;obtain⟨rfl,rfl⟩:=h;refine eP ⟨_,_,.pointer (some ⟨w.heap.size,0,none⟩),?_,wo hf (ha.evalO hx).cells e 0,z1e _ _ _ _ (zN _)⟩;simp[Instr.box,newVar,Go.newRow]
 |store t p x=>simp only at h;rcases hp:evalO tm p with _|u;simp[hp]at h;rcases hx:evalO tm x with _|u';simp[hp,hx]at h;simp only[hp,hx]at h;exact E5 (zar hT hf (ha.evalO hp) (ha.evalO hx) h)
 |buildSlice t n ps=>
  simp only at h;rcases hp:IY tm ps.toList with _|qs;simp[hp]at h;simp only[hp]at h;have e1:(ps.map fun(i,x)=>(i,a.eval x))=(ps.toList.map fun p=>(p.1,a.eval p.2)).toArray:=by cases ps;simp
  have:=qyk hT hf (cps:=ps.toList.map fun p=>(p.1,a.eval p.2)) (fun m' eF=>(dz (ha m' eF) hp).symm) h;simp only[execOp];rw[e1];exact eP this
 |makeSlice t l c=>simp only at h;rcases hp:evalO tm l with _|u;simp[hp]at h;rcases hx:evalO tm c with _|u';simp[hp,hx]at h;simp only[hp,hx]at h;exact eP (zdb hT hf (ha.evalO hp) (ha.evalO hx) h)
 |makeMap t r=>cases r with|some r=>simp at h|none=>simp only[zA,zB]at h;obtain⟨rfl,rfl⟩:=h;refine eP ⟨_,_,.map (some w.heap.size),?_,bG.alloc hf (.map #[] 0) (.inr ([],0)) 0 ?_,fun m' eF=>?_⟩;simp[Instr.makeMap];intro m' eF;have e1:=(eF s.nx (zN _)).1;simp only[uY,e1,(DU m s.nx w.heap.size 0 0).1];show(w.heap.push _)[w.heap.size]? = _;simp;have e1:=(eF s.nx (zN _)).1;simp only[ren,e1,(DU m s.nx w.heap.size 0 0).1]
 |slice t x lo hi mx=>simp only at h;rcases hx:evalO tm x with _|u;simp[hx]at h;rcases h1:sD tm lo with _|l;simp[hx,h1]at h;rcases h2:sD tm hi with _|hh;simp[hx,h1,h2]at h;rcases h3:sD tm mx with _|mm;simp[hx,h1,h2,h3]at h;simp only[hx,h1,h2,h3]at h;exact eP (z7n hT hf (ha.evalO hx) (fun m' eF=>(O8 (ha m' eF) h1).symm) (fun m' eF=>(O8 (ha m' eF) h2).symm) (fun m' eF=>(O8 (ha m' eF) h3).symm) h)
 |mapUpdate t q k x=>simp only at h;rcases h1:evalO tm q with _|u1;simp[h1]at h;rcases h2:evalO tm k with _|u2;simp[h1,h2]at h;rcases h3:evalO tm x with _|u3;simp[h1,h2,h3]at h;simp only[h1,h2,h3]at h;exact E5 (z0i hT hf (ha.evalO h1) (ha.evalO h2) (ha.evalO h3) h)
 |insert t q k x=>simp only at h;rcases h1:evalO tm q with _|u1;simp[h1]at h;rcases h2:evalO tm k with _|u2;simp[h1,h2]at h;rcases h3:evalO tm x with _|u3;simp[h1,h2,h3]at h;simp only[h1,h2,h3]at h;exact E5 (z0i hT hf (ha.evalO h1) (ha.evalO h2) (ha.evalO h3) h)
 |mapEntry t q k=>simp only at h;rcases h1:evalO tm q with _|u1;simp[h1]at h;rcases h2:evalO tm k with _|u2;simp[h1,h2]at h;simp only[h1,h2]at h;exact eP (z6b hT hf (ha.evalO h1) (ha.evalO h2) h)
 |entryStore t q k x=>simp only at h;rcases h1:evalO tm q with _|u1;simp[h1]at h;rcases h2:evalO tm k with _|u2;simp[h1,h2]at h;rcases h3:evalO tm x with _|u3;simp[h1,h2,h3]at h;simp only[h1,h2,h3]at h;exact E5 (z9d hf (ha.evalO h1) (ha.evalO h2) (ha.evalO h3) h)
 |call c=>
  obtain⟨callee,args,ats⟩:=c;simp only at h;cases callee with
  |builtin b=>
   cases b with
   |append=>
    simp only at h;rcases hx:kW tm args.toList with _|vs;simp[hx]at h;rcases vs with _ |⟨x,_ |⟨y,_ |⟨z,l⟩⟩⟩;simp[hx]at h;simp[hx]at h;obtain⟨ats⟩:=ats;rcases ats with _ |⟨t,_ |⟨xt,_ |⟨q,r⟩⟩⟩;simp[hx]at h;simp[hx]at h;simp only[hx]at h;have e0:=sH (ha m (aI.refl _ _)) hx;simp only[aE]at e0;have r1:eT m s.nx x (ren m x):=fun m' eF=>by have e1:=sH (ha m' eF) hx;rw[e0]at e1;simp only[aE]at e1;simp at e1;exact e1.1.symm
    have r2:eT m s.nx y (ren m y):=fun m' eF=>by have e1:=sH (ha m' eF) hx;rw[e0]at e1;simp only[aE]at e1;simp at e1;exact e1.2.symm
    obtain⟨aK,w₁,cv,g1,g2,g3⟩:=z2d hT hf (ty:=type) r1 r2 h;refine⟨aK,w₁,cv,.value cv,?_,.inl rfl,g2,g3⟩;simp only[execOp,zK,resolve,zL,zJ,invoke,builtin,e0];rw[g1];rfl;simp[hx]at h;simp[hx]at h
   |copy=>
    simp only at h;rcases hx:kW tm args.toList with _|vs;simp[hx]at h;rcases vs with _ |⟨x,_ |⟨y,_ |⟨z,l⟩⟩⟩;simp[hx]at h;simp[hx]at h;obtain⟨ats⟩:=ats;rcases ats with _ |⟨t,ts⟩;simp[hx]at h;simp only[hx]at h;have e0:=sH (ha m (aI.refl _ _)) hx;simp only[aE]at e0;have r1:eT m s.nx x (ren m x):=fun m' eF=>by have e1:=sH (ha m' eF) hx;rw[e0]at e1;simp only[aE]at e1;simp at e1;exact e1.1.symm
    have r2:eT m s.nx y (ren m y):=fun m' eF=>by have e1:=sH (ha m' eF) hx;rw[e0]at e1;simp only[aE]at e1;simp at e1;exact e1.2.symm
    obtain⟨aK,w₁,cv,g1,g2,g3⟩:=zcw hT hf (ty:=type) (ts:=ts) r1 r2 h;refine⟨aK,w₁,cv,.value cv,?_,.inl rfl,g2,g3⟩;simp only[execOp,zK,resolve,zL,zJ,invoke,builtin,e0];rw[g1];rfl;simp[hx]at h
   |delete=>
    simp only at h;rcases hx:kW tm args.toList with _|vs;simp[hx]at h;rcases vs with _ |⟨x,_ |⟨y,_ |⟨z,l⟩⟩⟩;simp[hx]at h;simp[hx]at h;obtain⟨ats⟩:=ats;rcases ats with _ |⟨t,ts⟩;simp[hx]at h;simp only[hx]at h;have e0:=sH (ha m (aI.refl _ _)) hx;simp only[aE]at e0;have r1:eT m s.nx x (ren m x):=fun m' eF=>by have e1:=sH (ha m' eF) hx;rw[e0]at e1;simp only[aE]at e1;simp at e1;exact e1.1.symm
    have r2:eT m s.nx y (ren m y):=fun m' eF=>by have e1:=sH (ha m' eF) hx;rw[e0]at e1;simp only[aE]at e1;simp at e1;exact e1.2.symm
    obtain⟨aK,w₁,cv,g1,g2,g3⟩:=Cu hT hf (ty:=type) (ts:=ts) r1 r2 h;refine⟨aK,w₁,cv,.value cv,?_,.inl rfl,g2,g3⟩;simp only[execOp,zK,resolve,zL,zJ,invoke,builtin,e0];rw[g1];rfl;simp[hx]at h
   |clear=>
    simp only at h;rcases hx:kW tm args.toList with _|vs;simp[hx]at h;rcases vs with _ |⟨x,_ |⟨y,l⟩⟩;simp[hx]at h;obtain⟨ats⟩:=ats;rcases ats with _ |⟨t,ts⟩;simp[hx]at h;simp only[hx]at h;have e0:=sH (ha m (aI.refl _ _)) hx;simp only[aE]at e0;have r1:eT m s.nx x (ren m x):=fun m' eF=>by have e1:=sH (ha m' eF) hx;rw[e0]at e1;simp only[aE]at e1;simp at e1;exact e1.symm
    obtain⟨aK,w₁,cv,g1,g2,g3⟩:=z94 hT hf (ty:=type) (ts:=ts) r1 h;refine⟨aK,w₁,cv,.value cv,?_,.inl rfl,g2,g3⟩;simp only[execOp,zK,resolve,zL,zJ,invoke,builtin,e0];rw[g1];rfl;simp[hx]at h
   |_=>simp at h
  |_=>simp at h
 |_=>simp at h
end
def Fi(P:H0)(call:GY):Prop :=
 ∀f args s v bI,call f args s=some (v,bI)->∀m w cargs,fY m s w->n7 m s.nx args cargs->
  Calls P f cargs.toArray w fun e w₁=>∃aK cv,e=.returned cv/\bG m s w aK bI w₁/\eT aK bI.nx v cv
section
variable{P:H0}{T:Tb}(hT:kT P T){call:GY}(hC:Fi P call)
include hT
def qvh(ha:vX m n tm a)(o:Oper)(w:PL){f:FuncId}{args:V O}(h:callOf T tm o.op=some (f,args)):
  ∃cargs,(execOp a.eval o).run P w=.ok (.enter f cargs.toArray) w/\n7 m n args cargs:=by
 obtain⟨dst,op,type,pos,after,guard⟩:=o;simp only at h;unfold callOf at h;cases op with
 |call c=>
  obtain⟨callee,a7,ats⟩:=c;simp only at h;cases callee with
  |value g=>
   simp only at h;rcases hg:evalO tm g with _|u;simp[hg]at h;cases u with
   |func fn first cap=>
    cases fn with
    |func k=>
     simp only[hg]at h;rcases hk:T.fn k with _|fn;simp[hk]at h;simp only[hk]at h;rcases hb:fn.body.isSome with _|_;simp[hb]at h;simp only[hb,zC]at h;rcases hl:kW tm a7.toList with _|vs;simp[hl]at h;simp only[hl,zA,zB]at h;obtain⟨rfl,rfl⟩:=h;obtain⟨hfn,A7⟩:=hT.fn k fn hk;obtain⟨first⟩:=first
     obtain⟨cap⟩:=cap;have e0:=kF (ha m (aI.refl _ _)) hg;have e1:=sH (ha m (aI.refl _ _)) hl;refine⟨aE m first++aE m vs++aE m cap,?_,fun m' eF=>?_⟩;have Ux:fn.body.isNone=false:=by cases hbb:fn.body<;>simp_all
     simp only[ren,fF]at e0;simp only[execOp,zK,resolve,e0,e1,Deferred.ofValue,zL,zJ,invoke,callFunc,run_program,hfn,A7 hb,Ux,Bool.false_eq_true,if_false];simp;have GB:=kF (ha m' eF) hg;have HR:=sH (ha m' eF) hl;rw[e0]at GB;rw[e1]at HR;simp only[ren,fF]at GB;simp at GB HR;rw[x3,x3,GB.1,GB.2,HR]
    |_=>simp[hg]at h
   |_=>simp[hg]at h
  |_=>simp at h
 |_=>simp at h
include hC
def SY{s:S}{w:PL}(hf:fY m s w)(ha:vX m s.nx tm a)(o:Oper){bI:S}(h:BA T call tm s o.op=some (v,bI))
  {next:Act->PL->Prop} {Q:Exit->Act->PL->Prop} (hn:∀aK w₁ cv,bG m s w aK bI w₁->eT aK bI.nx v cv->next (a.put o.dst cv) w₁):o.wp P a w next Q:=by
 unfold BA at h;unfold Oper.wp;cases h1:j0 T tm o.op with
 |some u=>simp[h1,zA,zB]at h;obtain⟨rfl,rfl⟩:=h;have cR:=fun m' eF=>zdp hT m' w (ha m' eF) o h1;rw[cR m (aI.refl _ _)];refine hn m w _ (bG.refl hf) fun m' eF=>?_;have e1:=cR m' eF;rw[cR m (aI.refl _ _)]at e1;simp at e1;exact e1.symm
 |none=>
  simp only[h1]at h;cases h2:o4 T tm s o.op with
  |some u=>simp only[h2,zA,zB]at h;obtain⟨rfl,rfl⟩:=h;have cR:=fun m' eF=>wj hT m' w (hf m' eF) (ha m' eF) o h2;rw[cR m (aI.refl _ _)];refine hn m w _ (bG.refl hf) fun m' eF=>?_;have e1:=cR m' eF;rw[cR m (aI.refl _ _)]at e1;simp at e1;exact e1.symm
  |none=>
   simp only[h2]at h;cases h3:uD T tm s o.op with
   |some r=>simp only[h3,zA]at h;subst h;obtain⟨aK,w₁,cv,nxt,g1,g2,g3,g4⟩:=Cs hT hf ha o h3;rw[g1];rcases g2 with rfl |⟨rfl,rfl⟩;exact hn aK w₁ cv g3 g4;exact hn aK w₁ undef g3 g4
   |none=>simp only[h3]at h;rcases h4:callOf T tm o.op with _|q;simp[h4]at h;obtain⟨f,args⟩:=q;simp only[h4]at h;obtain⟨cargs,g1,g2⟩:=qvh hT ha o w h4;rw[g1];show Calls P f _ w _;refine(hC f args s v bI h m w cargs hf g2).mono ?_;rintro e w₁ ⟨aK,cv,rfl,g3,g4⟩;exact hn aK w₁ cv g3 g4
omit hC hT in
def ja{m:Nm}{tm:V O}{a:Act}(ha:a.tmps=⟨aE m tm⟩)(aB:H2 Oper)(o:Oper):Region.wanted o (yielded aB a.tmps)=Na aB.toList tm o:=by
 unfold Region.wanted Na;rcases o.guard with _|g;rfl;have⟨j,want⟩:=g;simp only[yielded,C3,jD,ha];have hj:aB.toList[j]? = aB[j]?:=by simp
 rw[hj];rcases aB[j]? with _|q;simp;simp[Option.bind_some];rcases hd:q.dst with _|d;simp;simp[Option.bind_some,List.getElem?_toArray,kE,List.getElem?_map];rcases tm[d]? with _|v;simp;simp[zM];cases v with
 |pointer p=>cases p<;>simp[ren]|slice p n c=>cases p<;>simp[ren]
 |map r=>cases r<;>simp[ren]|chan r=>cases r<;>simp[ren]
 |bool b=>simp[ren]|_=>simp[ren]
end
def MN{b c:D1}(h:cond b c false=true):b=true/\c=true:=by cases b<;>simp_all
def z2x{l:V EW}{t:Tmp}(h : .tmp t∈l):t∈tmpsOf l:=by induction l with|nil=>simp at h|cons x l ih=>rcases zI.1 h with rfl |h2;simp[tmpsOf];cases x<;>simp[tmpsOf,ih h2]
section
variable{T:Tb}{tm tm':V O}{op:Op}
end
variable{k:Nat}
def z6c{bD:V Nat}{es:V Edge}(h:(NR bD es).testBit k=true):∃e∈es,Region.binds .any e=true/\(k=e.on\/∃x,bD[e.on]? = some x/\x.testBit k=true):=by
 induction es with
 |nil=>simp[NR]at h|cons e es ih=>
  simp[NR,jD]at h;cases hb:Region.binds .any e with
  |false=>simp[hb,zD]at h;have⟨e',h1,h2⟩:=ih h;exact⟨e',by simp[h1],h2⟩
  |true=>simp[hb,zC,Nat.testBit_or,Bool.or_eq_true]at h;rcases h with(h |h)|h;refine⟨e,by simp,hb,.inl ?_⟩;rw[Nat.testBit_two_pow]at h;simpa using(of_decide_eq_true h).symm;refine⟨e,by simp,hb,.inr ?_⟩;rcases hx:bD[e.on]? with _|x;simp[hx]at h;simp[hx]at h;exact⟨x,rfl,h⟩;have⟨e',h1,h2⟩:=ih h;exact⟨e',by simp[h1],h2⟩
def fu:∀(l:V Oper)(bD:V Nat),(eE l bD).length=bD.length+l.length/\(eE l bD).take bD.length=bD/\
  ∀i o,l[i]? = some o->(eE l bD)[bD.length+i]? = some (NR ((eE l bD).take (bD.length+i)) o.after.toList)
 |[],bD=>by simp[eE]
 |o::l,bD=>by
  have⟨h1,h2,h3⟩:=fu l (bD++[NR bD o.after.toList]);simp[eE];refine⟨by rw[h1];simp;omega,?_,fun i q hq=>?_⟩;have:=congrArg (List.take bD.length) h2;rw[List.take_take]at this;simpa using this;cases i with
  |zero=>
   simp[List.getElem?_cons_zero,zA]at hq;subst hq;have e1:(eE l (bD++[NR bD o.after.toList])).take bD.length=bD:=by have:=congrArg (List.take bD.length) h2;rw[List.take_take]at this;simpa using this
   rw[Nat.add_zero,e1];have:=congrArg (fun z=>z[bD.length]?) h2;simp[List.getElem?_take]at this;simpa using this
  |succ i=>simp[zH]at hq;have:=h3 i q hq;simp[zU,zO,zS]at this;rw[show bD.length+(i+1)=bD.length+(0+1)+i by omega];exact this
section
variable(aB:V Oper)
def Pre(i k:Nat):Prop:=∃x,(eE aB [])[i]? = some x/\x.testBit k=true
variable{i:Nat}
def T'(h:Pre aB i k):∃o e,aB[i]? = some o/\e∈o.after.toList/\Region.binds .any e=true/\(k=e.on\/Pre aB e.on k):=by
 have⟨x,h1,h2⟩:=h;have⟨g1,_,g3⟩:=fu aB [];have hi:i<aB.length:=by have:=(zG.1 h1).1;simp at g1;omega
 have ho:aB[i]? = some aB[i]:=by simp[hi]
 have:=g3 i _ ho;simp[zS,Nat.zero_add]at this;rw[h1]at this;simp[zA]at this;rw[this]at h2;have⟨e,he,hb,hk⟩:=z6c h2;refine⟨_,e,ho,he,hb,?_⟩;rcases hk with hk |⟨y,hy,hyk⟩;exact .inl hk;refine .inr ⟨y,?_,hyk⟩;rw[List.getElem?_take]at hy;split at hy;exact hy;cases hy
def za5{es:V Edge}(h:FO i es=true):∀e∈es,Region.binds .any e=true->e.on<i:=by
 induction es with
 |nil=>simp|cons e es ih=>
  simp only[FO]at h;intro e' MY cP;cases hb:Region.binds .any e with
  |false=>simp only[hb,zD]at h;rcases zI.1 MY with rfl |MY;rw[hb]at cP;cases cP;exact ih h e' MY cP
  |true=>simp only[hb,zC]at h;obtain⟨h1,h2⟩:=MN h;rcases zI.1 MY with rfl |MY;exact J6 h1;exact ih h2 e' MY cP
def qxf{lk:V Tmp}{di:M Tmp}{i mi:Nat}:∀(l:V Oper)(ms:V Nat)(b:Nat),rowOk lk di i mi l ms b=true->∀j o,l[j]? = some o->∃mk,ms[j]? = some mk/\br lk di i mi (b+j) mk o.dst=true
 |[],_,_,_=>fun j o h=>by simp at h
 |o::l,[],b,h=>by simp[rowOk]at h
 |o::l,mk::ms,b,h=>fun j q hq=>by
  simp only[rowOk]at h;obtain⟨h1,h2⟩:=MN h;cases j with
  |zero=>simp at hq;subst hq;exact⟨mk,rfl,h1⟩|succ j=>simp[zH]at hq;have⟨mk',g1,g2⟩:=qxf l ms (b+1) h2 j q hq;exact⟨mk',by simpa using g1,by rw[show b+(j+1)=b+1+j by omega];exact g2⟩
def io{ms:V Nat}:∀(l:V Oper)(mr:V Nat)(b:Nat),Kh aB ms l mr b=true->∀j o,l[j]? = some o->∃mi,mr[j]? = some mi/\FO (b+j) o.after.toList=true/\rowOk (NV aB o) o.dst (b+j) mi aB ms 0=true
 |[],_,_,_=>fun j o h=>by simp at h
 |o::l,[],b,h=>by simp[Kh]at h
 |o::l,mi::mr,b,h=>fun j q hq=>by
  simp only[Kh]at h;obtain⟨h1,h2⟩:=MN h;have⟨h2,h3⟩:=MN h2;cases j with
  |zero=>simp at hq;subst hq;exact⟨mi,rfl,h1,h2⟩|succ j=>simp[zH]at hq;have⟨mi',g1,g2,g3⟩:=io l mr (b+1) h3 j q hq;refine⟨mi',by simpa using g1,?_,?_⟩;rw[show b+(j+1)=b+1+j by omega];exact g2;rw[show b+(j+1)=b+1+j by omega];exact g3
variable{aB}(cK:Y9 aB=true)
include cK
def bg{o:Oper}(ho:aB[i]? = some o):∀e∈o.after.toList,Region.binds .any e=true->e.on<i:=by have⟨_,_,h2,_⟩:=io aB aB _ 0 cK i o ho;rw[Nat.zero_add]at h2;exact za5 h2
def z7w{o q:Oper}(ho:aB[i]? = some o)(hq:aB[k]? = some q)(FZ:i≠k){d:Tmp}(hd:q.dst=some d):o.dst≠some d/\(d∈NV aB o->Pre aB i k\/Pre aB k i):=by
 obtain⟨mi,h1,_,h3⟩:=io aB aB _ 0 cK i o ho;obtain⟨mk,h4,h5⟩:=qxf aB _ 0 h3 k q hq;simp only[Nat.zero_add,br,hd,beq_eq,FZ,yB,zD]at h5;have tail:(cond ((NV aB o).any (Nat.beq d)) (cond (mi.testBit k) true (mk.testBit i)) true=true)->d∈NV aB o->Pre aB i k\/Pre aB k i:=fun h6 hl=>by have hany:(NV aB o).any (Nat.beq d)=true:=List.any_eq_true.2 ⟨d,hl,by simp⟩;rw[hany]at h6;simp only[zC]at h6;rcases hb:mi.testBit k with _|_;simp only[hb,zD]at h6;exact .inr ⟨mk,h4,h6⟩;exact .inl ⟨mi,h1,hb⟩
 cases hod:o.dst with|none=>simp only[hod,zD]at h5;exact⟨by simp,tail h5⟩|some d'=>simp only[hod]at h5;by_cases e:d=d';simp[e]at h5;simp only[e,yB,zD]at h5;exact⟨by simpa using fun x=>e x.symm,tail h5⟩
def zbz:∀(i k:Nat),Pre aB i k->k<i:=by
 intro i;induction i using Nat.strongRecOn with
 |_ i ih=>intro k h;have⟨o,e,h1,h2,h3,h4⟩:=T' aB h;have aF:=bg cK h1 e h2 h3;rcases h4 with rfl |h4;exact aF;exact Nat.lt_trans (ih e.on aF k h4) aF
def Closed(aB:V Oper)(L:Nat->Prop):Prop:=∀i o,L i->aB[i]? = some o->∀e∈o.after.toList,Region.binds .any e=true->L e.on
def iz{L:Nat->Prop}(hL:Closed aB L):∀(i k:Nat),L i->Pre aB i k->L k:=by
 intro i;induction i using Nat.strongRecOn with
 |_ i ih=>intro k hi h;have⟨o,e,h1,h2,h3,h4⟩:=T' aB h;have aF:=bg cK h1 e h2 h3;have he:=hL i o hi h1 e h2 h3;rcases h4 with rfl |h4;exact he;exact ih e.on aF k he h4
def jg{L:Nat->Prop}(hL:Closed aB L)(hi:∀o,aB[i]? = some o->∀e∈o.after.toList,Region.binds .any e=true->L e.on)(h:Pre aB i k):L k:=by have⟨o,e,h1,h2,h3,h4⟩:=T' aB h;have he:=hi o h1 e h2 h3;rcases h4 with rfl |h4;exact he;exact iz cK hL e.on k he h4
end
section
variable{P:H0}{T:Tb}(hT:kT P T){call:GY}(hC:Fi P call)(aB:H2 Oper){tm₀:V O}{tp:S}{rs:V Rec}{tm':V O}{s':S}
 (jV:zcb T call aB.toList aB.toList tm₀ tp=some (rs,tm',s')) (cK:Y9 aB.toList=true) (hrs:zc4 T rs (eE aB.toList []) rs (eE aB.toList []) 0=true)
include jV cK
include hT hC hrs
end
section
variable{P:H0}{T:Tb}(hT:kT P T){call:GY}(hC:Fi P call)
include hT hC
end
def Mk(n:Nat)(l:V O):pad n l=l++List.replicate (n-l.length) undef:=by induction n generalizing l with|zero=>simp[pad]|succ n ih=>rcases l with _|⟨v,l⟩;simp[pad,ih,List.replicate_succ];simp[pad,ih]
section
variable{P:H0}{T:Tb}(hT:kT P T)
include hT
def bp{m:Nm}{s:S}{w:PL}(hf:Fits m s w){tm:V O}(F:ResultVar->Sem O)(Wn:∀t,F (.tmp t)=pure ((⟨aE m tm⟩:H2 O).getD t undef))
  (Bm:∀a t,F (.cell a t)=(do loadVar t (<-asAddr ((⟨aE m tm⟩:H2 O).getD a undef)))):∀(rs:V ResultVar)(vs:V O),EN T tm s rs=some vs->(rs.mapM F).run P w=.ok (aE m vs) w
 |[],vs,h=>by simp[EN]at h;subst h;simp[aE]
 |.tmp t::rs,vs,h=>by
  simp[EN,jD]at h;rcases ht:tm[t]? with _|v;simp[ht]at h;simp[ht]at h;rcases hr:EN T tm s rs with _|l;simp[hr]at h;simp[hr,zA]at h;subst h;have ih:=bp hf F Wn Bm rs l hr;have e1:(⟨aE m tm⟩:H2 O).getD t undef=ren m v:=by simp[kE,ht]
  simp[List.mapM_cons,zK,Wn,zL,zJ,ih,e1,aE]
 |.cell a t::rs,vs,h=>by
  simp[EN]at h;rcases ht:o4 T tm s (.load t (.tmp a))with _|v;simp[ht]at h;simp[ht]at h;rcases hr:EN T tm s rs with _|l;simp[hr]at h;simp[hr,zA]at h;subst h;have ih:=bp hf F Wn Bm rs l hr;simp[o4,evalO]at ht;rcases Ab:nth tm a with _|u;simp[Ab]at ht;cases u with
  |pointer p=>
   rcases p with _|q;simp[Ab]at ht;simp[Ab]at ht;rcases hl:lk s.h q.block with _|blk;simp[hl]at ht;rcases blk with⟨l',e,md⟩|x;simp[hl]at ht;have Va:=Nf hT m w hf hl ht;rw[jD]at Ab;have e1:(⟨aE m tm⟩:H2 O).getD a undef=.pointer (some ⟨m.blk q.block,m.sh q.block+q.off,none⟩):=by simp[kE,Ab,ren]
   simp[List.mapM_cons,zK,Bm,e1,asAddr,zL,zJ,Va,ih,aE];simp[hl]at ht
  |_=>simp[Ab]at ht
def Om{m:Nm}{s:S}{w:PL}(hf:Fits m s w){tm:V O}{fn:Func}{vs:V O}(h:EN T tm s fn.results.toList=some vs):
  (results fn ⟨aE m tm⟩).run P w=.ok (ren m (sC vs)) w:=by unfold results;rw[zK,Array.mapM_eq_mapM_toList,Sem.run_map,bp hT hf _ (fun t=>rfl) (fun a t=>rfl) fn.results.toList vs h];simp[zJ,zL];congr 1;rcases vs with _ |⟨v,_ |⟨u,l⟩⟩;simp[aE,sC,ren];simp[aE,sC];simp[aE,sC,ren]
end
def ad(P:H0)(t:TypeId):P.info? t=P.types[t]? \/P.types[t]? = none:=by by_cases h:t<P.types.size;exact .inl (by unfold Tables.info?;rw[if_pos h]);exact .inr (Array.getElem?_eq_none (Nat.le_of_not_lt h))
def ze6 (P : H0) (eqs : V TypeId) (hm : P.follows .mixedOrders = true) (hn : ∀ f ∈ P.funcs.toList, f.body.isSome = true → (f.name == "runtime.NumGoroutine") = false)
  (he:∀t∈eqs,P.stoodInHeld t=false/\P.eqGuardType P.depth t=false):kT P (EU P eqs) where
 und t d h:=by
  simp only[EU,jD]at h;rcases ht:P.types.toList[t]? with _|i;simp[ht]at h;have hi:P.info? t=some i:=by
   have v7:P.types[t]? = some i:=by simpa using ht
   rcases ad P t with h1 |h1;rw[h1,v7];rw[h1]at v7;cases v7
  simp only[ht]at h;unfold Program.underlying;rw[hi];obtain⟨desc,s1,s2,s3,s4,s5,s6,s7,s8,s9⟩:=i;cases desc with
  |named nm u=>
   simp only at h ⊢;rcases hu:P.types.toList[u]? with _|j;simp[hu]at h;have hj:P.info? u=some j:=by
    have HI:P.types[u]? = some j:=by simpa using hu
    rcases ad P u with h1 |h1;rw[h1,HI];rw[h1]at HI;cases HI
   simp[hu,zA]at h;rw[hj];simp[h]
  |_=>simpa using h
 inf t a b z h:=by
  simp only[EU,jD]at h;rcases ht:P.types.toList[t]? with _|i;simp[ht]at h;have hi:P.info? t=some i:=by
   have v7:P.types[t]? = some i:=by simpa using ht
   rcases ad P t with h1 |h1;rw[h1,v7];rw[h1]at v7;cases v7
  simp[ht]at h;rcases hz:i.zero with _|z';simp[hz]at h;simp[hz]at h;rcases hp:plain z' with _|_;simp[hp]at h;simp[hp,zC,zA,zB]at h;obtain⟨rfl,rfl,rfl⟩:=h;exact⟨hp,i,hi,rfl,rfl,hz⟩
 fn f g h:=by
  simp only[EU,jD]at h;have h':P.funcs[f]? = some g:=by simpa using h
  exact⟨h',hn g (zX h)⟩
 eqs t h:=by
  simp only[EU]at h;obtain⟨u,hu,e⟩:=List.any_eq_true.1 h;have:t=u:=by simpa[beq_eq]using e
  subst this;exact he t hu
 mixed:=hm
end Go.Rx
