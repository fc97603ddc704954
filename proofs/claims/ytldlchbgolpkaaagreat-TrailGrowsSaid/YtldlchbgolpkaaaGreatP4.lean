import Derived.Laws.Append
import Derived.Test.YtldlchbgolpkaaaGreatP3
set_option linter.all false
namespace Go.Rx
open Go
def Eff(P:Program)(m:Nm)(s:S)(w:World)(x:Sem M)(v:M)(bJ:S):Prop :=
 ∃aH w₁ cv,x.run P w=.ok cv w₁/\bQ m s w aH bJ w₁/\fI aH bJ.nx v cv
def R3(P:Program)(m:Nm)(s:S)(w:World)(x:Sem Unit)(bJ:S):Prop :=
 ∃aH w₁,x.run P w=.ok () w₁/\bQ m s w aH bJ w₁
def fI.cells{m:Nm}{n:Nat}{v cv:M}(h:fI m n v cv):nZ m n v.cells.toList cv.cells.toList:=fun m' ha=>by
 rw[<-h m' ha,kp,lV]
variable{m:Nm}
variable{n:Nat}
variable{l:I M}
def ky(h:∀m',aJ m' l=l):nZ m n l l:=fun m' _=>h m'
variable{v:M}
def BV(h:∀m',aI m' v=v):fI m n v v:=fun m' _=>h m'
def nZ.append{a b ca cb:I M}(h:nZ m n a ca)(h':nZ m n b cb):nZ m n (a++b) (ca++cb):=fun m' ha=>by
 rw[yJ,h m' ha,h' m' ha]
def D8(m:Nm)(i b sh cp:Nat):(m.set i b sh cp).blk i=b/\(m.set i b sh cp).sh i=sh/\(m.set i b sh cp).cp i=cp:=by simp[Nm.set]
variable{s:S}
def qzv(b sh cp n:Nat)(hn:s.nx<n):fI (m.set s.nx b sh cp) n (.pointer (some ⟨s.nx,0,none⟩)) (.pointer (some ⟨b,sh,none⟩)):=fun m' ha=>by
 have⟨h1,h2,_⟩:=ha s.nx hn;have⟨e1,e2,_⟩:=D8 m s.nx b sh cp;simp[aI,h1,h2,e1,e2]
variable{w:World}
def xx(hf:iA m s w){cl:I M}(hl:nZ m s.nx l cl)(e:X)(cp:Nat):
  bQ m s w (m.set s.nx w.heap.size 0 cp) (newRow s l e 0) (w.alloc (.cells ⟨cl⟩ e)):=by refine bQ.alloc hf _ _ cp fun m' ha=>?_;have tT:aN s.nx m m':=(Nm.agree_set m s.nx w.heap.size 0 cp).trans ha (Nat.le_succ _);have⟨h1,h2,_⟩:=ha s.nx (zN _);have⟨e1,e2,_⟩:=D8 m s.nx w.heap.size 0 cp;refine⟨by rw[h2,e2],?_⟩;rw[h1,e1,hl m' tT];show(w.heap.push _)[w.heap.size]? = _;simp
def yr(hf:iA m s w){cl rest:I M}(hl:nZ m s.nx l cl)(e:X)(cp sz:Nat)(bA:l.length+rest.length=cp*sz):
  bQ m s w (m.set s.nx w.heap.size 0 cp) (newRow s l e (sz+2)) (w.alloc (.cells ⟨cl++rest⟩ e)):=by refine bQ.alloc hf _ _ cp fun m' ha=>?_;have tT:aN s.nx m m':=(Nm.agree_set m s.nx w.heap.size 0 cp).trans ha (Nat.le_succ _);have⟨h1,h2,h3⟩:=ha s.nx (zN _);have⟨e1,e2,e3⟩:=D8 m s.nx w.heap.size 0 cp;refine⟨[],rest,?_,by simp[h2,e2],by rw[h3,e3,bA]⟩;rw[h1,e1,hl m' tT];show(w.heap.push _)[w.heap.size]? = _;simp
def rh{e:X}{md:Nat}(h:md≠1):Own (.inl (l,e,md))=true:=by rcases md with _ |_ |n<;>simp_all[Own]
def jz{P:Program}(hf:iA m s w){i off:Nat}{l' vs nD:I M}{e:X}{md:Nat}(hr:cW s i=some (l,e,md))(hp:uC l off vs=some l')
  (hv:nZ m s.nx vs nD) (h1:tD vs=true):
  ∃w₁,(storeCells ⟨m.blk i,m.sh i+off,none⟩ nD 0).run P w=.ok () w₁/\bQ m s w m ⟨up s.h i (.inl (l',e,md)),s.nx⟩ w₁:=by
 have⟨hl,qQ⟩:=yg hr;have⟨bA,FT⟩:=qw2 hp;have FR:∀v∈nD,v.oneCell'=true:=by rw[<-hv.at];exact qra h1
 have eS:nD.length=vs.length:=by rw[<-hv.at];simp
 rcases md with _ |_ |n;have h0:∀m',aN s.nx m m'->m'.sh i=0/\w.heap[m'.blk i]? = some (.cells (aJ m' l).toArray e (0,0)):=fun m' ha=>(hf m' ha).ok i _ hl
 obtain⟨bw,hb⟩:=h0 m (aN.refl _ _);have bZ:=run_storeCells_at P (m.blk i) off e nD 0 _ w hb (by simp;omega) FR;simp only[Nat.add_zero]at bZ;rw[bw,Nat.zero_add];refine⟨_,bZ,bQ.write hf hl (rh qQ) (fun k hk=>setRow_other w _ k _ hk) (by simp) rfl rfl rfl (zF _) fun m' ha=>?_⟩;obtain⟨Z?,cV⟩:=h0 m' ha;have A0:m'.blk i=m.blk i:=(ha i ((hf.fits).bd i _ hl)).1;refine⟨Z?,?_⟩;rw[A0,setRow_heap w _ _ _ e (0,0) hb];rw[A0]at cV;have B1:aJ m' l=aJ m l:=by have:=hb.symm.trans cV;simp at this;exact this.symm
 rw[FT,yJ,yJ,hv m' ha];have e1:aJ m' (l.take off)=(aJ m l).take off:=by rw[<-B1];simp[mY,List.map_take]
 have e2:aJ m' (l.drop (off+vs.length))=(aJ m l).drop (off+nD.length):=by rw[<-B1,eS];simp[mY,List.map_drop]
 rw[e1,e2];exact absurd rfl qQ;have h0:∀m',aN s.nx m m'->∃pr rest,w.heap[m'.blk i]? = some (.cells (pr++aJ m' l++rest).toArray e (0,0))/\pr.length=m'.sh i/\l.length+rest.length=m'.cp i*n:=fun m' ha=>(hf m' ha).ok i _ hl;have⟨pr,rest,hb,tK,DI⟩:=h0 m (aN.refl _ _);have bZ:=run_storeCells_at P (m.blk i) (m.sh i+off) e nD 0 _ w hb (by simp;omega) FR;simp[Nat.add_zero]at bZ;refine⟨_,bZ,bQ.write hf hl (rh qQ) (fun k hk=>setRow_other w _ k _ hk) (by simp) rfl rfl rfl (zF _) fun m' ha=>?_⟩;have⟨pr',S6,cV,hpr',hrest'⟩:=h0 m' ha;have⟨A0,UI,cy⟩:=ha i ((hf.fits).bd i _ hl);rw[A0]at cV;have cR:pr'++aJ m' l++S6=pr++aJ m l++rest:=by have:=hb.symm.trans cV;simp at this;simpa using this.symm
 have Wl:pr'=pr/\aJ m' l=aJ m l/\S6=rest:=by rw[zT,zT]at cR;have⟨e1,e2⟩:=List.append_inj cR (by rw[hpr',tK,UI]);have⟨e3,e4⟩:=List.append_inj e2 (by simp);exact⟨e1,e3,e4⟩
 refine⟨pr,rest,?_,by rw[UI,tK],?_⟩;rw[A0,setRow_heap w _ _ _ e (0,0) hb];rw[FT,yJ,yJ,hv m' ha];have e1:aJ m' (l.take off)=(aJ m l).take off:=by rw[<-Wl.2.1];simp[mY,List.map_take]
 have e2:aJ m' (l.drop (off+vs.length))=(aJ m l).drop (off+nD.length):=by rw[<-Wl.2.1,eS];simp[mY,List.map_drop]
 rw[e1,e2];congr 2;simp[zT];rw[<-tK,List.take_append,zW (by omega),Nat.add_sub_cancel_left,List.take_append_of_le_length (by simp;omega)];rw[List.drop_append,List.drop_of_length_le (by omega),List.nil_append,show pr.length+off+nD.length-pr.length=off+nD.length by omega,List.drop_append_of_le_length (by simp;omega)];simp;rw[cy,<-DI,FT];simp;omega
section
variable{P:Program}{T:Tb}(hT:lP P T){m:Nm}{s:S}{w:World}(hf:iA m s w)
include hT hf
def z94{t:X}{p cp cv u:M}{bJ:S}(hp:fI m s.nx p cp)(hv:fI m s.nx v cv)(h:Fy T s t p v=some (u,bJ)):
  R3 P m s w (Instr.storeAt t cp cv) bJ/\u=undef:=by
 unfold Fy at h;cases p with
 |pointer q=>
  rcases q with _|a;simp at h;simp only[beq_eq]at h;rcases hs:cO T t with _|n;simp[hs]at h;simp only[hs]at h;by_cases hn:v.cells.toList.length=n;simp only[hn,yC,zC]at h;rcases h1:tD v.cells.toList with _|_;simp[h1]at h;simp only[h1,zC]at h;rcases hr:cW s a.block with _|r;simp[hr]at h;obtain⟨l,e,md⟩:=r;simp only[hr]at h;rcases hq:uC l a.off v.cells.toList with _|l';simp[hq]at h;simp only[hq,zA,zB]at h;obtain⟨rfl,rfl⟩:=h;refine⟨?_,rfl⟩;obtain⟨w₁,cX,aS⟩:=jz (P:=P) hf hr hq hv.cells h1;refine⟨m,w₁,?_,aS⟩;have Xm:cp=.pointer (some ⟨m.blk a.block,m.sh a.block+a.off,none⟩):=by rw[<-hp.at];simp[aI]
  have dS:cv.cells.size=n:=by
   have:cv.cells.toList.length=n:=by rw[<-hv.cells.at];simpa using hn
   simpa using this
  subst Xm;simp[Instr.storeAt,Instr.sureAddr,storeVar,o6 hT w hs,dS,cX];simp only[hn,yB,zD]at h;cases h
 |_=>simp at h
omit hT hf in
def Ph(z:Array M)(n:Nat):(Array.range (n*z.size)).map (fun i=>z[i%z.size]!)=⟨cC z.toList n⟩:=by
 apply Array.ext';simp[Array.toList_map,Array.toList_range];rcases Nat.eq_zero_or_pos z.size with h0 |f0;have hz:z= #[]:=by simpa using h0
 subst hz;induction n with
 |zero=>simp[cC]|succ n ih=>simp[cC]at ih ⊢;exact ih
 induction n with
 |zero=>simp[cC]|succ n ih=>
  have e:(n+1)*z.size=z.size+n*z.size:=by rw[Nat.add_mul];omega
  rw[e,List.range_add,List.map_append,cC,<-ih];congr 1;apply List.ext_getElem?;intro i;by_cases hi:i<z.size;simp[hi,Nat.mod_eq_of_lt hi];simp[hi];rw[List.map_map];apply List.map_congr_left;intro i _;simp
omit hT hf in
def jy(z:I M)(n:Nat):(cC z n).length=n*z.length:=by induction n with|zero=>simp[cC]|succ n ih=>simp[cC,ih,Nat.add_mul];omega
omit hT hf in
def Qa{z:I M}(h:∀m',aJ m' z=z)(n:Nat)(m':Nm):aJ m' (cC z n)=cC z n:=by induction n with|zero=>simp[cC,aJ]|succ n ih=>simp[cC,yJ,ih,h]
omit hf in
def Hs{t:X}{x:Nat×Nat×M}(h:T.inf t=some x)(m':Nm):aJ m' x.2.2.cells.toList=x.2.2.cells.toList:=by have:=(J7 hT m' default h).2;rw[<-lV,<-kp,this]
omit hT hf in
def SY{b sh cp n len c c':Nat}(hn:s.nx<n)(hc:∀m',aN n (m.set s.nx b sh cp) m'->bX m' s.nx c=c'):
  fI (m.set s.nx b sh cp) n (.slice (some ⟨s.nx,0,none⟩) len c) (.slice (some ⟨b,sh,none⟩) len c'):=fun m' ha=>by
 have⟨h1,h2,_⟩:=ha s.nx hn;have⟨e1,e2,_⟩:=D8 m s.nx b sh cp;simp[aI,h1,h2,e1,e2,hc m' ha]
def qxl{t:X}{ps:I (Nat×M)}{bJ:S}{cps:I (Nat×M)}(Kt:∀m',aN s.nx m m'->ps.map (fun p=>(p.1,aI m' p.2))=cps)
  (h:Qd T s t n ps=some (v,bJ)):Eff P m s w (Instr.buildSlice t n cps.toArray) v bJ:=by
 unfold Qd at h;rcases hd:T.und t with _|d;simp[hd]at h;cases d with
 |slice e=>
  simp only[hd]at h;rcases hi:T.inf e with _|x;simp[hi]at h;obtain⟨sz,by_,z⟩:=x;have dS:cO T e=some sz:=by simp[cO,hi]
  have hz:=fun m'=>J7 hT m' w hi;have vS:=Hs hT hi;simp only at hz vS;simp only[hi,beq_eq]at h;rcases h1:Nat.ble (n*sz) 16777216 with _|_
  simp[h1]at h;simp only[h1,zC]at h;have xU:n*sz<=16777216:=by simpa[Nat.ble_eq]using h1
  by_cases h2:z.cells.toList.length=sz;simp only[h2,yC,zC]at h;rcases h3:EO (fun i=>some (i*sz,sz)) (cC z.cells.toList n) ps with _|cs;simp[h3]at h;rcases h4:Nat.blt n bY with _|_;simp[h3,h4]at h;have h4':n<bY:=by simpa[Nat.blt_eq]using h4
  simp only[h3,h4,zC,zA,zB]at h;obtain⟨rfl,rfl⟩:=h;have m8:∀m',aN s.nx m m'->Instr.fill (fun i=>some (i*sz,sz)) ⟨cC z.cells.toList n⟩ cps=some ⟨aJ m' cs⟩:=fun m' ha=>by have:=Pf m' _ ps _ _ h3;rw[Kt m' ha,Qa vS]at this;exact this
  obtain⟨cl,eS⟩:∃cl,nZ m s.nx cs cl:=⟨aJ m cs,fun m' ha=>by have e1:=m8 m' ha;have e2:=m8 m (aN.refl _ _);rw[e1]at e2;simpa using e2⟩;have iD:z.cells.size=sz:=by simpa using h2
  refine⟨_,_,.slice (some ⟨w.heap.size,0,none⟩) n n,?_,xx hf eS e 0,?_⟩;have gA:(Array.range (n*sz)).map (fun i=>(if n*sz=0 then(#[]:Array M)else z.cells)[i%(if n*sz=0 then(#[]:Array M)else z.cells).size]!)=⟨cC z.cells.toList n⟩:=by
   by_cases h0:n*sz=0;rw[h0];apply Array.ext';have:(cC z.cells.toList n).length=0:=by rw[jy,h2,h0]
   simp[List.length_eq_zero_iff.1 this];simp only[if_neg h0];have:=Ph z.cells n;rw[iD]at this;rw[<-this];simp[iD]
  have UV:=m8 m (aN.refl _ _);rw[eS.at]at UV;have hnot:¬ n*sz>2^24:=by omega
  have Q0:=(hz m).1;by_cases h0:n*sz=0;simp only[if_pos h0]at gA;simp only[Instr.buildSlice,zK,iK hT w hd,zJ,o6 hT w dS,Sem.run_ite,if_neg hnot,zL,if_pos h0];rw[gA,UV];simp[Go.newRow];simp only[if_neg h0]at gA;simp only[Instr.buildSlice,zK,iK hT w hd,zJ,o6 hT w dS,Sem.run_ite,if_neg hnot,zL,if_neg h0,Q0];rw[gA,UV];simp[Go.newRow];refine SY (zN _) fun m' _=>?_;simp[bX,h4'];simp only[h2,yB,zD]at h;cases h
 |_=>simp[hd]at h
end
variable{n:Nat}
def z2v{m:Nm}{s:S}{w:World}(hf:iA m s w){b:V Addr}{cs:I M}(h:pS s b n=some cs):
  cs.length=n/\∃NK,nZ m s.nx cs NK/\∀a,b=some a->∀j u,NK[j]? = some u->w.cell? ((⟨m.blk a.block,m.sh a.block+a.off,none⟩:Addr).add j)=some u:=by
 cases n with
 |zero=>simp[pS]at h;subst h;exact⟨rfl,[],fun _ _=>by simp[aJ],fun _ _ j u hu=>by simp at hu⟩|succ n=>
  simp[pS]at h;rcases b with _|a;simp at h;simp only at h;rcases hl:lk s.h a.block with _|blk;simp[hl]at h;rcases blk with⟨l,e,md⟩|x;simp[hl]at h;have hc:∀m',aN s.nx m m'->∀j v,cs[j]? = some v->w.cell? ⟨m.blk a.block,m.sh a.block+(a.off+j),none⟩=some (aI m' v):=fun m' ha j v hj=>by have hr:D5 m' a.block l e w md:=(hf m' ha).ok _ _ hl;have:=hr.cell (z5z h hj);have⟨e1,e2,_⟩:=ha a.block ((hf.fits).bd _ _ hl);rw[e1,e2]at this;exact this
  refine⟨fm h,aJ m cs,fun m' ha=>?_,?_⟩;rw[mY,mY];apply List.map_congr_left;intro v hv;have⟨j,hj⟩:=List.getElem?_of_mem hv;have e1:=hc m' ha j v hj;have e2:=hc m (aN.refl _ _) j v hj;rw[e1]at e2;simpa using e2;rintro _ ⟨rfl⟩ j u hu;rw[mY,List.getElem?_map]at hu;rcases hj:cs[j]? with _|v;simp[hj]at hu;simp[hj]at hu;subst hu;rw[yH,Nat.add_assoc];exact hc m (aN.refl _ _) j v hj;simp[hl]at h
def z95(x K d n k z:Nat):x+K*z-(x+d*z+n*z+k*z)=(K-(d+n+k))*z:=by rw[Nat.sub_mul,Nat.add_mul,Nat.add_mul];omega
def z71(n k K d:Nat)(h:n+k<=K-d):n+k+(K-(d+n+k))=K-d:=by omega
def mU(m:Nm):V Addr->Nat->Nat
 |none,c=>c|some a,c=>bX m a.block c
def bQ.rename{m:Nm}{s:S}{w w':World}(h:iA m s w){i:Nat}{b b':lU}(hb:lk s.h i=some b)(NB:Own b=true)(sh' cp':Nat)
  (hw:∀k,k≠m.blk i->w'.heap[k]? = w.heap[k]?) (dS:w'.heap.size=w.heap.size) (h1:w'.os=w.os) (h2:w'.tape=w.tape) (h3:w'.output=w.output) (_h4:w.drawn<=w'.drawn) (hc:∀m',aN (s.nx+1) (m.set s.nx (m.blk i) sh' cp') m'->yG m' s.nx w' b'):
  bQ m s w (m.set s.nx (m.blk i) sh' cp') ⟨(s.nx,b')::rm s.h i,s.nx+1⟩ w':=by
 have A0:i<s.nx:=(h.fits).bd i b hb;have key:∀j d,s.nx≠j->lk ((s.nx,b')::rm s.h i) j=some d->lk s.h j=some d/\i≠j:=fun j d hj hd=>by simp[mZ,hj,if_false,zx]at hd;by_cases e:i=j;simp[e]at hd;simp[e,if_false]at hd;exact⟨hd,e⟩
 refine⟨Nm.agree_set m _ _ _ _,Nat.le_succ _,?_,?_,?_,by omega,h1,h2,h3⟩;intro m' ha;have tT:aN s.nx m m':=(Nm.agree_set m s.nx (m.blk i) sh' cp').trans ha (Nat.le_succ _);have hf:=h m' tT;have iB:m'.blk s.nx=m.blk i:=by have:=(ha s.nx (zN _)).1;simpa[Nm.set]using this
 have Ca:m'.blk i=m.blk i:=(tT i A0).1;refine⟨fun j d hd=>?_,fun j k d d' hd bG nQ ho=>?_,fun j d hd=>?_⟩;by_cases e:s.nx=j;subst e;simp[mZ,if_true,zA]at hd;subst hd;exact hc m' ha;have⟨bG,m7⟩:=key j d e hd;refine(hf.ok j d bG).world (hw _ ?_);rw[<-Ca];exact fun x=>hf.inj i j b d hb bG m7 NB x.symm;by_cases e:s.nx=j;subst e;have⟨hk,FU⟩:=key k d' nQ bG;rw[iB,<-Ca];exact hf.inj i k b d' hb hk FU NB;have⟨hj,m7⟩:=key j d e hd;by_cases e2:s.nx=k;subst e2;rw[iB,<-Ca];exact fun x=>hf.inj i j b d hb hj m7 NB x.symm;have⟨hk,FU⟩:=key k d' e2 bG;exact hf.inj j k d d' hj hk nQ ho;by_cases e:s.nx=j;subst e;exact zN _;exact Nat.lt_succ_of_lt (hf.bd j d (key j d e hd).1);rintro k ⟨j,d,hd,ho,rfl⟩;left;by_cases e:s.nx=j;subst e;exact⟨i,b,hb,NB,by simp[Nm.set]⟩;have⟨hj,_⟩:=key j d e hd;have:=(h.fits).bd j d hj;exact⟨j,d,hj,ho,by simp[Nm.set,show j≠s.nx by omega]⟩;intro k hk hn;exact hw k fun e=>hn ⟨i,b,hb,NB,e.symm⟩
def i8(z:Array M)(n:Nat):(Builtin.zeroCells z n).size=n*z.size:=by simp[Builtin.zeroCells]
def qry{b:Nat}(h:y9 n b=true):n*b<=140737488355328/\n<=140737488355328:=by unfold y9 at h;rcases h1:Nat.ble (n*b) 140737488355328 with _|_;simp[h1]at h;simp[h1,zC]at h;exact⟨by simpa[Nat.ble_eq]using h1,by simpa[Nat.ble_eq]using h⟩
def Hv(m:Nm)(i:Nat):bX m i bY=m.cp i:=by simp[bX,bR]
section
variable{P:Program}{T:Tb}(hT:lP P T){m:Nm}{s:S}{w:World}(hf:iA m s w)
include hT hf
variable{t:X}
variable{v:M}
variable{bJ:S}
def zbx{l c cl cc:M}(hl:fI m s.nx l cl)(hc:fI m s.nx c cc)(h:Lq T s t l c=some (v,bJ)):Eff P m s w (Instr.makeSlice t cl cc) v bJ:=by
 unfold Lq at h;rcases hd:T.und t with _|d;simp[hd]at h;cases d with
 |slice e=>
  simp only[hd]at h;cases l with
  |int k1 a=>
   cases c with
   |int k2 b=>
    simp only at h;have e1:cl=.int k1 a:=by rw[<-hl.at];simp[aI]
    have e2:cc=.int k2 b:=by rw[<-hc.at];simp[aI]
    subst e1 e2;rcases hi:T.inf e with _|x;simp[hi]at h;obtain⟨sz,by_,z⟩:=x;have dS:cO T e=some sz:=by simp[cO,hi]
    have hz:=fun m'=>J7 hT m' w hi;have vS:=Hs hT hi;simp only at hz vS;obtain⟨_,i,US,NG,UR,hi4⟩:=hT.inf e _ _ _ hi;simp only[hi,beq_eq]at h;cases Kn:IntKind.i64.wrap a with
    |negSucc x=>simp[Kn]at h|ofNat n=>
     cases Vy:IntKind.i64.wrap b with
     |negSucc x=>simp[Kn,Vy]at h|ofNat k=>
      simp only[Kn,Vy]at h;rcases h1:Nat.ble n k with _|_;simp[h1]at h;rcases h2:Nat.ble (by_*k) 281474976710656 with _|_;simp[h1,h2]at h;by_cases h3:z.cells.toList.length=sz;rcases h4:Nat.blt k bY with _|_;simp only[h1,h2,h3,h4,zC,yC,zD]at h;cases h;simp only[h1,h2,h3,h4,zC,yC,zA,zB]at h;obtain⟨rfl,rfl⟩:=h;have xU:n<=k:=by simpa[Nat.ble_eq]using h1
      have HN:by_*k<=281474976710656:=zY h2;have h4':k<bY:=by simpa[Nat.blt_eq]using h4
      have iD:z.cells.size=sz:=by simpa using h3
      refine⟨_,_,.slice (some ⟨w.heap.size,0,none⟩) n k,?_,xx hf (ky (Qa vS k)) e 0,?_⟩;have Cd:∀q:Nat,q<=k->(decide ((q:Int)<0)||decide ((i.bytes:Int)*(q:Int)>2^48))=false:=by intro q hq;have:by_*q<=281474976710656:=Nat.le_trans (Nat.mul_le_mul_left _ hq) HN;have h':((by_*q:Nat):Int)<=((281474976710656:Nat):Int):=Int.ofNat_le.2 this;simp only[Bool.or_eq_false_iff,decide_eq_false_iff_not,UR];refine⟨by omega,?_⟩;rw[Int.natCast_mul]at h';simp only[gt_iff_lt,Int.not_lt];exact h'
      have gA:(Array.range (k*sz)).map (fun i=>(if k*sz=0 then(#[]:Array M)else z.cells)[i%(if k*sz=0 then(#[]:Array M)else z.cells).size]!)=⟨cC z.cells.toList k⟩:=by
       by_cases h0:k*sz=0;rw[h0];apply Array.ext';have:(cC z.cells.toList k).length=0:=by rw[jy,h3,h0]
       simp[List.length_eq_zero_iff.1 this];simp only[if_neg h0];have:=Ph z.cells k;rw[iD]at this;rw[<-this];simp[iD]
      have eH:(((decide ((k:Int)<0)||decide ((i.bytes:Int)*(k:Int)>2^48))||decide ((n:Int)<0))||decide ((n:Int)>(k:Int)))=false:=by rw[Cd k (zF _)];simp;omega
      have J?:IntKind.i64.wrap a=(n:Int):=Kn;have I?:IntKind.i64.wrap b=(k:Int):=Vy;have Q0:=(hz m).1;simp only[Instr.makeSlice,zK,iK hT w hd,zJ,asInt,asIntOf,zL,typeInfo,run_program,US,J?,I?,Sem.run_ite,eH,Bool.false_eq_true,if_false,run_askRoom,zZ,o6 hT w dS];by_cases h0:k*sz=0;simp only[if_pos h0]at gA;simp only[if_pos h0];rw[gA];simp[Go.newRow];simp only[if_neg h0]at gA;simp only[if_neg h0,Q0,zJ];rw[gA];simp[Go.newRow];refine SY (zN _) fun m' _=>?_;simp[bX,h4'];simp only[h1,h2,h3,zC,yB,zD]at h;cases h
   |_=>simp at h
  |_=>simp at h
 |_=>simp[hd]at h
omit hf in
def Ru{t xt ty e e2:X}{size:Nat}(ht:T.und t=some (.slice e))(hx:T.und xt=some (.slice e2))(hs:cO T e=some size){base xb:V Addr}{n C k xc:Nat}{cnew:Array M}{w₁:World}
  (iB:(Builtin.firstCells size k (.slice xb k xc)).run P w=.ok cnew w) (bN:n+k<=C) (bZ:∀a,base=some a->(storeCells (a.add (n*size)) cnew.toList).run P w=.ok () w₁) (eH:base=none->w₁=w):
  (Builtin.append_ #[t,xt] ty #[.slice base n C,.slice xb k xc]).run P w=.ok (.slice base (n+k) C) w₁:=by cases base with|none=>rw[eH rfl];simp[Builtin.append_,iK hT w ht,iK hT w hx,o6 hT w hs,Builtin.lenOf,bN,iB]|some a=>simp[Builtin.append_,iK hT w ht,iK hT w hx,o6 hT w hs,Builtin.lenOf,bN,iB,bZ a rfl]
omit hf in
def jP{t xt ty e e2:X}{size by_:Nat}{z:M}(ht:T.und t=some (.slice e))(hx:T.und xt=some (.slice e2))(hi:T.inf e=some (size,by_,z)){base xb:V Addr}{n C k xc:Nat}{cnew cold:Array M}
  (iB:∀w',w'.heap=w.heap->(Builtin.firstCells size k (.slice xb k xc)).run P w'=.ok cnew w') (lJ:∀w',w'.heap=w.heap->(Builtin.firstCells size n (.slice base n C)).run P w'=.ok cold w') (bN:C<n+k) (hr:y9 (n+k) by_=true): (Builtin.append_ #[t,xt] ty #[.slice base n C,.slice xb k xc]).run P w=
   .ok (.slice (some ⟨w.heap.size,0,none⟩) (n+k) ((Question.appendCap (n+k) C e).cut (w.tape w.drawn (.appendCap (n+k) C e)))) ((w.drew).alloc (.cells (cold++cnew++Builtin.zeroCells z.cells (((Question.appendCap (n+k) C e).cut (w.tape w.drawn (.appendCap (n+k) C e)))-(n+k))) e)):=by
 have⟨r1,r2⟩:=qry hr;have⟨_,i,US,NG,UR,hi4⟩:=hT.inf e _ _ _ hi;have hs:cO T e=some size:=by simp[cO,hi]
 have g1:¬ n+k<=C:=by omega
 have g2:¬ (((n+k:Nat):Int)>IntKind.i64.max/\(False\/i.bytes=0)):=by rw[IntKind.max_i64];omega
 have g3:¬ Builtin.nextslicecap (n+k) C*i.bytes>2^48:=by have:=growslice_fits (bytes:=i.bytes) bN (by rw[UR];exact r1);omega
 have hn:=iB w.drew rfl;have ho:=lJ w.drew rfl;have HG:({ w with drawn:=w.drawn+1 }:World)=w.drew:=rfl;have hz:(zeroValue e).run P w.drew=.ok z w.drew:=(J7 hT (⟨id,id,id⟩:Nm) w.drew hi).1;simp[Builtin.append_,iK hT w ht,iK hT w hx,o6 hT w hs,Builtin.lenOf,if_neg g1,typeInfo,US];have g2':¬ (9223372036854775807<(n:Int)+(k:Int)/\i.bytes=0):=by omega
 have g3':¬ 281474976710656<Builtin.nextslicecap (n+k) C*i.bytes:=g3;have hff:(Question.appendCap (n+k) C e).forced=false:=rfl;simp[if_neg g2',if_neg g3',hff,Bool.false_eq_true,if_false,ho,hn,hz,zJ];simp[Go.newRow];rfl
omit hf in
def qo6{t xt ty e e2:X}{size by_:Nat}{z:M}(ht:T.und t=some (.slice e))(hx:T.und xt=some (.slice e2))(hi:T.inf e=some (size,by_,z)){base xb:V Addr}{n C k xc:Nat}{cnew cold:Array M}
  (iB:∀w',w'.heap=w.heap->(Builtin.firstCells size k (.slice xb k xc)).run P w'=.ok cnew w') (lJ:∀w',w'.heap=w.heap->(Builtin.firstCells size n (.slice base n C)).run P w'=.ok cold w') (bN:C<n+k) (hr:y9 (n+k) by_=true):
  ∃nc,n+k<=nc/\(Builtin.append_ #[t,xt] ty #[.slice base n C,.slice xb k xc]).run P w=
   .ok (.slice (some ⟨w.heap.size,0,none⟩) (n+k) nc) ((w.drew).alloc (.cells (cold++cnew++Builtin.zeroCells z.cells (nc-(n+k))) e)):=
 ⟨_,by simp[Question.cut],jP hT ht hx hi iB lJ bN hr⟩
omit hT in
def Ps{b:V Addr}{n size:Nat}{cs:I M}(h:pS s b (n*size)=some cs):
  ∃NK,nZ m s.nx cs NK/\cs.length=n*size/\∀w',w'.heap=w.heap->∀len cap,(Builtin.firstCells size n (.slice (b.map fun a=>⟨m.blk a.block,m.sh a.block+a.off,none⟩) len cap)).run P w'=.ok ⟨NK⟩ w':=by
 have⟨h1,NK,h2,h3⟩:=z2v hf h;refine⟨NK,h2,h1,fun w' hw len cap=>?_⟩;have hl:NK.length=n*size:=by rw[<-h2.at];simp[h1]
 cases b with
 |none=>
  have:n*size=0:=by cases hz:n*size with|zero=>rfl|succ k=>rw[hz]at h;simp[pS]at h
  have:NK=[]:=List.length_eq_zero_iff.1 (by omega);subst this;simp[Builtin.firstCells]
 |some a=>exact run_firstCells_some w' size n _ len cap NK hl (fun j u hu=>by have:=h3 a rfl j u hu;rw[<-this];simp[World.cell?,hw])
omit hT in
def zco{i c sz:Nat}{l:I M}{e:X}(hl:lk s.h i=some (.inl (l,e,sz+1+2))){off n:Nat}(ho:off=bR c*(sz+1))(hn:off+n*(sz+1)<=l.length):n+bR c<=m.cp i:=by
 have⟨pr,rest,_,_,h3⟩:=(hf.fits).ok i _ hl;have:(n+bR c)*(sz+1)<=m.cp i*(sz+1):=by rw[Nat.add_mul];omega
 exact Nat.le_of_mul_le_mul_right this (by omega)
variable{xt:X}
variable{ty:X}
variable{tZ:M}
def z0j{e e2:X}{sz by_:Nat}{z:M}(hd:T.und t=some (.slice e))(dL:T.und xt=some (.slice e2))(hi:T.inf e=some (sz+1,by_,z)){a:Addr}{l p new cnew:I M}{c k:Nat}{xb:V Addr}{xc:Nat}
  (hr:cW s a.block=some (l,e,sz+1+2)) (eQ:a.off=bR c*(sz+1)) (hc:¬ c<bY) (bN:y9 (n+(k+1)) by_=true) (xO:z.cells.toList.length=sz+1) (hg:xA l a.off (n*(sz+1))=some p) (FV:nZ m s.nx new cnew) (vV:new.length=(k+1)*(sz+1)) (h1:tD new=true) (iC:∀w',w'.heap=w.heap->∀len cap,(Builtin.firstCells (sz+1) (k+1) (.slice (xb.map fun a=>⟨m.blk a.block,m.sh a.block+a.off,none⟩) len cap)).run P w'=.ok ⟨cnew⟩ w')
  {cx:M} (uS:cx=.slice (xb.map fun a=>⟨m.blk a.block,m.sh a.block+a.off,none⟩) (k+1) (mU m xb xc)) (ecs:tZ=.slice ((some a).map fun a=>⟨m.blk a.block,m.sh a.block+a.off,none⟩) n (mU m (some a) c)):
  Eff P m s w (Builtin.append_ #[t,xt] ty #[tZ,cx]) (.slice (some ⟨s.nx,0,none⟩) (n+(k+1)) bY) ⟨(s.nx,.inl (p++new,e,sz+1+2))::rm s.h a.block,s.nx+1⟩:=by
 have dS:cO T e=some (sz+1):=by simp[cO,hi]
 have⟨hl,qQ⟩:=yg hr;have⟨HE,B2⟩:=Pi hg;have nO:=fm hg;have hX:mU m (some a) c=m.cp a.block-bR c:=by simp[mU,bX,hc]
 have gX:=(hf.fits).bd _ _ hl;have DQ:pS s (some a) (n*(sz+1))=some p:=by cases hn:n*(sz+1)with|zero=>rw[hn]at nO;simp[pS,List.length_eq_zero_iff.1 nO]|succ q=>rw[hn]at hg;simp[pS,hl,hg]
 have⟨cold,z0,_,wU⟩:=Ps (P:=P) hf DQ;have eS:cnew.length=(k+1)*(sz+1):=by rw[<-FV.at];simp[vV]
 rw[hX]at ecs;by_cases oN:n+(k+1)<=m.cp a.block-bR c
 ·-- eU is room
  have⟨pr,rest,hb,tK,DI⟩:=(hf.fits).ok _ _ hl;have Wa:a.off+n*(sz+1)+cnew.length<=l.length+rest.length:=by rw[DI,eQ,eS,<-Nat.add_mul,<-Nat.add_mul];exact Nat.mul_le_mul_right _ (by omega)
  have FR:∀v∈cnew,v.oneCell'=true:=by rw[<-FV.at];exact qra h1
  have H?:(pr++aJ m l++rest).length=m.sh a.block+(l.length+rest.length):=by simp[tK]
  have bZ:=run_storeCells_at P (m.blk a.block) (m.sh a.block+a.off+n*(sz+1)) e cnew 0 _ w hb (by simp only[List.size_toArray,H?];omega) FR;simp only[Nat.add_zero]at bZ;refine⟨_,_,.slice (some ⟨m.blk a.block,m.sh a.block+a.off,none⟩) (n+(k+1)) (m.cp a.block-bR c),?_,bQ.rename (w':=w.setRow (m.blk a.block) ((pr++aJ m l++rest).take (m.sh a.block+a.off+n*(sz+1))++cnew++(pr++aJ m l++rest).drop (m.sh a.block+a.off+n*(sz+1)+cnew.length)).toArray) hf hl (rh qQ) (m.sh a.block+a.off) (m.cp a.block-bR c) (fun k hk=>setRow_other w _ k _ hk) (by simp) rfl rfl rfl (zF _) ?_,?_⟩;rw[uS,ecs];exact Ru (P:=P) hT (w:=w) (ty:=ty) hd dL dS (iC w rfl _ _) oN (fun a' tT=>by simp only[zM,zA]at tT;subst tT;rw[yH];exact bZ) (fun eH=>by simp at eH);intro m' ha;have⟨xU,HN,Dc⟩:=ha s.nx (zN _);have⟨e1,e2,e3⟩:=D8 m s.nx (m.blk a.block) (m.sh a.block+a.off) (m.cp a.block-bR c);have tT:aN s.nx m m':=(Nm.agree_set m s.nx _ _ _).trans ha (Nat.le_succ _);refine⟨(pr++aJ m l++rest).take (m.sh a.block+a.off),(pr++aJ m l++rest).drop (m.sh a.block+a.off+n*(sz+1)+cnew.length),?_,?_,?_⟩;rw[xU,e1,setRow_heap w _ _ _ e (0,0) hb,yJ,FV m' tT,z0 m' tT];have Bz:((pr++aJ m l++rest).drop (m.sh a.block+a.off)).take (n*(sz+1))=cold:=by rw[<-z0.at,HE];rcases Nat.eq_zero_or_pos (n*(sz+1))with h0 |f0;rw[h0];simp[aJ];rw[<-tK,zT,List.drop_append,List.drop_of_length_le (by omega),List.nil_append,Nat.add_sub_cancel_left,List.drop_append_of_le_length (by simp;omega),List.take_append_of_le_length (by simp;omega)];simp[mY,List.map_drop,List.map_take]
  have Kp:(pr++aJ m l++rest).take (m.sh a.block+a.off+n*(sz+1))=(pr++aJ m l++rest).take (m.sh a.block+a.off)++cold:=by rw[List.take_add,Bz]
  rw[Kp];congr 2;simp[zT];rw[HN,e2,List.length_take,H?];omega;rw[Dc,e3,zU,nO,vV,List.length_drop,H?];rw[DI,eS,eQ,<-Nat.add_mul];have e4:=z95 (m.sh a.block) (m.cp a.block) (bR c) n (k+1) (sz+1);rw[e4,<-Nat.add_mul,z71 _ _ _ _ oN];refine SY (zN _) fun m' ha=>?_;rw[Hv];have⟨_,_,e3⟩:=D8 m s.nx (m.blk a.block) (m.sh a.block+a.off) (m.cp a.block-bR c);exact(ha s.nx (zN _)).2.2.trans e3
 have aE:m.cp a.block-bR c<n+(k+1):=by omega
 have⟨nc,hnc2,cX⟩:=qo6 (P:=P) hT (w:=w) (ty:=ty) hd dL hi (n:=n) (k:=k+1) (C:=m.cp a.block-bR c) (base:=(some a).map fun a=>⟨m.blk a.block,m.sh a.block+a.off,none⟩) (fun w' hw=>iC w' hw (k+1) (mU m xb xc)) (fun w' hw=>wU w' hw n _) aE bN;have Ci:iA m s w.drew:=vk _ hf;have aS:=yr Ci (rest:=(Builtin.zeroCells z.cells (nc-(n+(k+1)))).toList) (z0.append FV) e nc (sz+1) (by
  have UF:z.cells.size=sz+1:=by simpa using xO
  rw[zU,nO,vV,Array.length_toList,i8,UF,<-Nat.add_mul,<-Nat.add_mul];congr 1;omega)
 have cR:=((bQ.draw (w.drawn+1) hf).trans aS).trans (bQ.forget aS.fits a.block);have bZ:(⟨rm (newRow s (p++new) e (sz+1+2)).h a.block,(newRow s (p++new) e (sz+1+2)).nx⟩:S)=⟨(s.nx,.inl (p++new,e,sz+1+2))::rm s.h a.block,s.nx+1⟩:=by simp[newRow,rm,beq_eq,show s.nx≠a.block by omega]
 rw[bZ]at cR;refine⟨_,_,.slice (some ⟨w.heap.size,0,none⟩) (n+(k+1)) nc,?_,cR,?_⟩;rw[uS,ecs,cX];congr 3;simp;have hw:w.drew.heap.size=w.heap.size:=rfl;rw[hw];refine SY (zN _) fun m' ha=>?_;rw[Hv];have⟨_,_,e3⟩:=D8 m s.nx w.heap.size 0 nc;exact(ha s.nx (zN _)).2.2.trans e3
omit hT in
def oo {base : V Addr} {n c sz : Nat} {v : M} {bJ : S} (h : (cond (Nat.blt c bY) (cond (Nat.ble n c) (some (Value.slice base n c, s)) none)
            (match base with
              |some a=> match cW s a.block with
                |some (l,_,md)=> cond (Nat.beq md (sz+3)) (cond (Nat.beq a.off (bR c*(sz+1))) (match xA l a.off (n*(sz+1))with
                  |some _=> some (Value.slice base n c,s)|none=> none) none) none
                |none=> none
              |none=> none))=some (v,bJ)):v=.slice base n c/\bJ=s/\n<=mU m base c:=by
  simp[beq_eq]at h;cases hc:Nat.blt c bY with
  |true=>simp[hc,zC]at h;have mQ:c<bY:=JA hc;rcases v7:Nat.ble n c with _|_;simp only[v7,zD]at h;cases h;simp[v7,zC,zA,zB]at h;refine⟨h.1.symm,h.2.symm, ?_⟩;have:n<=c:=zY v7;rcases base with _|a;exact this;simp[mU,bX,if_pos mQ];exact this
  |false=>have mQ : ¬ c<bY:=Qk hc;simp[hc,zD]at h;rcases base with _|a;simp at h;simp only at h;rcases hr:cW s a.block with _|r;simp[hr]at h;have⟨l,e',md⟩:=r;simp[hr]at h;by_cases qQ:md=sz+3;by_cases eQ:a.off=bR c*(sz+1);rw[decide_eq_true qQ,decide_eq_true eQ]at h;simp[zC]at h;rcases hg:xA l a.off (n*(sz+1))with _|q;simp[hg]at h;simp[hg,zA,zB]at h;refine⟨h.1.symm,h.2.symm, ?_⟩;have⟨_,oN⟩:=Pi hg;have hl:=(yg hr).1;subst qQ;simp[mU,bX,if_neg mQ];rcases Nat.eq_zero_or_pos n with h0 |f0;rw[h0];exact Nat.zero_le _;have tL:0<n*(sz+1):=Nat.mul_pos f0 (by omega);have:=zco hf (c:=c) (n:=n) (off:=a.off) hl eQ (by omega);omega;rw[decide_eq_true qQ,decide_eq_false eQ]at h;simp at h;rw[decide_eq_false qQ]at h;simp at h
def qrc{sv x cx:M}(hs:fI m s.nx sv tZ)(hx:fI m s.nx x cx)(h:xM T s t xt sv x=some (v,bJ)):Eff P m s w (Builtin.append_ #[t,xt] ty #[tZ,cx]) v bJ:=by
 unfold xM at h;rcases hd:T.und t with _|d;simp[hd]at h;cases d with
 |slice e=>
  rcases dL:T.und xt with _|d2;simp[hd,dL]at h;cases d2 with
  |slice e2=>
   cases sv with
   |slice base n c=>
    cases x with
    |slice xb k xc=>
     simp only[hd,dL]at h;rcases hi:T.inf e with _|y;simp[hi]at h;obtain⟨sz,by_,z⟩:=y;cases sz with
     |zero=>simp[hi]at h|succ sz=>
      have dS:cO T e=some (sz+1):=by simp[cO,hi]
      simp only[hi]at h;rcases hcx:pS s xb (k*(sz+1))with _|new;simp[hcx]at h;simp only[hcx]at h;rcases h1:tD new with _|_;simp[h1]at h;simp only[h1,zC]at h;obtain⟨cnew,FV,vV,iC⟩:=Ps (P:=P) hf hcx;have uS:cx=.slice (xb.map fun a=>⟨m.blk a.block,m.sh a.block+a.off,none⟩) k (mU m xb xc):=by rw[<-hx.at];cases xb<;>simp[aI,mU]
      have ecs:tZ=.slice (base.map fun a=>⟨m.blk a.block,m.sh a.block+a.off,none⟩) n (mU m base c):=by rw[<-hs.at];cases base<;>simp[aI,mU]
      cases k with
      |zero=>
       have hnn:cnew=[]:=List.length_eq_zero_iff.1 (by rw[<-FV.at];simp[vV]);subst hnn;have fin:v=.slice base n c->bJ=s->n<=(mU m base c)->Eff P m s w (Builtin.append_ #[t,xt] ty #[tZ,cx]) v bJ:=by rintro rfl rfl oN;refine⟨m,w,tZ,?_,bQ.refl hf,hs⟩;rw[uS,ecs];have:=Ru (P:=P) hT (w:=w) (ty:=ty) (w₁:=w) hd dL dS (base:=base.map fun a=>⟨m.blk a.block,m.sh a.block+a.off,none⟩) (n:=n) (iC w rfl 0 (mU m xb xc)) (C:=(mU m base c)) (by simpa using oN) (fun a _=>by simp[storeCells]) (fun _=>rfl);simpa using this
       obtain⟨e1,e2,oN⟩:=oo hf h;exact fin e1 e2 oN
      |succ k=>
       simp only[Y2,beq_eq]at h;cases hc:Nat.blt c bY with
       |true=>
        simp only[hc,zC]at h;have mQ:c<bY:=JA hc;have hX:(mU m base c)=c:=by cases base<;>simp[mU,bX,mQ]
        cases v7:Nat.ble (n+(k+1)) c with
        |true=>simp only[v7,zC]at h;have oN:n+(k+1)<=c:=zY v7;rcases base with _|a;simp at h;simp only at h;rcases hr:cW s a.block with _|r;simp[hr]at h;obtain⟨l,e',md⟩:=r;simp only[hr]at h;rcases hp:uC l (a.off+n*(sz+1)) new with _|l';simp[hp]at h;simp only[hp,zA,zB]at h;obtain⟨rfl,rfl⟩:=h;obtain⟨w₁,bZ,aS⟩:=jz (P:=P) hf hr hp FV h1;refine⟨m,w₁,.slice (some ⟨m.blk a.block,m.sh a.block+a.off,none⟩) (n+(k+1)) c,?_,aS,?_⟩;rw[uS,ecs,hX];exact Ru (P:=P) hT (w:=w) (ty:=ty) hd dL dS (iC w rfl _ _) oN (fun a' tT=>by simp only[zM,zA]at tT;subst tT;rw[yH,Nat.add_assoc];exact bZ) (fun eH=>by simp at eH);intro m' ha;have gX:=(hf.fits).bd _ _ (yg hr).1;obtain⟨b1,b2,_⟩:=ha a.block gX;simp[aI,b1,b2,bX,mQ]
        |false=>
         simp only[v7,zD]at h;have aE:c<n+(k+1):=by rcases Nat.lt_or_ge c (n+(k+1))with hh |hh;exact hh;have:=Nat.ble_eq_true_of_le hh;rw[this]at v7;cases v7
         rcases hco:pS s base (n*(sz+1))with _|old;simp[hco]at h;simp only[hco]at h;rcases bN:y9 (n+(k+1)) by_ with _|_;simp[bN]at h;simp only[bN,zC]at h;by_cases xO:z.cells.toList.length=sz+1;simp only[xO,yC,zC,zA,zB]at h;obtain⟨rfl,rfl⟩:=h;obtain⟨cold,z0,xR,wU⟩:=Ps (P:=P) hf hco;obtain⟨nc,hnc2,cX⟩:=qo6 (P:=P) hT (w:=w) (ty:=ty) hd dL hi (n:=n) (k:=k+1) (C:=c) (base:=base.map fun a=>⟨m.blk a.block,m.sh a.block+a.off,none⟩) (fun w' hw=>iC w' hw (k+1) (mU m xb xc)) (fun w' hw=>wU w' hw n c) aE bN;have Ci:iA m s w.drew:=vk _ hf;have aS:=yr Ci (rest:=(Builtin.zeroCells z.cells (nc-(n+(k+1)))).toList) (z0.append FV) e nc (sz+1) (by
          have UF:z.cells.size=sz+1:=by simpa using xO
          rw[zU,xR,vV,Array.length_toList,i8,UF,<-Nat.add_mul,<-Nat.add_mul];congr 1;omega)
         refine⟨_,_,.slice (some ⟨w.heap.size,0,none⟩) (n+(k+1)) nc,?_,(bQ.draw (w.drawn+1) hf).trans aS,?_⟩;rw[uS,ecs,hX,cX];congr 3;simp;have hw:w.drew.heap.size=w.heap.size:=rfl;rw[hw];refine SY (zN _) fun m' ha=>?_;rw[Hv];obtain⟨_,_,e3⟩:=D8 m s.nx w.heap.size 0 nc;exact(ha s.nx (zN _)).2.2.trans e3;simp only[xO,yB,zD]at h;cases h
       |false=>
        simp only[hc,zD]at h;generalize hD:bR c=D at h;have mQ:¬ c<bY:=Qk hc;rcases base with _|a;simp at h;simp only at h;rcases hr:cW s a.block with _|r;simp[hr]at h;obtain⟨l,e',md⟩:=r;simp only[hr]at h;by_cases qQ:md=sz+1+2;by_cases Q9:e'=e;by_cases eQ:a.off=D*(sz+1);rcases bN:y9 (n+(k+1)) by_ with _|_;simp[qQ,Q9,bN]at h;by_cases xO:z.cells.toList.length=sz+1;rcases hg:xA l a.off (n*(sz+1))with _|p;simp only[qQ,Q9,yC,zC,bN,xO,hg,<-eQ]at h;cases h;have h':some (Value.slice (some ⟨s.nx,0,none⟩) (n+(k+1)) bY,(⟨(s.nx,.inl (p++new,e,sz+1+2))::rm s.h a.block,s.nx+1⟩:S))=some (v,bJ):=by simpa only[qQ,Q9,yC,zC,bN,xO,hg,<-eQ]using h
        simp only[zA,zB]at h';obtain⟨rfl,rfl⟩:=h';subst qQ Q9;clear h;exact z0j hT hf hd dL hi hr (by rw[hD];exact eQ) mQ bN xO hg FV vV h1 iC uS ecs;simp only[qQ,Q9,yC,yB,zC,zD,bN,xO,<-eQ]at h;cases h;simp only[qQ,Q9,eQ,yC,yB,zC,zD]at h;cases h;simp only[qQ,Q9,yC,yB,zC,zD]at h;cases h;simp only[qQ,yB,zD]at h;cases h
    |_=>simp[hd,dL]at h
   |_=>simp[hd,dL]at h
  |_=>simp[hd,dL]at h
 |_=>simp[hd]at h
omit hT hf in
def vn(size len cap:Nat)(b:V Addr)(w':World):(Builtin.firstCells size 0 (.slice b len cap)).run P w'=.ok #[] w':=by cases b<;>simp[Builtin.firstCells,loadCells,loadCellsFrom]
def z2g{sv x cx:M}(hs:fI m s.nx sv tZ)(hx:fI m s.nx x cx)(h:vO T s t xt sv x=some (v,bJ)):Eff P m s w (Builtin.append_ #[t,xt] ty #[tZ,cx]) v bJ:=by
 have src:∀{sv tZ:M}{a:V Addr},fI m s.nx sv tZ->xM T s t xt sv (.slice none 0 0)=some (v,bJ)->Eff P m s w (Builtin.append_ #[t,xt] ty #[tZ,.slice a 0 0]) v bJ:=by
  intro sv tZ a hs h;have h0:=h;unfold xM at h;rcases hd:T.und t with _|d;simp[hd]at h;cases d with
  |slice e=>
   rcases dL:T.und xt with _|d2;simp[hd,dL]at h;cases d2 with
   |slice e2=>
    cases sv with
    |slice base n c=>
     simp only[hd,dL]at h;rcases hi:T.inf e with _|y;simp[hi]at h;obtain⟨sz,by_,z⟩:=y;cases sz with
     |zero=>simp[hi]at h|succ sz=>
      have dS:cO T e=some (sz+1):=by simp[cO,hi]
      simp only[hi,Nat.zero_mul,pS,tD,zC]at h;obtain⟨e1,e2,oN⟩:=oo hf h;subst e1;subst e2;have ecs:tZ=.slice (base.map fun a=>⟨m.blk a.block,m.sh a.block+a.off,none⟩) n (mU m base c):=by rw[<-hs.at];cases base<;>simp[aI,mU]
      refine⟨m,w,tZ,?_,bQ.refl hf,hs⟩;rw[ecs];have:=Ru (P:=P) hT (w:=w) (ty:=ty) (w₁:=w) hd dL dS (base:=base.map fun a=>⟨m.blk a.block,m.sh a.block+a.off,none⟩) (n:=n) (xb:=a) (xc:=0) (k:=0) (cnew:=#[]) (vn _ _ _ _ _) (C:=(mU m base c)) (by simpa using oN) (fun a _=>by simp[storeCells]) (fun _=>rfl);simpa using this
    |_=>simp[hd,dL]at h
   |_=>simp[hd,dL]at h
  |_=>simp[hd]at h
 have tgt:∀{x cx:M}{a:V Addr}{v':M}{s':S},(fI m s.nx x cx\/x=.slice none 0 0/\∃b,cx=.slice b 0 0)->xM T s t xt (.slice none 0 0) x=some (v',s')->(v'=.slice none 0 0/\s'=s/\(Builtin.append_ #[t,xt] ty #[.slice a 0 0,cx]).run P w=.ok (.slice a 0 0) w)\/((∃b n c,v'=.slice (some b) n c)/\Eff P m s w (Builtin.append_ #[t,xt] ty #[.slice a 0 0,cx]) v' s'):=by
  intro x cx a v' s' hx h;have Cm:=fun hx=>qrc (ty:=ty) hT hf (BV (m:=m) (n:=s.nx) (v:=.slice none 0 0) fun _=>by simp[aI]) (cx:=cx) hx h;unfold xM at h;rcases hd:T.und t with _|d
  simp[hd]at h;cases d with
  |slice e=>
   rcases dL:T.und xt with _|d2;simp[hd,dL]at h;cases d2 with
   |slice e2=>
    cases x with
    |slice xb k xc=>
     simp only[hd,dL]at h;rcases hi:T.inf e with _|y;simp[hi]at h;obtain⟨sz,by_,z⟩:=y;cases sz with
     |zero=>simp[hi]at h|succ sz=>
      have dS:cO T e=some (sz+1):=by simp[cO,hi]
      simp only[hi]at h;rcases hcx:pS s xb (k*(sz+1))with _|new;simp[hcx]at h;simp only[hcx]at h;rcases h1:tD new with _|_;simp[h1]at h;simp only[h1,zC]at h;obtain⟨cnew,FV,vV,iC⟩:=Ps (P:=P) hf hcx;have uS:fI m s.nx (.slice xb k xc) cx->cx=.slice (xb.map fun a=>⟨m.blk a.block,m.sh a.block+a.off,none⟩) k (mU m xb xc):=fun hx=>by rw[<-hx.at];cases xb<;>simp[aI,mU]
      cases k with
      |zero=>
       obtain⟨e1,e2,oN⟩:=oo (sz:=sz) hf h;refine .inl ⟨e1,e2,?_⟩;have hcx0:∃b c,cx=.slice b 0 c:=by rcases hx with hx |⟨_,b,hb⟩;exact⟨_,_,uS hx⟩;exact⟨b,0,hb⟩
       obtain⟨b,c,rfl⟩:=hcx0;have:=Ru (P:=P) hT (w:=w) (ty:=ty) (w₁:=w) hd dL dS (base:=a) (n:=0) (xb:=b) (xc:=c) (k:=0) (cnew:=#[]) (vn _ _ _ _ _) (C:=0) (zF _) (fun a _=>by simp[storeCells]) (fun _=>rfl);simpa using this
      |succ k=>
       have bN:y9 (0+(k+1)) by_=true/\∃b n c,v'=.slice (some b) n c:=by
        simp only[Y2]at h;have c0:Nat.blt 0 bY=true:=Nat.ble_eq_true_of_le (by simp[bY]);have c1:Nat.ble (0+(k+1)) 0=false:=by rcases hb:Nat.ble (0+(k+1)) 0 with _|_;rfl;have:=zY hb;omega
        simp only[c0,c1,zC,zD,Nat.zero_mul,pS]at h;rcases hr:y9 (0+(k+1)) by_ with _|_;simp only[hr,zD]at h;cases h;simp only[hr,zC]at h;rcases hz:Nat.beq z.cells.toList.length (sz+1)with _|_;simp only[hz,zD]at h;cases h;simp only[hz,zC,zA,zB]at h;exact⟨rfl,_,_,_,h.1.symm⟩
       refine .inr ⟨bN.2,?_⟩;have hx:fI m s.nx (.slice xb (k+1) xc) cx:=by rcases hx with hx |⟨hx,_⟩;exact hx;cases hx
       have⟨aH,w₁,cv,g1,g2,g3⟩:=Cm hx;refine⟨aH,w₁,cv,?_,g2,g3⟩;rw[uS hx]at g1 ⊢;have q2:=jP (P:=P) hT (w:=w) (ty:=ty) hd dL hi (base:=none) (n:=0) (C:=0) (cold:=#[]) (fun w' hw=>iC w' hw (k+1) (mU m xb xc)) (fun w' _=>vn _ _ _ _ _) (by omega) bN.1;have q2':=jP (P:=P) hT (w:=w) (ty:=ty) hd dL hi (base:=a) (n:=0) (C:=0) (cold:=#[]) (fun w' hw=>iC w' hw (k+1) (mU m xb xc)) (fun w' _=>vn _ _ _ _ _) (by omega) bN.1;rw[q2',<-q2];exact g1
    |_=>simp[hd,dL]at h
   |_=>simp[hd,dL]at h
  |_=>simp[hd]at h
 have flat:(fI m s.nx (yF x) cx\/yF x=.slice none 0 0/\∃b,cx=.slice b 0 0):=by
  cases x with
  |chan r=>rcases r with _|r;exact .inl hx;have:=hx.at;simp[aI]at this;exact .inr ⟨rfl,_,this.symm⟩
  |_=>exact .inl hx
 unfold vO at h;cases hw:AZ sv with
 |false=>simp[hw,zD]at h;rcases flat with hx |⟨e1,b,rfl⟩;exact qrc hT hf hs hx h;rw[e1]at h;exact src hs h
 |true=>
  simp[hw,zC]at h;obtain⟨r,rfl⟩:∃r,sv=.chan (some r):=by
   cases sv with
   |chan r=>cases r with
    |none=>simp[AZ]at hw|some r=>exact⟨r,rfl⟩
   |_=>simp[AZ]at hw
  have ecs:=hs.at;simp[aI]at ecs;rcases ha:xM T s t xt (.slice none 0 0) (yF x)with _|q;simp[ha]at h;have⟨v',s'⟩:=q;rcases tgt (a:=some ⟨m.blk r,m.sh r,some (m.cp r)⟩) flat ha with⟨e1,e2,cX⟩|⟨⟨b,n,c,e1⟩,Cm⟩;rw[ha,e1]at h;simp[zA,zB]at h;have⟨rfl,rfl⟩:=h;exact⟨m,w,tZ,by rw[<-ecs];exact cX,bQ.refl hf,hs⟩;rw[ha,e1]at h;simp[zA,zB]at h;have⟨rfl,rfl⟩:=h;rw[<-ecs,<-e1];exact Cm
end
variable{m:Nm}
variable{s:S}
variable{w:World}
def bQ.ghost(h:iA m s w)(b sh cp:Nat):bQ m s w (m.set s.nx b sh cp) ⟨s.h,s.nx+1⟩ w:=by refine⟨Nm.agree_set m _ _ _ _,Nat.le_succ _,fun m' ha=>?_,?_,fun _ _ _=>rfl,zF _,rfl,rfl,rfl⟩;have hf:=h m' ((Nm.agree_set m s.nx b sh cp).trans ha (Nat.le_succ _));exact⟨hf.ok,hf.inj,fun i c hc=>Nat.lt_succ_of_lt (hf.bd i c hc)⟩;rintro k ⟨j,d,hd,ho,rfl⟩;have:=(h.fits).bd j d hd;exact .inl ⟨j,d,hd,ho,by simp[Nm.set,show j≠s.nx by omega]⟩
variable{r:Nat}
variable{es:I MapEntry}
variable{cl:Nat}
def Ic(h:D6 s r=some (es,cl)):lk s.h r=some (.inr (es,cl)):=by unfold D6 at h;rcases hl:lk s.h r with _|b;simp[hl]at h;rcases b with x |x<;>simp[hl]at h;rw[h]
def YH{P:Program}(hf:iA m s w){es':I MapEntry}{ces:I MapEntry}{cl':Nat}(hr:D6 s r=some (es,cl))
  (he:∀m',aN s.nx m m'->es'.map (fF m')=ces):
  ∃w₁,(setObj (m.blk r) (.map ces.toArray cl')).run P w=.ok () w₁/\bQ m s w m (OH s r es' cl') w₁:=by have hl:=Ic hr;have hb:w.heap[m.blk r]? = some (.map (es.map (fF m)).toArray cl):=(hf.fits).ok r _ hl;refine⟨{ w with heap:=w.heap.setIfInBounds (m.blk r) (.map ces.toArray cl') },by simp[setObj,Sem.run,hb],?_⟩;refine bQ.write hf hl rfl (fun k hk=>?_) (by simp) rfl rfl rfl (zF _) fun m' ha=>?_;exact Array.getElem?_setIfInBounds_ne (Ne.symm hk);have A0:m'.blk r=m.blk r:=(ha r ((hf.fits).bd r _ hl)).1;have aE:=(hf.fits).size hl;simp[yG,A0,he m' ha];exact Array.getElem?_setIfInBounds_self_of_lt aE
def vh(hf:iA m s w)(hr:D6 s r=some (es,cl)):∀m',aN s.nx m m'->es.map (fF m')=es.map (fF m):=fun m' ha=>by
 have hl:=Ic hr;have h1:w.heap[m.blk r]? = some (.map (es.map (fF m)).toArray cl):=(hf.fits).ok r _ hl;have h2:w.heap[m'.blk r]? = some (.map (es.map (fF m')).toArray cl):=(hf m' ha).ok r _ hl;rw[(ha r ((hf.fits).bd r _ hl)).1,h1]at h2;simp at h2;exact List.map_congr_left fun e Q9=>(h2 e Q9).symm
def z2r{a b:ByteArray}(h:lQ a.data.toList b.data.toList=true):a=b:=by
 rw[vp]at h;have:a.data.toList=b.data.toList:=by simpa using h
 exact ByteArray.ext (Array.ext' this)
def zcu{E:M->M->Bool}{n:Nat}(hE:∀a b,E a b=true->a=b/\Instr.sameBits n a b=true)(x y:I M)(h:EA E x y=true):x=y/\((x.zip y).all fun p=>Instr.sameBits n p.1 p.2)=true:=by induction x generalizing y with|nil=>cases y<;>simp_all[EA]|cons a x ih=>rcases y with _|⟨b,y⟩;simp[EA]at h;simp[EA]at h;rcases uQ:E a b with _|_;simp[uQ]at h;simp[uQ,zC]at h;have⟨e1,e2⟩:=hE a b uQ;have⟨e3,e4⟩:=ih y h;subst e1 e3;simp only[List.zip_cons_cons,List.all_cons,e2,e4];simp
def WR(d k:Nat):∀a b,AF d a b=true->a=b/\Instr.sameBits (d+k) a b=true:=by
 induction d with
 |zero=>intro a b h;simp[AF]at h|succ d ih=>
  intro a b h;have hs:d+1+k=(d+k)+1:=by omega
  rw[hs];simp[AF]at h;cases a with
  |int k1 x=>cases b with|int k2 y=>simp only at h;by_cases e1:k1=k2;by_cases e2:x=y;subst e1 e2;exact⟨rfl,by simp[Instr.sameBits]⟩;simp[e1,e2]at h;simp[e1]at h|_=>simp at h
  |bool x=>cases b with|bool y=>simp at h;subst h;exact⟨rfl,by simp[Instr.sameBits]⟩|_=>simp at h
  |string x=>cases b with|string y=>simp only at h;have:=z2r h;subst this;exact⟨rfl,by simp[Instr.sameBits,beq_toListBytes]⟩|_=>simp at h
  |agg x=>
   cases b with
   |agg y=>have⟨x⟩:=x;have⟨y⟩:=y;simp only at h;have⟨e1,e2⟩:=zcu ih x y h;subst e1;refine⟨rfl,?_⟩;simp only[Instr.sameBits,beq_self_eq_true,Bool.true_and];exact e2
   |_=>simp at h
  |_=>simp at h
def qpp{P:Program}{a b:M}(h:AF 50 a b=true)(w:World):(Instr.keyThatStays a b).run P w=.ok b w/\a=b:=by have⟨e1,e2⟩:=WR 50 9950 a b h;refine⟨?_,e1⟩;have e3:Instr.sameBits 10000 a b=true:=e2;simp[Instr.keyThatStays,e3]
def ic(es:I MapEntry)(i:Nat)(f:MapEntry->MapEntry):NQ es i f=es.modify i f:=by induction es generalizing i with|nil=>simp[NQ]|cons e es ih=>cases i<;>simp[NQ,ih]
def qv4(es:I MapEntry)(i:Nat):YC es i=es.eraseIdx i:=by induction es generalizing i with|nil=>simp[YC]|cons e es ih=>cases i<;>simp[YC,ih]
variable{v:M}
def z7s{T:Tb}{kt:X}{k:M}(es:I MapEntry)(b:Nat){i:Nat}(h:rE T kt k es b=some (some (i,v))):b<=i/\∃e,es[i-b]? = some e/\e.val=v:=by
 induction es generalizing b with
 |nil=>simp[rE]at h|cons e es ih=>
  simp[rE]at h;rcases he:eqv T 50 kt k e.key with _|r;simp[he]at h;cases r with
  |true=>simp[he]at h;have⟨rfl,rfl⟩:=h;exact⟨zF _,e,by simp,rfl⟩
  |false=>simp[he]at h;have⟨h1,e',h2,h3⟩:=ih (b+1) h;refine⟨by omega,e',?_,h3⟩;rw[show i-b=(i-(b+1))+1 by omega];simpa using h2
section
variable{P:Program}{T:Tb}(hT:lP P T){m:Nm}{s:S}{w:World}(hf:iA m s w)
include hT hf
variable{t:X}
variable{ty:X}
variable{x:M}
variable{bJ:S}
def zbg{ts:I X}{d cd cx:M}(bG:fI m s.nx d cd)(hx:fI m s.nx x cx)(h:Lu T s t d x=some (v,bJ)):Eff P m s w (Builtin.copy_ (t::ts).toArray ty #[cd,cx]) v bJ:=by
 unfold Lu at h;rcases hd:T.und t with _|dd;simp[hd]at h;cases dd with
 |slice e=>
  cases d with
  |slice base n c=>
   cases x with
   |slice xb k xc=>
    simp[hd]at h;rcases hs:cO T e with _|sz;simp[hs]at h;simp[hs]at h;rcases hcx:pS s xb (Nat.min k n*sz)with _|cs;simp[hcx]at h;simp[hcx]at h;rcases h1:tD cs with _|_;simp[h1]at h;simp[h1,zC]at h;have⟨cnew,FV,vV,iC⟩:=Ps (P:=P) hf hcx;have uS:cx=.slice (xb.map fun a=>⟨m.blk a.block,m.sh a.block+a.off,none⟩) k (mU m xb xc):=by rw[<-hx.at];cases xb<;>simp[aI,mU]
    have ecd:cd=.slice (base.map fun a=>⟨m.blk a.block,m.sh a.block+a.off,none⟩) n (mU m base c):=by rw[<-bG.at];cases base<;>simp[aI,mU]
    have v9:=iC w rfl k (mU m xb xc);have fin:∀w₁,(∀a,base=some a->(storeCells ⟨m.blk a.block,m.sh a.block+a.off,none⟩ cnew).run P w=.ok () w₁)->(base=none->w₁=w)->
      (Builtin.copy_ (t::ts).toArray ty #[cd,cx]).run P w=.ok (.int .i64 (Nat.min k n)) w₁:=by
     intro w₁ h2 h3;rw[uS,ecd];rcases base with _|a;rw[h3 rfl];simp[Builtin.copy_,iK hT w hd,Builtin.lenOf,o6 hT w hs,v9,goInt];simp[Builtin.copy_,iK hT w hd,Builtin.lenOf,o6 hT w hs,v9,goInt,h2 a rfl]
    cases cs with
    |nil=>
     simp[zA,zB]at h;have⟨rfl,rfl⟩:=h;have hnn:cnew=[]:=by rw[<-FV.at];simp[aJ]
     subst hnn;exact⟨m,w,_,fin w (fun a _=>by simp[storeCells]) (fun _=>rfl),bQ.refl hf,BV fun _=>by simp[aI]⟩
    |cons c0 cs=>simp only at h;rcases base with _|a;simp at h;simp only at h;rcases hr:cW s a.block with _|r;simp[hr]at h;have⟨l,e',md⟩:=r;simp[hr]at h;rcases hp:uC l a.off (c0::cs)with _|l';simp[hp]at h;simp[hp,zA,zB]at h;have⟨rfl,rfl⟩:=h;have⟨w₁,bZ,aS⟩:=jz (P:=P) hf hr hp FV h1;exact⟨m,w₁,_,fin w₁ (fun a' tT=>by cases tT;exact bZ) (fun eH=>by cases eH),aS,BV fun _=>by simp[aI]⟩
   |_=>simp[hd]at h
  |_=>simp[hd]at h
 |_=>simp[hd]at h
omit hf in
def qwq{t xt ty e:X}{kd k:IntKind}{size by_ j:Nat}{z:M}{q:Int}(hw:IntKind.i64.wrap q=((j+1:Nat):Int))(ht:T.und t=some (.slice e))(hx:T.und xt=some (.int kd))(hi:T.inf e=some (size,by_,z))(UJ:0<size)(hr:y9 (j+1) by_=true):
  ∃nc,j+1<=nc/\(Builtin.append_ #[t,xt] ty #[.slice none 0 0,.int k q]).run P w=
   .ok (.slice (some ⟨w.heap.size,0,none⟩) (j+1) nc) ((w.drew).alloc (.cells (Builtin.zeroCells z.cells (j+1)++Builtin.zeroCells z.cells (nc-(j+1))) e)):=by
 have⟨r1,r2⟩:=qry hr;obtain⟨_,i,US,NG,UR,hi4⟩:=hT.inf e _ _ _ hi;have hs:cO T e=some size:=by simp[cO,hi]
 have g0:¬ (((j+1:Nat):Int)<0):=by omega
 have g4:¬ (((j+1:Nat):Int)*(i.bytes:Int)>2^48):=by rw[UR];have h':(((j+1)*by_:Nat):Int)<=((140737488355328:Nat):Int):=Int.ofNat_le.2 r1;rw[Int.natCast_mul]at h';omega
 have g1:¬ 0+(j+1)<=0:=by omega
 have g2:¬ (((0+(j+1):Nat):Int)>IntKind.i64.max/\(True\/i.bytes=0)):=by rw[IntKind.max_i64];omega
 have g3:¬ Builtin.nextslicecap (0+(j+1)) 0*i.bytes>2^48:=by have:=growslice_fits (bytes:=i.bytes) (show 0<0+(j+1) by omega) (by rw[UR,Nat.zero_add];exact r1);omega
 have g5:¬ (j+1)*size=0:=by have:=Nat.mul_pos (show 0<j+1 by omega) UJ;omega
 have hz:(zeroValue e).run P w.drew=.ok z w.drew:=(J7 hT (⟨id,id,id⟩:Nm) w.drew hi).1;refine⟨(Question.appendCap (0+(j+1)) 0 e).cut (w.tape w.drawn (.appendCap (0+(j+1)) 0 e)),by simp[Question.cut],?_⟩;have hff:(Question.appendCap (0+(j+1)) 0 e).forced=false:=rfl;simp only[Builtin.append_,List.getElem?_toArray,List.getElem?_cons_zero,zH,zK,iK hT w ht,iK hT w hx,o6 hT w hs,zJ,zL,Sem.run_ite,if_true,asInt,asIntOf,hw,g0,if_false,typeInfo,run_program,US,g4,zZ,g1,g2,g3,g5];simp[Builtin.firstCells];have hff':(Question.appendCap (j+1) 0 e).forced=false:=rfl;simp only[hff',Bool.false_eq_true,if_false,hz,zJ];simp[Go.newRow];rfl
def z0g{xt:X}{sv tZ cx:M}(C7:fI m s.nx sv tZ)(hx:fI m s.nx x cx)(h:jf T s t xt sv x=some (v,bJ)):Eff P m s w (Builtin.append_ #[t,xt] ty #[tZ,cx]) v bJ:=by
 unfold jf at h;split at h;rename_i e kd kd' i hd dL;have e1:tZ=.slice none 0 0:=by rw[<-C7.at];simp[aI]
 have e2:cx=.int kd' i:=by rw[<-hx.at];simp[aI]
 subst e1 e2;split at h;rename_i sz by_ z hi;split at h;rename_i k hw;rcases bN:y9 (k+1) by_ with _|_;simp[bN]at h;rw[bN]at h;simp only[zC]at h;rcases xO:Nat.beq z.cells.toList.length (sz+1)with _|_;rw[xO]at h;cases h;rw[xO]at h;simp only[zC]at h;rcases h1:tD (cC z.cells.toList (k+1))with _|_;rw[h1]at h;cases h;rw[h1]at h;simp only[zC,zA,zB]at h;obtain⟨rfl,rfl⟩:=h;have vS:=Hs hT hi;simp only at vS;have UF:z.cells.size=sz+1:=by simpa[beq_eq]using xO
 obtain⟨nc,v7,cX⟩:=qwq (P:=P) (w:=w) (ty:=ty) (k:=kd') hT hw hd dL hi (by omega) bN;have Ci:iA m s w.drew:=vk _ hf;have Q0:(Builtin.zeroCells z.cells (k+1)).toList=cC z.cells.toList (k+1):=by have:=Ph z.cells (k+1);simp only[Builtin.zeroCells]at*;rw[this]
 have aS:=yr Ci (rest:=(Builtin.zeroCells z.cells (nc-(k+1))).toList) (ky (Qa vS (k+1))) e nc (sz+1) (by
  have a1:(Builtin.zeroCells z.cells (nc-(k+1))).toList.length=(nc-(k+1))*z.cells.size:=by rw[Array.length_toList,i8]
  have a2:(cC z.cells.toList (k+1)).length=(k+1)*z.cells.size:=by rw[jy,Array.length_toList]
  rw[a1,a2,UF,<-Nat.add_mul];congr 1;omega)
 refine⟨_,_,.slice (some ⟨w.heap.size,0,none⟩) (k+1) nc,?_,(bQ.draw (w.drawn+1) hf).trans aS,?_⟩;rw[cX];congr 3;apply Array.ext';simp[Q0];have hw:w.drew.heap.size=w.heap.size:=rfl;rw[hw];refine SY (zN _) fun m' ha=>?_;rw[Hv];have⟨_,_,e3⟩:=D8 m s.nx w.heap.size 0 nc;exact(ha s.nx (zN _)).2.2.trans e3;cases h;cases h;cases h
def z0h{xt:X}{sv tZ cx:M}(C7:fI m s.nx sv tZ)(hx:fI m s.nx x cx)(h:YN T s t xt sv x=some (v,bJ)):Eff P m s w (Builtin.append_ #[t,xt] ty #[tZ,cx]) v bJ:=by unfold YN at h;split at h;rename_i r hr;cases h;exact z2g hT hf C7 hx hr;exact z0g hT hf C7 hx h
def z7f{ts:I X}{cx:M}(hx:fI m s.nx x cx)(h:YD T s t x=some (v,bJ)):Eff P m s w (Builtin.clear_ (t::ts).toArray ty #[cx]) v bJ:=by
 unfold YD at h;rcases hd:T.und t with _|dd;simp[hd]at h;cases dd with
 |slice e=>
  cases x with
  |slice base n c=>
   simp[hd]at h;have uS:cx=.slice (base.map fun a=>⟨m.blk a.block,m.sh a.block+a.off,none⟩) n (mU m base c):=by rw[<-hx.at];cases base<;>simp[aI,mU]
   cases n with
   |zero=>simp[zA,zB]at h;have⟨rfl,rfl⟩:=h;refine⟨m,w,undef,?_,bQ.refl hf,BV fun _=>by simp[undef,aI,aJ]⟩;rw[uS];cases base<;>simp[Builtin.clear_,iK hT w hd,undef]
   |succ n=>
    cases base with
    |none=>simp[zA,zB]at h;have⟨rfl,rfl⟩:=h;refine⟨m,w,undef,?_,bQ.refl hf,BV fun _=>by simp[undef,aI,aJ]⟩;rw[uS];simp[Builtin.clear_,iK hT w hd,undef]
    |some a=>
     simp only at h;rcases hi:T.inf e with _|q;simp[hi]at h;have⟨sz,by_,z⟩:=q;simp[hi]at h;have hz:=(J7 hT m w hi).1;have vS:=Hs hT hi;simp only at hz vS;rcases h1:tD (cC z.cells.toList (n+1))with _|_;simp[h1]at h;simp[h1,zC]at h;rcases hr:cW s a.block with _|r;simp[hr]at h;have⟨l,e',md⟩:=r;simp[hr]at h;rcases hp:uC l a.off (cC z.cells.toList (n+1))with _|l';simp[hp]at h;simp[hp,zA,zB]at h;have⟨rfl,rfl⟩:=h;have⟨w₁,bZ,aS⟩:=jz (P:=P) hf hr hp (ky (Qa vS (n+1))) h1;refine⟨m,w₁,undef,?_,aS,BV fun _=>by simp[undef,aI,aJ]⟩;have Q0:(Builtin.zeroCells z.cells (n+1)).toList=cC z.cells.toList (n+1):=by have:=Ph z.cells (n+1);simp only[Builtin.zeroCells]at*;rw[this]
     rw[uS];simp[Builtin.clear_,iK hT w hd,undef,hz,Q0,bZ]
  |_=>simp[hd]at h
 |_=>simp[hd]at h
def z61{cx:M}{lo hi mx:V M}{clo chi cmx:V M}(hx:fI m s.nx x cx)(h1:∀m',aN s.nx m m'->lo.map (aI m')=clo)(h2:∀m',aN s.nx m m'->hi.map (aI m')=chi)
  (h3:∀m',aN s.nx m m'->mx.map (aI m')=cmx) (h:Fz T s t x lo hi mx=some (v,bJ)):Eff P m s w (Instr.sliceAt t cx clo chi cmx) v bJ:=by
 have e1:=h1 m (aN.refl _ _);have e2:=h2 m (aN.refl _ _);have e3:=h3 m (aN.refl _ _);unfold Fz at h;rcases hd:T.und t with _|dd;simp[hd]at h;cases dd with
 |slice e=>
  cases x with
  |slice p n c=>
   rcases p with _|a;simp[hd]at h;simp[hd]at h;cases hc:Nat.blt c bY with
   |true=>simp[hc]at h|false=>
    have mQ:¬ c<bY:=Qk hc;simp[hc,zD]at h;rcases hs:cO T e with _|sz;simp[hs]at h;simp[hs]at h;rcases hr:EQ s a.block sz with _|l;simp[hr]at h;simp[hr,beq_eq]at h;by_cases eQ:a.off=bR c*sz;rw[decide_eq_true eQ]at h;simp[zC]at h;rcases f0:Nat.blt 0 sz with _|_;simp[f0]at h;have tL:0<sz:=JA f0;simp[f0,zC]at h;obtain⟨sz,rfl⟩:∃q,sz=q+1:=⟨sz-1,by omega⟩;have⟨_,_,NE,_⟩:=A_ hr;have hl:=hr;have gX:=(hf.fits).bd _ _ NE;have uS:cx=.slice (some ⟨m.blk a.block,m.sh a.block+a.off,none⟩) n (m.cp a.block-bR c):=by rw[<-hx.at];simp[aI,bX,mQ]
    have CE:(l.length-a.off)/(sz+1)<=m.cp a.block-bR c:=by
     rcases Nat.eq_zero_or_pos ((l.length-a.off)/(sz+1))with h0 |hp;omega;have oN:=Nat.div_mul_le_self (l.length-a.off) (sz+1);have wQ:a.off<=l.length:=by rcases Nat.lt_or_ge l.length a.off with aE |wQ;rw[show l.length-a.off=0 by omega]at hp;simp at hp;exact wQ
     have:=ji m w hf.fits (c:=c) (n:=(l.length-a.off)/(sz+1)) (off:=a.off) hl eQ (by omega);omega
    have hu:=iK hT w hd;cases mx with
    |some vm=>
     simp only at h;rcases wZ:jY vm ((l.length-a.off)/(sz+1))with _|M0;simp[wZ]at h;simp[wZ]at h;rcases pZ:Nat.ble (a.off+M0*(sz+1)) l.length with _|_;simp[pZ]at h;simp[pZ,zC]at h;rcases hb:i7 n M0 lo hi (some vm)with _|q;simp[hb]at h;have⟨l1,hh,v10⟩:=q;simp[hb]at h;rcases hMc:Nat.blt v10 bY with _|_;simp[hMc]at h;simp[hMc,zC,zA,zB]at h;have⟨rfl,rfl⟩:=h;have Cv:v10<bY:=JA hMc;have hM0:M0<=m.cp a.block-bR c:=by have:=(SR (P:=P) m w wZ _ (zF _) .index).2;omega
     have⟨b1,b2,b3,_⟩:=OZ (P:=P) (isS:=true) m w hb hM0;simp only[Option.isSome_some,if_true]at b1;rw[e1,e2,e3]at b1;have KR:v10-l1<bY:=Nat.lt_of_le_of_lt (Nat.sub_le _ _) Cv;refine⟨m,w,.slice (if v10=l1 then some ⟨m.blk a.block,m.sh a.block+a.off,none⟩else some ⟨m.blk a.block,m.sh a.block+a.off+l1*(sz+1),none⟩) (hh-l1) (v10-l1),?_,bQ.refl hf,fun m' ha=>?_⟩;rw[uS];simp[Instr.sliceAt,zK,hu,zJ,Instr.slice,b1,o6 hT w hs,zL,zM,yH];have⟨q1,q2,_⟩:=ha a.block gX;by_cases CJ:v10=l1;rw[CJ]at KR ⊢;simp only[yC,zC,aI,q1,q2,if_true,bX,if_pos KR];simp only[decide_eq_false CJ,zD,aI,q1,q2,if_neg CJ,bX,if_pos KR,Nat.add_assoc]
    |none=>
     simp only at h;rcases hb:i7 n ((l.length-a.off)/(sz+1)) lo hi none with _|q;simp[hb]at h;have⟨l1,hh,v10⟩:=q;simp[hb]at h;rcases pZ:Nat.ble (a.off+hh*(sz+1)) l.length with _|_;simp[pZ]at h;simp[pZ,zC]at h;have Cc:a.off+hh*(sz+1)<=l.length:=zY pZ;have hhC:=ji m w hf.fits (c:=c) (n:=hh) (off:=a.off) hl eQ Cc;have⟨b1,b2,_,b4⟩:=OZ (P:=P) (isS:=true) m w hb CE;simp only[Option.isSome_none,Bool.false_eq_true,if_false]at b1;rw[e1,e2,e3]at b1;have cX:(Instr.sliceAt t cx clo chi cmx).run P w=.ok (.slice (if m.cp a.block-bR c=l1 then some ⟨m.blk a.block,m.sh a.block+a.off,none⟩else some ⟨m.blk a.block,m.sh a.block+a.off+l1*(sz+1),none⟩) (hh-l1) (m.cp a.block-bR c-l1)) w:=by rw[uS];simp[Instr.sliceAt,zK,hu,zJ,Instr.slice,b1,o6 hT w hs,zL,zM,yH]
     cases l1 with
     |zero=>
      simp[zA,zB]at h;have⟨rfl,rfl⟩:=h;have Wf:(Instr.sliceAt t cx clo chi cmx).run P w=.ok (.slice (some ⟨m.blk a.block,m.sh a.block+a.off,none⟩) hh (m.cp a.block-bR c)) w:=by rw[Nat.sub_zero,Nat.sub_zero,Nat.zero_mul,Nat.add_zero]at cX;by_cases hC:m.cp a.block-bR c=0;rw[if_pos hC]at cX;exact cX;rw[if_neg hC]at cX;exact cX
      refine⟨m,w,_,Wf,bQ.refl hf,fun m' ha=>?_⟩;have⟨q1,q2,q3⟩:=ha a.block gX;simp[aI,q1,q2,q3,bX,if_neg mQ]
     |succ l1=>
      simp only at h;cases aE:Nat.blt (l1+1) hh with
      |true=>
       have wO:l1+1<hh:=JA aE;simp[aE,zC,zA,zB]at h;have⟨rfl,rfl⟩:=h;refine⟨m,w,_,cX,bQ.refl hf,fun m' ha=>?_⟩;have⟨q1,q2,q3⟩:=ha a.block gX;have d5:¬ m.cp a.block-bR c=l1+1:=by omega
       have v7:¬ c+(l1+1)<bY:=fun hh=>mQ (Nat.lt_of_le_of_lt (Nat.le_add_right _ _) hh);have B6:bR (c+(l1+1))=bR c+(l1+1):=qyj (Nat.le_of_not_lt mQ) _;simp[aI,q1,q2,q3,bX,if_neg v7,if_neg d5,B6,Nat.add_assoc,Nat.sub_sub]
      |false=>
       simp[aE,zD,zA,zB]at h;have⟨rfl,rfl⟩:=h;have wQ:=Qk aE;have cr:hh=l1+1:=by omega
       subst cr;rw[Nat.sub_self]at cX;by_cases hC:m.cp a.block-bR c=l1+1;rw[if_pos hC]at cX;refine⟨_,w,_,cX,bQ.ghost hf (m.blk a.block) (m.sh a.block+a.off) (m.cp a.block-bR c-(l1+1)),SY (zN _) fun m' ha=>?_⟩;rw[Hv];have⟨_,_,e3⟩:=D8 m s.nx (m.blk a.block) (m.sh a.block+a.off) (m.cp a.block-bR c-(l1+1));exact(ha s.nx (zN _)).2.2.trans e3;rw[if_neg hC]at cX;refine⟨_,w,_,cX,bQ.ghost hf (m.blk a.block) (m.sh a.block+a.off+(l1+1)*(sz+1)) (m.cp a.block-bR c-(l1+1)),SY (zN _) fun m' ha=>?_⟩;rw[Hv];have⟨_,_,e3⟩:=D8 m s.nx (m.blk a.block) (m.sh a.block+a.off+(l1+1)*(sz+1)) (m.cp a.block-bR c-(l1+1));exact(ha s.nx (zN _)).2.2.trans e3
    rw[decide_eq_false eQ]at h;simp at h
  |_=>simp[hd]at h
 |_=>simp[hd]at h
end
def vD{v11 β:Type}(f:v11->β)(l:I v11)(i:Nat):(l.eraseIdx i).map f=(l.map f).eraseIdx i:=by induction l generalizing i with|nil=>simp|cons a l ih=>cases i<;>simp[ih]
section
variable{P:Program}{T:Tb}(hT:lP P T){m:Nm}{s:S}{w:World}(hf:iA m s w)
include hT hf
variable{t:X}
variable{mv:M}
variable{k:M}
variable{cm:M}
variable{ck:M}
variable{bJ:S}
def qz8{x cx u:M}(hm:fI m s.nx mv cm)(hk:fI m s.nx k ck)(hx:fI m s.nx x cx)(h:Y8 T s t mv k x=some (u,bJ)):
  R3 P m s w (Instr.mapUpdate t cm ck cx) bJ/\u=undef:=by
 unfold Y8 at h;rcases hd:T.und t with _|dd;simp[hd]at h;cases dd with
 |map kt et=>
  cases mv with
  |map r=>
   rcases r with _|r;simp[hd]at h;simp[hd]at h;rcases rJ:pA T 50 kt k with _|_;simp[rJ]at h;simp[rJ,zC]at h;have⟨ty,pI⟩:=js rJ;rcases nO:plain k with _|_;simp[nO]at h;simp[nO,zC]at h;rcases hr:D6 s r with _|q;simp[hr]at h;have⟨es,cl⟩:=q;simp[hr]at h;have hb:w.heap[m.blk r]? = some (.map (es.map (fF m)).toArray cl):=(hf.fits).ok r _ (Ic hr);have HP:cm=.map (some (m.blk r)):=by rw[<-hm.at];simp[aI]
   have eck:ck=k:=by rw[<-hk.at];exact BT m k nO
   have wW:=Oj hT m false 50 9950 w rJ;rw[BT m k nO]at wW;have bZ:=vh hf hr;rcases hfx:rE T kt k es 0 with _|fr;simp[hfx]at h;have v9:=OQ hT m w pI hfx;rw[BT m k nO]at v9;cases fr with
   |none=>simp[hfx,zA,zB]at h;have⟨rfl,rfl⟩:=h;refine⟨?_,rfl⟩;have⟨w₁,h1,h2⟩:=YH (P:=P) hf hr (es':=es++[{ key:=k,val:=x,born:=cl }]) (cl':=cl+1) (ces:=es.map (fF m)++[{ key:=k,val:=cx,born:=cl }]) (fun m' ha=>by simp[fF,BT m' k nO,hx m' ha];have:=bZ m' ha;simpa[fF]using this);refine⟨m,w₁,?_,h2⟩;rw[HP,eck];simp only[Instr.mapUpdate,zK,iK hT w hd,zJ,MQ hb,wW,v9,Option.map_none];rw[<-h1];simp
   |some p=>
    have⟨i,pv⟩:=p;simp[hfx,jA]at h;rcases hei:es[i]? with _|e;simp[hei]at h;simp[hei]at h;rcases hv:AF 50 e.key k with _|_;simp[hv]at h;simp[hv,zC,zA,zB]at h;have⟨rfl,rfl⟩:=h;refine⟨?_,rfl⟩;have⟨qR,Cl⟩:=qpp (P:=P) hv w;have KF:∀m',aN s.nx m m'->(NQ es i fun e=>{ e with val:=x }).map (fF m')=(es.map (fF m)).modify i fun e=>{ e with key:=k,val:=cx }:=fun m' ha=>by rw[ic,<-bZ m' ha];apply List.ext_getElem?;intro j;simp[List.getElem?_map,List.getElem?_modify];by_cases m7:i=j;subst m7;simp[hei,fF,hx m' ha,Cl,BT m' k nO];cases es[j]? <;> simp[m7]
    have⟨w₁,h1,h2⟩:=YH (P:=P) hf hr (cl':=cl) KF;refine⟨m,w₁,?_,h2⟩;have jE:(es.map (fF m)).toArray[i]? = some (fF m e):=by simp[hei]
    have v8:(fF m e).key=k:=by simp[fF,Cl,BT m k nO]
    rw[Cl]at qR;rw[HP,eck];simp only[Instr.mapUpdate,zK,iK hT w hd,zJ,MQ hb,wW,v9,zM,jE,Option.getD_some,v8,qR];rw[<-h1];simp
  |_=>simp[hd]at h
 |_=>simp[hd]at h
def z4n{v:M}(hm:fI m s.nx mv cm)(hk:fI m s.nx k ck)(h:Gv T s t mv k=some (v,bJ)):Eff P m s w (Instr.mapEntry t cm ck) v bJ:=by
 unfold Gv at h;rcases hd:T.und t with _|dd;simp[hd]at h;cases dd with
 |map kt et=>
  cases mv with
  |map r=>
   rcases r with _|r;simp[hd]at h;simp only[hd]at h;rcases rJ:pA T 50 kt k with _|_;simp[rJ]at h;simp only[rJ,zC]at h;obtain⟨ty,pI⟩:=js rJ;rcases nO:plain k with _|_;simp[nO]at h;simp only[nO,zC]at h;rcases hr:D6 s r with _|q;simp[hr]at h;obtain⟨es,cl⟩:=q;simp only[hr]at h;have hb:w.heap[m.blk r]? = some (.map (es.map (fF m)).toArray cl):=(hf.fits).ok r _ (Ic hr);have HP:cm=.map (some (m.blk r)):=by rw[<-hm.at];simp[aI]
   have eck:ck=k:=by rw[<-hk.at];exact BT m k nO
   have wW:=Oj hT m false 50 9950 w rJ;rw[BT m k nO]at wW;have bZ:=vh hf hr;rcases hfx:rE T kt k es 0 with _|fr;simp[hfx]at h;have v9:=OQ hT m w pI hfx;rw[BT m k nO]at v9;cases fr with
   |none=>
    simp only[hfx]at h;rcases hi:T.inf et with _|y;simp[hi]at h;obtain⟨y1,y2,z⟩:=y;have hz:=fun m'=>J7 hT m' w hi
    simp only at hz;simp only[hi,zA,zB]at h;obtain⟨rfl,rfl⟩:=h;obtain⟨w₁,h1,h2⟩:=YH (P:=P) hf hr (es':=es++[{ key:=k,val:=z,born:=cl }]) (cl':=cl+1) (ces:=es.map (fF m)++[{ key:=k,val:=z,born:=cl }]) (fun m' ha=>by simp[fF,BT m' k nO,(hz m').2];have:=bZ m' ha;simpa[fF]using this);refine⟨m,w₁,.tuple #[z,.int .i64 cl],?_,h2,fun m' _=>by simp[aI,aJ,(hz m').2]⟩;rw[HP,eck];have xU:(setObj (m.blk r) (.map ((es.map (fF m)).toArray.push { key:=k,val:=z,born:=cl }) (cl+1))).run P w=.ok () w₁:=by rw[<-h1];simp
    simp only[Instr.mapEntry,zK,iK hT w hd,zJ,MQ hb,wW,v9,Option.map_none,(hz m).1,xU,zL,goInt]
   |some p=>
    obtain⟨i,pv⟩:=p;obtain⟨_,e0,Xh,hpv⟩:=z7s es 0 hfx;simp only[Nat.sub_zero]at Xh;simp only[hfx,jA,Xh]at h;rcases hv:AF 50 e0.key k with _|_;simp[hv]at h;simp only[hv,zC,zA,zB]at h;obtain⟨rfl,rfl⟩:=h;obtain⟨qR,Cl⟩:=qpp (P:=P) hv w;obtain⟨w₁,h1,h2⟩:=YH (P:=P) hf hr (es':=es) (cl':=cl) bZ;have jE:(es.map (fF m)).toArray[i]? = some (fF m e0):=by simp[Xh]
    have v8:(fF m e0).key=k:=by simp[fF,Cl,BT m k nO]
    have La:(fF m e0).born=e0.born:=rfl;rw[Cl]at qR;have KF:(es.map (fF m)).toArray.modify i (fun e=>{ e with key:=k })=(es.map (fF m)).toArray:=by apply Array.ext';simp only[Array.toList_modify];apply List.ext_getElem?;intro j;simp only[List.getElem?_modify];by_cases m7:i=j;subst m7;simp[Xh,fF,Cl,BT m k nO];cases ((es.map (fF m)).toArray.toList)[j]? <;> simp[m7]
    refine⟨m,w₁,.tuple #[aI m pv,.int .i64 e0.born],?_,h2,fun m' ha=>?_⟩;rw[HP,eck];simp only[Instr.mapEntry,zK,iK hT w hd,zJ,MQ hb,wW,v9,zM,jE,Option.getD_some,v8,qR,KF,h1,zL,goInt,La];have:=bZ m' ha;have h3:(fF m' e0)=fF m e0:=by have:=congrArg (fun l=>l[i]?) this;simpa[Xh]using this
    have h4:aI m' pv=aI m pv:=by have:=congrArg MapEntry.val h3;simpa[fF,hpv]using this
    simp[aI,aJ,h4]
  |_=>simp[hd]at h
 |_=>simp[hd]at h
omit hT in
def z7n{t:X}{mv st x cm cst cx u:M}{bJ:S}(hm:fI m s.nx mv cm)(hs:fI m s.nx st cst)(hx:fI m s.nx x cx)(h:On s mv st x=some (u,bJ)):
  R3 P m s w (Instr.entryStore t cm cst cx) bJ/\u=undef:=by
 unfold On at h;cases mv with
 |map r=>
  rcases r with _|r;simp at h;cases st with
  |int k b=>
   simp only at h;rcases hr:D6 s r with _|q;simp[hr]at h;have⟨es,cl⟩:=q;simp[hr]at h;rcases La:SI b es 0 with _|i;simp[La]at h;simp[La,zA,zB]at h;have⟨rfl,rfl⟩:=h;refine⟨?_,rfl⟩;have hb:w.heap[m.blk r]? = some (.map (es.map (fF m)).toArray cl):=(hf.fits).ok r _ (Ic hr);have HP:cm=.map (some (m.blk r)):=by rw[<-hm.at];simp[aI]
   have ecs:cst=.int k b:=by rw[<-hs.at];simp[aI]
   have bZ:=vh hf hr;have Xd:∀(l:I MapEntry)(n i:Nat),SI b l n=some i->n<=i/\(l.map (fF m)).findIdx? (fun e=>(e.born:Int)==b)=some (i-n):=by
    intro l;induction l with
    |nil=>intro n i hh;simp[SI]at hh|cons e l ih=>
     intro n i hh;simp[SI]at hh;by_cases he:(e.born:Int)=b;simp[he]at hh;subst hh;have cV:(((fF m e).born:Int)==b)=true:=by simpa[fF]using he
     refine⟨zF _,?_⟩;rw[zQ,List.findIdx?_cons,cV];simp;simp[he,yB,zD]at hh;have⟨h1,h2⟩:=ih (n+1) i hh;have cV:(((fF m e).born:Int)==b)=false:=by simpa[fF]using he
     refine⟨by omega,?_⟩;rw[zQ,List.findIdx?_cons,cV,h2];simp;omega
   have⟨_,v9⟩:=Xd es 0 i La;have KF:∀m',aN s.nx m m'->(NQ es i fun e=>{ e with val:=x }).map (fF m')=(es.map (fF m)).modify i fun e=>{ e with val:=cx }:=fun m' ha=>by rw[ic,<-bZ m' ha];apply List.ext_getElem?;intro j;simp[List.getElem?_map,List.getElem?_modify];by_cases m7:i=j;subst m7;cases es[i]? <;> simp[fF,hx m' ha];cases es[j]? <;> simp[m7]
   have⟨w₁,h1,h2⟩:=YH (P:=P) hf hr (cl':=cl) KF;refine⟨m,w₁,?_,h2⟩;rw[HP,ecs];have Xe:(es.map (fF m)).toArray.findIdx? (fun e=>(e.born:Int)==b)=some i:=by rw[List.findIdx?_toArray,v9];simp
   simp only[Instr.entryStore,zK,MQ hb,zJ,asInt,asIntOf,zL,Xe];rw[<-h1];simp
  |_=>simp at h
 |_=>simp at h
def Ec{ty:X}{ts:I X}{v:M}(hm:fI m s.nx mv cm)(hk:fI m s.nx k ck)(h:G2 T s t mv k=some (v,bJ)):Eff P m s w (Builtin.delete_ (t::ts).toArray ty #[cm,ck]) v bJ:=by
 unfold G2 at h;rcases hd:T.und t with _|dd;simp[hd]at h;cases dd with
 |map kt et=>
  cases mv with
  |map r=>
   cases r with
   |none=>
    simp only[hd]at h;rcases rJ:pA T 50 kt k with _|_;simp[rJ]at h;simp only[rJ,zC,zA,zB]at h;obtain⟨rfl,rfl⟩:=h;have HP:cm=.map none:=by rw[<-hm.at];simp[aI]
    have wW:=Oj hT m true 50 9950 w rJ;rw[hk.at]at wW;refine⟨m,w,undef,?_,bQ.refl hf,BV fun _=>by simp[undef,aI,aJ]⟩;rw[HP];have QA:(Instr.checkKey true 10000 kt ck).run P w=.ok () w:=wW;simp[Builtin.delete_,iK hT w hd,QA,undef]
   |some r=>
    simp only[hd]at h;rcases rJ:pA T 50 kt k with _|_;simp[rJ]at h;simp only[rJ,zC]at h;obtain⟨ty,pI⟩:=js rJ;rcases hr:D6 s r with _|q;simp[hr]at h;obtain⟨es,cl⟩:=q;simp only[hr]at h;have hb:w.heap[m.blk r]? = some (.map (es.map (fF m)).toArray cl):=(hf.fits).ok r _ (Ic hr);have HP:cm=.map (some (m.blk r)):=by rw[<-hm.at];simp[aI]
    have wW:=Oj hT m (es.map (fF m)).toArray.isEmpty 50 9950 w rJ;rw[hk.at]at wW;have QA:(Instr.checkKey (es.map (fF m)).toArray.isEmpty 10000 kt ck).run P w=.ok () w:=wW;have bZ:=vh hf hr;rcases hfx:rE T kt k es 0 with _|fr;simp[hfx]at h;have v9:=OQ hT m w pI hfx;rw[hk.at]at v9;cases fr with
    |none=>simp only[hfx,zA,zB]at h;obtain⟨rfl,rfl⟩:=h;obtain⟨w₁,h1,h2⟩:=YH (P:=P) hf hr (es':=es) (cl':=cl) bZ;refine⟨m,w₁,undef,?_,h2,BV fun _=>by simp[undef,aI,aJ]⟩;rw[HP];simp only[Builtin.delete_,List.getElem?_toArray,List.getElem?_cons_zero,zH,zK,iK hT w hd,zJ,MQ hb,QA,v9,Option.map_none,h1,zL,undef]
    |some p=>
     obtain⟨i,pv⟩:=p;simp only[hfx,zA,zB]at h;obtain⟨rfl,rfl⟩:=h;obtain⟨w₁,h1,h2⟩:=YH (P:=P) hf hr (es':=YC es i) (cl':=cl) (ces:=(es.map (fF m)).eraseIdx i) (fun m' ha=>by rw[qv4,<-bZ m' ha,vD]);refine⟨m,w₁,undef,?_,h2,BV fun _=>by simp[undef,aI,aJ]⟩;have xU:(setObj (m.blk r) (.map ((es.map (fF m)).toArray.eraseIdxIfInBounds i) cl)).run P w=.ok () w₁:=by rw[<-h1];simp
     rw[HP];simp only[Builtin.delete_,List.getElem?_toArray,List.getElem?_cons_zero,zH,zK,iK hT w hd,zJ,MQ hb,QA,v9,zM,xU,zL,undef]
  |_=>simp[hd]at h
 |_=>simp[hd]at h
end
def xJ(m:Nm)(n:Nat)(tm:I M)(a:Act):Prop:=∀m',aN n m m'->a.tmps=⟨aJ m' tm⟩
variable{m:Nm}
variable{n:Nat}
variable{tm:I M}
variable{a:Act}
def xJ.ext{m':Nm}{n':Nat}(h:xJ m n tm a)(ha:aN n m m')(hn:n<=n'):xJ m' n' tm a:=fun k hk=>h k (ha.trans hk hn)
variable{v:M}
def xJ.evalO(h:xJ m n tm a){x:Operand}(hx:evalO tm x=some v):fI m n v (a.eval x):=fun m' ha=>(lF (h m' ha) hx).symm
def z8u(m:Nm)(tm:I M)(d:Nat)(v:M):aJ m (tm.set d v)=(aJ m tm).set d (aI m v):=by simp[mY,List.map_set]
def xJ.put{m:Nm}{n:Nat}{tm:I M}{a:Act}(h:xJ m n tm a){v cv:M}(hv:fI m n v cv)(d:V Tmp):xJ m n (NO tm d v) (a.put d cv):=fun m' ha=>by
 rcases d with _|d;exact h m' ha;simp[Act.put,NO,h m' ha,z8u,hv m' ha,List.setIfInBounds_toArray]
section
variable{P:Program}{T:Tb}(hT:lP P T){m:Nm}{s:S}{w:World}(hf:iA m s w)
include hT hf
def Ea(ha:xJ m s.nx tm a)(o:Oper){bJ:S}(h:uD T tm s o.op=some (v,bJ)):
  ∃aH w₁ cv nxt,(execOp a.eval o).run P w=.ok nxt w₁/\(nxt=.value cv\/(nxt=.skip/\cv=undef))/\bQ m s w aH bJ w₁/\fI aH bJ.nx v cv:=by
 obtain⟨dst,op,type,pos,after,guard⟩:=o;simp only at h;have eZ:∀{x:Sem M},Eff P m s w x v bJ->∃aH w₁ cv nxt,(do let y <-x;pure (Next.value y):Sem Next).run P w=.ok nxt w₁/\(nxt=.value cv\/(nxt=.skip/\cv=undef))/\bQ m s w aH bJ w₁/\fI aH bJ.nx v cv:=by rintro x ⟨aH,w₁,cv,h1,h2,h3⟩;exact⟨aH,w₁,cv,_,by simp only[zK,h1,zJ,zL],.inl rfl,h2,h3⟩
 have DD:∀{x:Sem Unit},R3 P m s w x bJ/\v=undef->∃aH w₁ cv nxt,(do x;pure Next.skip:Sem Next).run P w=.ok nxt w₁/\(nxt=.value cv\/(nxt=.skip/\cv=undef))/\bQ m s w aH bJ w₁/\fI aH bJ.nx v cv:=by rintro x ⟨⟨aH,w₁,h1,h2⟩,rfl⟩;exact⟨aH,w₁,undef,_,by simp only[zK,h1,zJ,zL],.inr ⟨rfl,rfl⟩,h2,BV fun _=>by simp[undef,aI,aJ]⟩
 unfold uD at h;cases op with
 |alloc e=>simp only at h;rcases hi:T.inf e with _|x;simp[hi]at h;obtain⟨x1,x2,z⟩:=x;simp only[hi,zA,zB]at h;obtain⟨rfl,rfl⟩:=h;have hz:=(J7 hT m w hi).1;have vS:=Hs hT hi;simp only at hz vS;refine eZ ⟨_,_,.pointer (some ⟨w.heap.size,0,none⟩),?_,xx hf (ky vS) e 0,qzv _ _ _ _ (zN _)⟩;simp[Instr.alloc,hz,newVar,Go.newRow]
 |box e x=>simp only at h;rcases hx:evalO tm x with _|u;simp[hx]at h;simp only[hx,zA,zB]at h;obtain⟨rfl,rfl⟩:=h;refine eZ ⟨_,_,.pointer (some ⟨w.heap.size,0,none⟩),?_,xx hf (ha.evalO hx).cells e 0,qzv _ _ _ _ (zN _)⟩;simp[Instr.box,newVar,Go.newRow]
 |store t p x=>simp only at h;rcases hp:evalO tm p with _|u;simp[hp]at h;rcases hx:evalO tm x with _|u';simp[hp,hx]at h;simp only[hp,hx]at h;exact DD (z94 hT hf (ha.evalO hp) (ha.evalO hx) h)
 |buildSlice t n ps=>
  simp only at h;rcases hp:IU tm ps.toList with _|qs;simp[hp]at h;simp only[hp]at h;have e1:(ps.map fun(i,x)=>(i,a.eval x))=(ps.toList.map fun p=>(p.1,a.eval p.2)).toArray:=by cases ps;simp
  have:=qxl hT hf (cps:=ps.toList.map fun p=>(p.1,a.eval p.2)) (fun m' dK=>(oc (ha m' dK) hp).symm) h;simp only[execOp];rw[e1];exact eZ this
 |makeSlice t l c=>simp only at h;rcases hp:evalO tm l with _|u;simp[hp]at h;rcases hx:evalO tm c with _|u';simp[hp,hx]at h;simp only[hp,hx]at h;exact eZ (zbx hT hf (ha.evalO hp) (ha.evalO hx) h)
 |makeMap t r=>cases r with|some r=>simp at h|none=>simp only[zA,zB]at h;obtain⟨rfl,rfl⟩:=h;refine eZ ⟨_,_,.map (some w.heap.size),?_,bQ.alloc hf (.map #[] 0) (.inr ([],0)) 0 ?_,fun m' dK=>?_⟩;simp[Instr.makeMap];intro m' dK;have e1:=(dK s.nx (zN _)).1;simp only[yG,e1,(D8 m s.nx w.heap.size 0 0).1];show(w.heap.push _)[w.heap.size]? = _;simp;have e1:=(dK s.nx (zN _)).1;simp only[aI,e1,(D8 m s.nx w.heap.size 0 0).1]
 |slice t x lo hi mx=>simp only at h;rcases hx:evalO tm x with _|u;simp[hx]at h;rcases h1:sD tm lo with _|l;simp[hx,h1]at h;rcases h2:sD tm hi with _|hh;simp[hx,h1,h2]at h;rcases h3:sD tm mx with _|mm;simp[hx,h1,h2,h3]at h;simp only[hx,h1,h2,h3]at h;exact eZ (z61 hT hf (ha.evalO hx) (fun m' dK=>(OU (ha m' dK) h1).symm) (fun m' dK=>(OU (ha m' dK) h2).symm) (fun m' dK=>(OU (ha m' dK) h3).symm) h)
 |mapUpdate t q k x=>simp only at h;rcases h1:evalO tm q with _|u1;simp[h1]at h;rcases h2:evalO tm k with _|u2;simp[h1,h2]at h;rcases h3:evalO tm x with _|u3;simp[h1,h2,h3]at h;simp only[h1,h2,h3]at h;exact DD (qz8 hT hf (ha.evalO h1) (ha.evalO h2) (ha.evalO h3) h)
 |insert t q k x=>simp only at h;rcases h1:evalO tm q with _|u1;simp[h1]at h;rcases h2:evalO tm k with _|u2;simp[h1,h2]at h;rcases h3:evalO tm x with _|u3;simp[h1,h2,h3]at h;simp only[h1,h2,h3]at h;exact DD (qz8 hT hf (ha.evalO h1) (ha.evalO h2) (ha.evalO h3) h)
 |mapEntry t q k=>simp only at h;rcases h1:evalO tm q with _|u1;simp[h1]at h;rcases h2:evalO tm k with _|u2;simp[h1,h2]at h;simp only[h1,h2]at h;exact eZ (z4n hT hf (ha.evalO h1) (ha.evalO h2) h)
 |entryStore t q k x=>simp only at h;rcases h1:evalO tm q with _|u1;simp[h1]at h;rcases h2:evalO tm k with _|u2;simp[h1,h2]at h;rcases h3:evalO tm x with _|u3;simp[h1,h2,h3]at h;simp only[h1,h2,h3]at h;exact DD (z7n hf (ha.evalO h1) (ha.evalO h2) (ha.evalO h3) h)
 |call c=>
  obtain⟨callee,args,ats⟩:=c;simp only at h;cases callee with
  |builtin b=>
   cases b with
   |append=>
    simp only at h;rcases hx:kS tm args.toList with _|vs;simp[hx]at h;rcases vs with _ |⟨x,_ |⟨y,_ |⟨z,l⟩⟩⟩;simp[hx]at h;simp[hx]at h;obtain⟨ats⟩:=ats;rcases ats with _ |⟨t,_ |⟨xt,_ |⟨q,r⟩⟩⟩;simp[hx]at h;simp[hx]at h;simp only[hx]at h;have e0:=uJ (ha m (aN.refl _ _)) hx;simp only[aJ]at e0;have r1:fI m s.nx x (aI m x):=fun m' dK=>by have e1:=uJ (ha m' dK) hx;rw[e0]at e1;simp only[aJ]at e1;simp at e1;exact e1.1.symm
    have r2:fI m s.nx y (aI m y):=fun m' dK=>by have e1:=uJ (ha m' dK) hx;rw[e0]at e1;simp only[aJ]at e1;simp at e1;exact e1.2.symm
    obtain⟨aH,w₁,cv,g1,g2,g3⟩:=z0h hT hf (ty:=type) r1 r2 h;refine⟨aH,w₁,cv,.value cv,?_,.inl rfl,g2,g3⟩;simp only[execOp,zK,resolve,zL,zJ,invoke,builtin,e0];rw[g1];rfl;simp[hx]at h;simp[hx]at h
   |copy=>
    simp only at h;rcases hx:kS tm args.toList with _|vs;simp[hx]at h;rcases vs with _ |⟨x,_ |⟨y,_ |⟨z,l⟩⟩⟩;simp[hx]at h;simp[hx]at h;obtain⟨ats⟩:=ats;rcases ats with _ |⟨t,ts⟩;simp[hx]at h;simp only[hx]at h;have e0:=uJ (ha m (aN.refl _ _)) hx;simp only[aJ]at e0;have r1:fI m s.nx x (aI m x):=fun m' dK=>by have e1:=uJ (ha m' dK) hx;rw[e0]at e1;simp only[aJ]at e1;simp at e1;exact e1.1.symm
    have r2:fI m s.nx y (aI m y):=fun m' dK=>by have e1:=uJ (ha m' dK) hx;rw[e0]at e1;simp only[aJ]at e1;simp at e1;exact e1.2.symm
    obtain⟨aH,w₁,cv,g1,g2,g3⟩:=zbg hT hf (ty:=type) (ts:=ts) r1 r2 h;refine⟨aH,w₁,cv,.value cv,?_,.inl rfl,g2,g3⟩;simp only[execOp,zK,resolve,zL,zJ,invoke,builtin,e0];rw[g1];rfl;simp[hx]at h
   |delete=>
    simp only at h;rcases hx:kS tm args.toList with _|vs;simp[hx]at h;rcases vs with _ |⟨x,_ |⟨y,_ |⟨z,l⟩⟩⟩;simp[hx]at h;simp[hx]at h;obtain⟨ats⟩:=ats;rcases ats with _ |⟨t,ts⟩;simp[hx]at h;simp only[hx]at h;have e0:=uJ (ha m (aN.refl _ _)) hx;simp only[aJ]at e0;have r1:fI m s.nx x (aI m x):=fun m' dK=>by have e1:=uJ (ha m' dK) hx;rw[e0]at e1;simp only[aJ]at e1;simp at e1;exact e1.1.symm
    have r2:fI m s.nx y (aI m y):=fun m' dK=>by have e1:=uJ (ha m' dK) hx;rw[e0]at e1;simp only[aJ]at e1;simp at e1;exact e1.2.symm
    obtain⟨aH,w₁,cv,g1,g2,g3⟩:=Ec hT hf (ty:=type) (ts:=ts) r1 r2 h;refine⟨aH,w₁,cv,.value cv,?_,.inl rfl,g2,g3⟩;simp only[execOp,zK,resolve,zL,zJ,invoke,builtin,e0];rw[g1];rfl;simp[hx]at h
   |clear=>
    simp only at h;rcases hx:kS tm args.toList with _|vs;simp[hx]at h;rcases vs with _ |⟨x,_ |⟨y,l⟩⟩;simp[hx]at h;obtain⟨ats⟩:=ats;rcases ats with _ |⟨t,ts⟩;simp[hx]at h;simp only[hx]at h;have e0:=uJ (ha m (aN.refl _ _)) hx;simp only[aJ]at e0;have r1:fI m s.nx x (aI m x):=fun m' dK=>by have e1:=uJ (ha m' dK) hx;rw[e0]at e1;simp only[aJ]at e1;simp at e1;exact e1.symm
    obtain⟨aH,w₁,cv,g1,g2,g3⟩:=z7f hT hf (ty:=type) (ts:=ts) r1 h;refine⟨aH,w₁,cv,.value cv,?_,.inl rfl,g2,g3⟩;simp only[execOp,zK,resolve,zL,zJ,invoke,builtin,e0];rw[g1];rfl;simp[hx]at h
   |_=>simp at h
  |_=>simp at h
 |_=>simp at h
end
def Gp(P:Program)(call:GS):Prop :=
 ∀f args s v bJ,call f args s=some (v,bJ)->∀m w bI,iA m s w->nZ m s.nx args bI->
  Calls P f bI.toArray w fun e w₁=>∃aH cv,e=.returned cv/\bQ m s w aH bJ w₁/\fI aH bJ.nx v cv
section
variable{P:Program}{T:Tb}(hT:lP P T){call:GS}(hC:Gp P call)
include hT
def qut(ha:xJ m n tm a)(o:Oper)(w:World){f:FuncId}{args:I M}(h:callOf T tm o.op=some (f,args)):
  ∃bI,(execOp a.eval o).run P w=.ok (.enter f bI.toArray) w/\nZ m n args bI:=by
 obtain⟨dst,op,type,pos,after,guard⟩:=o;simp only at h;unfold callOf at h;cases op with
 |call c=>
  obtain⟨callee,a7,ats⟩:=c;simp only at h;cases callee with
  |value g=>
   simp only at h;rcases hg:evalO tm g with _|u;simp[hg]at h;cases u with
   |func fn first cap=>
    cases fn with
    |func k=>
     simp only[hg]at h;rcases hk:T.fn k with _|fn;simp[hk]at h;simp only[hk]at h;rcases hb:fn.body.isSome with _|_;simp[hb]at h;simp only[hb,zC]at h;rcases hl:kS tm a7.toList with _|vs;simp[hl]at h;simp only[hl,zA,zB]at h;obtain⟨rfl,rfl⟩:=h;obtain⟨hfn,KD⟩:=hT.fn k fn hk;obtain⟨first⟩:=first
     obtain⟨cap⟩:=cap;have e0:=lF (ha m (aN.refl _ _)) hg;have e1:=uJ (ha m (aN.refl _ _)) hl;refine⟨aJ m first++aJ m vs++aJ m cap,?_,fun m' dK=>?_⟩;have hnb:fn.body.isNone=false:=by cases hbb:fn.body<;>simp_all
     simp only[aI,iJ]at e0;simp only[execOp,zK,resolve,e0,e1,Deferred.ofValue,zL,zJ,invoke,callFunc,run_program,hfn,KD hb,hnb,Bool.false_eq_true,if_false];simp;have QY:=lF (ha m' dK) hg;have QX:=uJ (ha m' dK) hl;rw[e0]at QY;rw[e1]at QX;simp only[aI,iJ]at QY;simp at QY QX;rw[yJ,yJ,QY.1,QY.2,QX]
    |_=>simp[hg]at h
   |_=>simp[hg]at h
  |_=>simp at h
 |_=>simp at h
include hC
def TV{s:S}{w:World}(hf:iA m s w)(ha:xJ m s.nx tm a)(o:Oper){bJ:S}(h:AU T call tm s o.op=some (v,bJ))
  {next:Act->World->Prop} {Q:Exit->Act->World->Prop} (hn:∀aH w₁ cv,bQ m s w aH bJ w₁->fI aH bJ.nx v cv->next (a.put o.dst cv) w₁):o.wp P a w next Q:=by
 unfold AU at h;unfold Oper.wp;cases h1:iZ T tm o.op with
 |some u=>simp[h1,zA,zB]at h;obtain⟨rfl,rfl⟩:=h;have cX:=fun m' dK=>zca hT m' w (ha m' dK) o h1;rw[cX m (aN.refl _ _)];refine hn m w _ (bQ.refl hf) fun m' dK=>?_;have e1:=cX m' dK;rw[cX m (aN.refl _ _)]at e1;simp at e1;exact e1.symm
 |none=>
  simp only[h1]at h;cases h2:o3 T tm s o.op with
  |some u=>simp only[h2,zA,zB]at h;obtain⟨rfl,rfl⟩:=h;have cX:=fun m' dK=>xv hT m' w (hf m' dK) (ha m' dK) o h2;rw[cX m (aN.refl _ _)];refine hn m w _ (bQ.refl hf) fun m' dK=>?_;have e1:=cX m' dK;rw[cX m (aN.refl _ _)]at e1;simp at e1;exact e1.symm
  |none=>
   simp only[h2]at h;cases h3:uD T tm s o.op with
   |some r=>simp only[h3,zA]at h;subst h;obtain⟨aH,w₁,cv,nxt,g1,g2,g3,g4⟩:=Ea hT hf ha o h3;rw[g1];rcases g2 with rfl |⟨rfl,rfl⟩;exact hn aH w₁ cv g3 g4;exact hn aH w₁ undef g3 g4
   |none=>simp only[h3]at h;rcases h4:callOf T tm o.op with _|q;simp[h4]at h;obtain⟨f,args⟩:=q;simp only[h4]at h;obtain⟨bI,g1,g2⟩:=qut hT ha o w h4;rw[g1];show Calls P f _ w _;refine(hC f args s v bJ h m w bI hf g2).mono ?_;rintro e w₁ ⟨aH,cv,rfl,g3,g4⟩;exact hn aH w₁ cv g3 g4
omit hC hT in
def Qb{m:Nm}{tm:I M}{a:Act}(ha:a.tmps=⟨aJ m tm⟩)(a9:Array Oper)(o:Oper):Region.wanted o (yielded a9 a.tmps)=Oy a9.toList tm o:=by
 unfold Region.wanted Oy;rcases o.guard with _|g;rfl;have⟨j,want⟩:=g;simp only[yielded,BP,jA,ha];have hj:a9.toList[j]? = a9[j]?:=by simp
 rw[hj];rcases a9[j]? with _|q;simp;simp[Option.bind_some];rcases hd:q.dst with _|d;simp;simp[Option.bind_some,List.getElem?_toArray,mY,List.getElem?_map];rcases tm[d]? with _|v;simp;simp[zM];cases v with
 |pointer p=>cases p<;>simp[aI]|slice p n c=>cases p<;>simp[aI]
 |map r=>cases r<;>simp[aI]|chan r=>cases r<;>simp[aI]
 |bool b=>simp[aI]|_=>simp[aI]
end
def MN{b c:Bool}(h:cond b c false=true):b=true/\c=true:=by cases b<;>simp_all
def z1b{l:I Operand}{t:Tmp}(h : .tmp t∈l):t∈tmpsOf l:=by induction l with|nil=>simp at h|cons x l ih=>rcases zI.1 h with rfl |h2;simp[tmpsOf];cases x<;>simp[tmpsOf,ih h2]
section
variable{T:Tb}{tm tm':I M}{op:Op}
end
variable{k:Nat}
def z4o{b7:I Nat}{es:I Edge}(h:(OC b7 es).testBit k=true):∃e∈es,Region.binds .any e=true/\(k=e.on\/∃x,b7[e.on]? = some x/\x.testBit k=true):=by
 induction es with
 |nil=>simp[OC]at h|cons e es ih=>
  simp[OC,jA]at h;cases hb:Region.binds .any e with
  |false=>simp[hb,zD]at h;have⟨e',h1,h2⟩:=ih h;exact⟨e',by simp[h1],h2⟩
  |true=>simp[hb,zC,Nat.testBit_or,Bool.or_eq_true]at h;rcases h with(h |h)|h;refine⟨e,by simp,hb,.inl ?_⟩;rw[Nat.testBit_two_pow]at h;simpa using(of_decide_eq_true h).symm;refine⟨e,by simp,hb,.inr ?_⟩;rcases hx:b7[e.on]? with _|x;simp[hx]at h;simp[hx]at h;exact⟨x,rfl,h⟩;have⟨e',h1,h2⟩:=ih h;exact⟨e',by simp[h1],h2⟩
def kj:∀(l:I Oper)(b7:I Nat),(cP l b7).length=b7.length+l.length/\(cP l b7).take b7.length=b7/\
  ∀i o,l[i]? = some o->(cP l b7)[b7.length+i]? = some (OC ((cP l b7).take (b7.length+i)) o.after.toList)
 |[],b7=>by simp[cP]
 |o::l,b7=>by
  have⟨h1,h2,h3⟩:=kj l (b7++[OC b7 o.after.toList]);simp[cP];refine⟨by rw[h1];simp;omega,?_,fun i q hq=>?_⟩;have:=congrArg (List.take b7.length) h2;rw[List.take_take]at this;simpa using this;cases i with
  |zero=>
   simp[List.getElem?_cons_zero,zA]at hq;subst hq;have e1:(cP l (b7++[OC b7 o.after.toList])).take b7.length=b7:=by have:=congrArg (List.take b7.length) h2;rw[List.take_take]at this;simpa using this
   rw[Nat.add_zero,e1];have:=congrArg (fun z=>z[b7.length]?) h2;simp[List.getElem?_take]at this;simpa using this
  |succ i=>simp[zH]at hq;have:=h3 i q hq;simp[zU,zO,zS]at this;rw[show b7.length+(i+1)=b7.length+(0+1)+i by omega];exact this
section
variable(a9:I Oper)
def Pre(i k:Nat):Prop:=∃x,(cP a9 [])[i]? = some x/\x.testBit k=true
variable{i:Nat}
def fx(h:Pre a9 i k):∃o e,a9[i]? = some o/\e∈o.after.toList/\Region.binds .any e=true/\(k=e.on\/Pre a9 e.on k):=by
 have⟨x,h1,h2⟩:=h;have⟨g1,_,g3⟩:=kj a9 [];have hi:i<a9.length:=by have:=(zG.1 h1).1;simp at g1;omega
 have ho:a9[i]? = some a9[i]:=by simp[hi]
 have:=g3 i _ ho;simp[zS,Nat.zero_add]at this;rw[h1]at this;simp[zA]at this;rw[this]at h2;have⟨e,he,hb,hk⟩:=z4o h2;refine⟨_,e,ho,he,hb,?_⟩;rcases hk with hk |⟨y,hy,hyk⟩;exact .inl hk;refine .inr ⟨y,?_,hyk⟩;rw[List.getElem?_take]at hy;split at hy;exact hy;cases hy
def z8g{es:I Edge}(h:F9 i es=true):∀e∈es,Region.binds .any e=true->e.on<i:=by
 induction es with
 |nil=>simp|cons e es ih=>
  simp only[F9]at h;intro e' NI cV;cases hb:Region.binds .any e with
  |false=>simp only[hb,zD]at h;rcases zI.1 NI with rfl |NI;rw[hb]at cV;cases cV;exact ih h e' NI cV
  |true=>simp only[hb,zC]at h;obtain⟨h1,h2⟩:=MN h;rcases zI.1 NI with rfl |NI;exact JA h1;exact ih h2 e' NI cV
def qwo{lk:I Tmp}{di:V Tmp}{i mi:Nat}:∀(l:I Oper)(ms:I Nat)(b:Nat),rowOk lk di i mi l ms b=true->∀j o,l[j]? = some o->∃mk,ms[j]? = some mk/\S' lk di i mi (b+j) mk o.dst=true
 |[],_,_,_=>fun j o h=>by simp at h
 |o::l,[],b,h=>by simp[rowOk]at h
 |o::l,mk::ms,b,h=>fun j q hq=>by
  simp only[rowOk]at h;obtain⟨h1,h2⟩:=MN h;cases j with
  |zero=>simp at hq;subst hq;exact⟨mk,rfl,h1⟩|succ j=>simp[zH]at hq;have⟨mk',g1,g2⟩:=qwo l ms (b+1) h2 j q hq;exact⟨mk',by simpa using g1,by rw[show b+(j+1)=b+1+j by omega];exact g2⟩
def j_{ms:I Nat}:∀(l:I Oper)(mr:I Nat)(b:Nat),Lx a9 ms l mr b=true->∀j o,l[j]? = some o->∃mi,mr[j]? = some mi/\F9 (b+j) o.after.toList=true/\rowOk (OI a9 o) o.dst (b+j) mi a9 ms 0=true
 |[],_,_,_=>fun j o h=>by simp at h
 |o::l,[],b,h=>by simp[Lx]at h
 |o::l,mi::mr,b,h=>fun j q hq=>by
  simp only[Lx]at h;obtain⟨h1,h2⟩:=MN h;have⟨h2,h3⟩:=MN h2;cases j with
  |zero=>simp at hq;subst hq;exact⟨mi,rfl,h1,h2⟩|succ j=>simp[zH]at hq;have⟨mi',g1,g2,g3⟩:=j_ l mr (b+1) h3 j q hq;refine⟨mi',by simpa using g1,?_,?_⟩;rw[show b+(j+1)=b+1+j by omega];exact g2;rw[show b+(j+1)=b+1+j by omega];exact g3
variable{a9}(bZ:ML a9=true)
include bZ
def zq{o:Oper}(ho:a9[i]? = some o):∀e∈o.after.toList,Region.binds .any e=true->e.on<i:=by have⟨_,_,h2,_⟩:=j_ a9 a9 _ 0 bZ i o ho;rw[Nat.zero_add]at h2;exact z8g h2
def z6b{o q:Oper}(ho:a9[i]? = some o)(hq:a9[k]? = some q)(FU:i≠k){d:Tmp}(hd:q.dst=some d):o.dst≠some d/\(d∈OI a9 o->Pre a9 i k\/Pre a9 k i):=by
 obtain⟨mi,h1,_,h3⟩:=j_ a9 a9 _ 0 bZ i o ho;obtain⟨mk,h4,h5⟩:=qwo a9 _ 0 h3 k q hq;simp only[Nat.zero_add,S',hd,beq_eq,FU,yB,zD]at h5;have tail:(cond ((OI a9 o).any (Nat.beq d)) (cond (mi.testBit k) true (mk.testBit i)) true=true)->d∈OI a9 o->Pre a9 i k\/Pre a9 k i:=fun h6 hl=>by have hany:(OI a9 o).any (Nat.beq d)=true:=List.any_eq_true.2 ⟨d,hl,by simp⟩;rw[hany]at h6;simp only[zC]at h6;rcases hb:mi.testBit k with _|_;simp only[hb,zD]at h6;exact .inr ⟨mk,h4,h6⟩;exact .inl ⟨mi,h1,hb⟩
 cases hod:o.dst with|none=>simp only[hod,zD]at h5;exact⟨by simp,tail h5⟩|some d'=>simp only[hod]at h5;by_cases e:d=d';simp[e]at h5;simp only[e,yB,zD]at h5;exact⟨by simpa using fun x=>e x.symm,tail h5⟩
def zaj:∀(i k:Nat),Pre a9 i k->k<i:=by
 intro i;induction i using Nat.strongRecOn with
 |_ i ih=>intro k h;have⟨o,e,h1,h2,h3,h4⟩:=fx a9 h;have aE:=zq bZ h1 e h2 h3;rcases h4 with rfl |h4;exact aE;exact Nat.lt_trans (ih e.on aE k h4) aE
def Closed(a9:I Oper)(L:Nat->Prop):Prop:=∀i o,L i->a9[i]? = some o->∀e∈o.after.toList,Region.binds .any e=true->L e.on
def Hu{L:Nat->Prop}(hL:Closed a9 L):∀(i k:Nat),L i->Pre a9 i k->L k:=by
 intro i;induction i using Nat.strongRecOn with
 |_ i ih=>intro k hi h;have⟨o,e,h1,h2,h3,h4⟩:=fx a9 h;have aE:=zq bZ h1 e h2 h3;have he:=hL i o hi h1 e h2 h3;rcases h4 with rfl |h4;exact he;exact ih e.on aE k he h4
def SU{L:Nat->Prop}(hL:Closed a9 L)(hi:∀o,a9[i]? = some o->∀e∈o.after.toList,Region.binds .any e=true->L e.on)(h:Pre a9 i k):L k:=by have⟨o,e,h1,h2,h3,h4⟩:=fx a9 h;have he:=hi o h1 e h2 h3;rcases h4 with rfl |h4;exact he;exact Hu bZ hL e.on k he h4
end
section
variable{P:Program}{T:Tb}(hT:lP P T){call:GS}(hC:Gp P call)(a9:Array Oper){tm₀:I M}{du:S}{rs:I Rec}{tm':I M}{s':S}
 (gC:zax T call a9.toList a9.toList tm₀ du=some (rs,tm',s')) (bZ:ML a9.toList=true) (hrs:zan T rs (cP a9.toList []) rs (cP a9.toList []) 0=true)
include gC bZ
include hT hC hrs
end
section
variable{P:Program}{T:Tb}(hT:lP P T){call:GS}(hC:Gp P call)
include hT hC
end
def T'(n:Nat)(l:I M):pad n l=l++List.replicate (n-l.length) undef:=by induction n generalizing l with|zero=>simp[pad]|succ n ih=>rcases l with _|⟨v,l⟩;simp[pad,ih,List.replicate_succ];simp[pad,ih]
section
variable{P:Program}{T:Tb}(hT:lP P T)
include hT
def v00{m:Nm}{s:S}{w:World}(hf:Fits m s w){tm:I M}(F:ResultVar->Sem M)(Xx:∀t,F (.tmp t)=pure ((⟨aJ m tm⟩:Array M).getD t undef))
  (Xw:∀a t,F (.cell a t)=(do loadVar t (<-asAddr ((⟨aJ m tm⟩:Array M).getD a undef)))):∀(rs:I ResultVar)(vs:I M),GA T tm s rs=some vs->(rs.mapM F).run P w=.ok (aJ m vs) w
 |[],vs,h=>by simp[GA]at h;subst h;simp[aJ]
 |.tmp t::rs,vs,h=>by
  simp[GA,jA]at h;rcases ht:tm[t]? with _|v;simp[ht]at h;simp[ht]at h;rcases hr:GA T tm s rs with _|l;simp[hr]at h;simp[hr,zA]at h;subst h;have ih:=v00 hf F Xx Xw rs l hr;have e1:(⟨aJ m tm⟩:Array M).getD t undef=aI m v:=by simp[mY,ht]
  simp[List.mapM_cons,zK,Xx,zL,zJ,ih,e1,aJ]
 |.cell a t::rs,vs,h=>by
  simp[GA]at h;rcases ht:o3 T tm s (.load t (.tmp a))with _|v;simp[ht]at h;simp[ht]at h;rcases hr:GA T tm s rs with _|l;simp[hr]at h;simp[hr,zA]at h;subst h;have ih:=v00 hf F Xx Xw rs l hr;simp[o3,evalO]at ht;rcases Bn:nth tm a with _|u;simp[Bn]at ht;cases u with
  |pointer p=>
   rcases p with _|q;simp[Bn]at ht;simp[Bn]at ht;rcases hl:lk s.h q.block with _|blk;simp[hl]at ht;rcases blk with⟨l',e,md⟩|x;simp[hl]at ht;have Wq:=xy hT m w hf hl ht;rw[jA]at Bn;have e1:(⟨aJ m tm⟩:Array M).getD a undef=.pointer (some ⟨m.blk q.block,m.sh q.block+q.off,none⟩):=by simp[mY,Bn,aI]
   simp[List.mapM_cons,zK,Xw,e1,asAddr,zL,zJ,Wq,ih,aJ];simp[hl]at ht
  |_=>simp[Bn]at ht
def n_{m:Nm}{s:S}{w:World}(hf:Fits m s w){tm:I M}{fn:Func}{vs:I M}(h:GA T tm s fn.results.toList=some vs):
  (results fn ⟨aJ m tm⟩).run P w=.ok (aI m (xF vs)) w:=by unfold results;rw[zK,Array.mapM_eq_mapM_toList,Sem.run_map,v00 hT hf _ (fun t=>rfl) (fun a t=>rfl) fn.results.toList vs h];simp[zJ,zL];congr 1;rcases vs with _ |⟨v,_ |⟨u,l⟩⟩;simp[aJ,xF,aI];simp[aJ,xF];simp[aJ,xF,aI]
end
def ig(P:Program)(t:X):P.info? t=P.types[t]? \/P.types[t]? = none:=by by_cases h:t<P.types.size;exact .inl (by unfold Tables.info?;rw[if_pos h]);exact .inr (Array.getElem?_eq_none (Nat.le_of_not_lt h))
def zcp (P : Program) (eqs : I X) (hm : P.follows .mixedOrders = true) (hn : ∀ f ∈ P.funcs.toList, f.body.isSome = true → (f.name == "runtime.NumGoroutine") = false)
  (he:∀t∈eqs,P.stoodInHeld t=false/\P.eqGuardType P.depth t=false):lP P (ED P eqs) where
 und t d h:=by
  simp only[ED,jA]at h;rcases ht:P.types.toList[t]? with _|i;simp[ht]at h;have hi:P.info? t=some i:=by
   have tH:P.types[t]? = some i:=by simpa using ht
   rcases ig P t with h1 |h1;rw[h1,tH];rw[h1]at tH;cases tH
  simp only[ht]at h;unfold Program.underlying;rw[hi];obtain⟨desc,s1,s2,s3,s4,s5,s6,s7,s8,s9⟩:=i;cases desc with
  |named nm u=>
   simp only at h ⊢;rcases hu:P.types.toList[u]? with _|j;simp[hu]at h;have hj:P.info? u=some j:=by
    have B0:P.types[u]? = some j:=by simpa using hu
    rcases ig P u with h1 |h1;rw[h1,B0];rw[h1]at B0;cases B0
   simp[hu,zA]at h;rw[hj];simp[h]
  |_=>simpa using h
 inf t a b z h:=by
  simp only[ED,jA]at h;rcases ht:P.types.toList[t]? with _|i;simp[ht]at h;have hi:P.info? t=some i:=by
   have tH:P.types[t]? = some i:=by simpa using ht
   rcases ig P t with h1 |h1;rw[h1,tH];rw[h1]at tH;cases tH
  simp[ht]at h;rcases hz:i.zero with _|z';simp[hz]at h;simp[hz]at h;rcases hp:plain z' with _|_;simp[hp]at h;simp[hp,zC,zA,zB]at h;obtain⟨rfl,rfl,rfl⟩:=h;exact⟨hp,i,hi,rfl,rfl,hz⟩
 fn f g h:=by
  simp only[ED,jA]at h;have h':P.funcs[f]? = some g:=by simpa using h
  exact⟨h',hn g (zX h)⟩
 eqs t h:=by
  simp only[ED]at h;obtain⟨u,hu,e⟩:=List.any_eq_true.1 h;have:t=u:=by simpa[beq_eq]using e
  subst this;exact he t hu
 mixed:=hm
end Go.Rx
