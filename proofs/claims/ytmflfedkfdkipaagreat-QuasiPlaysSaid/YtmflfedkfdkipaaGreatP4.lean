import Derived.Laws.Append
import Derived.Test.YtmflfedkfdkipaaGreatP3
set_option linter.all false
namespace Go.Rx
open Go
def Eff(P:DC)(m:Nm)(s:S)(w:Nr)(x:Sem Value)(v:Value)(bR:S):Prop :=
 ∃aL w₁ cv,x.run P w=.ok cv w₁/\bT m s w aL bR w₁/\iY aL bR.nx v cv
def qk(P:DC)(m:Nm)(s:S)(w:Nr)(x:Sem Unit)(bR:S):Prop :=
 ∃aL w₁,x.run P w=.ok () w₁/\bT m s w aL bR w₁
def iY.cells{m:Nm}{n:Nat}{v cv:Value}(h:iY m n v cv):nS m n v.cells.toList cv.cells.toList:=fun m' ha=>by
 rw[<-h m' ha,kc,lM]
variable{m:Nm}
variable{n:Nat}
variable{l:X Value}
def qnp(h:∀m',aJ m' l=l):nS m n l l:=fun m' _=>h m'
variable{v:Value}
def NO(h:∀m',ren m' v=v):iY m n v v:=fun m' _=>h m'
def nS.append{a b ca cb:X Value}(h:nS m n a ca)(h':nS m n b cb):nS m n (a++b) (ca++cb):=fun m' ha=>by
 rw[L7,h m' ha,h' m' ha]
def C3(m:Nm)(i b sh cp:Nat):(m.set i b sh cp).blk i=b/\(m.set i b sh cp).sh i=sh/\(m.set i b sh cp).cp i=cp:=by simp[Nm.set]
variable{s:S}
def qwe(b sh cp n:Nat)(hn:s.nx<n):iY (m.set s.nx b sh cp) n (.pointer (some ⟨s.nx,0,none⟩)) (.pointer (some ⟨b,sh,none⟩)):=fun m' ha=>by
 obtain⟨h1,h2,_⟩:=ha s.nx hn;obtain⟨e1,e2,_⟩:=C3 m s.nx b sh cp;simp[ren,h1,h2,e1,e2]
variable{w:Nr}
def xw(hf:gD m s w){cl:X Value}(hl:nS m s.nx l cl)(e:TypeId)(cp:Nat):
  bT m s w (m.set s.nx w.heap.size 0 cp) (newRow s l e 0) (w.alloc (.cells ⟨cl⟩ e)):=by refine bT.alloc hf _ _ cp fun m' ha=>?_;have mG:aN s.nx m m':=(Nm.agree_set m s.nx w.heap.size 0 cp).trans ha (Nat.le_succ _);obtain⟨h1,h2,_⟩:=ha s.nx (zN _);obtain⟨e1,e2,_⟩:=C3 m s.nx w.heap.size 0 cp;refine⟨by rw[h2,e2],?_⟩;rw[h1,e1,hl m' mG];show(w.heap.push _)[w.heap.size]? = _;simp
def A?(hf:gD m s w){cl rest:X Value}(hl:nS m s.nx l cl)(e:TypeId)(cp sz:Nat)(aQ:l.length+rest.length=cp*sz):
  bT m s w (m.set s.nx w.heap.size 0 cp) (newRow s l e (sz+2)) (w.alloc (.cells ⟨cl++rest⟩ e)):=by refine bT.alloc hf _ _ cp fun m' ha=>?_;have mG:aN s.nx m m':=(Nm.agree_set m s.nx w.heap.size 0 cp).trans ha (Nat.le_succ _);obtain⟨h1,h2,h3⟩:=ha s.nx (zN _);obtain⟨e1,e2,e3⟩:=C3 m s.nx w.heap.size 0 cp;refine⟨[],rest,?_,by simp[h2,e2],by rw[h3,e3,aQ]⟩;rw[h1,e1,hl m' mG];show(w.heap.push _)[w.heap.size]? = _;simp
def R_{e:TypeId}{md:Nat}(h:md≠1):Own (.inl (l,e,md))=true:=by rcases md with _ |_ |n<;>simp_all[Own]
def z31{P:DC}(hf:gD m s w){i off:Nat}{l' vs mR:X Value}{e:TypeId}{md:Nat}(hr:eR s i=some (l,e,md))(hp:y9 l off vs=some l')
  (hv:nS m s.nx vs mR) (h1:vD vs=true):
  ∃w₁,(storeCells ⟨m.blk i,m.sh i+off,none⟩ mR 0).run P w=.ok () w₁/\bT m s w m ⟨up s.h i (.inl (l',e,md)),s.nx⟩ w₁:=by
 obtain⟨hl,pD⟩:=q? hr;obtain⟨aQ,BE⟩:=qrh hp;have wX:∀v∈mR,v.oneCell'=true:=by rw[<-hv.at];exact qn0 h1
 have iS:mR.length=vs.length:=by rw[<-hv.at];simp
 rcases md with _ |_ |n;have h0:∀m',aN s.nx m m'->m'.sh i=0/\w.heap[m'.blk i]? = some (.cells (aJ m' l).toArray e (0,0)):=fun m' ha=>(hf m' ha).ok i _ hl
 obtain⟨hsh,hb⟩:=h0 m (aN.refl _ _);have dC:=run_storeCells_at P (m.blk i) off e mR 0 _ w hb (by simp;omega) wX;simp only[Nat.add_zero]at dC;rw[hsh,Nat.zero_add];refine⟨_,dC,bT.write hf hl (R_ pD) (fun k hk=>setRow_other w _ k _ hk) qq4 rfl rfl rfl (zF _) fun m' ha=>?_⟩;obtain⟨hsh',cK⟩:=h0 m' ha;have xJ:m'.blk i=m.blk i:=(ha i ((hf.fits).bd i _ hl)).1;refine⟨hsh',?_⟩;rw[xJ,setRow_heap w _ _ _ e (0,0) hb];rw[xJ]at cK;have vM:aJ m' l=aJ m l:=by have:=hb.symm.trans cK;simp at this;exact this.symm
 rw[BE,L7,L7,hv m' ha];have e1:aJ m' (l.take off)=(aJ m l).take off:=by rw[<-vM];simp[mD,List.map_take]
 have e2:aJ m' (l.drop (off+vs.length))=(aJ m l).drop (off+mR.length):=by rw[<-vM,iS];simp[mD,List.map_drop]
 rw[e1,e2];exact absurd rfl pD;have h0:∀m',aN s.nx m m'->∃pr rest,w.heap[m'.blk i]? = some (.cells (pr++aJ m' l++rest).toArray e (0,0))/\pr.length=m'.sh i/\l.length+rest.length=m'.cp i*n:=fun m' ha=>(hf m' ha).ok i _ hl;obtain⟨pr,rest,hb,mZ,CJ⟩:=h0 m (aN.refl _ _);have dC:=run_storeCells_at P (m.blk i) (m.sh i+off) e mR 0 _ w hb (by simp;omega) wX;simp only[Nat.add_zero]at dC;refine⟨_,dC,bT.write hf hl (R_ pD) (fun k hk=>setRow_other w _ k _ hk) qq4 rfl rfl rfl (zF _) fun m' ha=>?_⟩;obtain⟨pr',GK,cK,hpr',hrest'⟩:=h0 m' ha;obtain⟨xJ,Kj,hci⟩:=ha i ((hf.fits).bd i _ hl);rw[xJ]at cK;have bY:pr'++aJ m' l++GK=pr++aJ m l++rest:=by have:=hb.symm.trans cK;simp at this;simpa using this.symm
 have Vp:pr'=pr/\aJ m' l=aJ m l/\GK=rest:=by rw[zT,zT]at bY;obtain⟨e1,e2⟩:=List.append_inj bY (by rw[hpr',mZ,Kj]);obtain⟨e3,e4⟩:=List.append_inj e2 qq4;exact⟨e1,e3,e4⟩
 refine⟨pr,rest,?_,by rw[Kj,mZ],?_⟩;rw[xJ,setRow_heap w _ _ _ e (0,0) hb];rw[BE,L7,L7,hv m' ha];have e1:aJ m' (l.take off)=(aJ m l).take off:=by rw[<-Vp.2.1];simp[mD,List.map_take]
 have e2:aJ m' (l.drop (off+vs.length))=(aJ m l).drop (off+mR.length):=by rw[<-Vp.2.1,iS];simp[mD,List.map_drop]
 rw[e1,e2];congr 2;simp only[zT];rw[<-mZ,List.take_append,zW qq0,Nat.add_sub_cancel_left,List.take_append_of_le_length (by simp;omega)];rw[List.drop_append,List.drop_of_length_le qq0,List.nil_append,show pr.length+off+mR.length-pr.length=off+mR.length by omega,List.drop_append_of_le_length (by simp;omega)];simp;rw[hci,<-CJ,BE];simp;omega
section
variable{P:DC}{T:Tb}(hT:j0 P T){m:Nm}{s:S}{w:Nr}(hf:gD m s w)
include hT hf
def z6g{t:TypeId}{p cp cv u:Value}{bR:S}(hp:iY m s.nx p cp)(hv:iY m s.nx v cv)(h:Gj T s t p v=some (u,bR)):
  qk P m s w (Instr.storeAt t cp cv) bR/\u=undef:=by
 unfold Gj at h;cases p with
 |pointer q=>
  rcases q with _|a;simp at h;simp only[beq_eq]at h;rcases hs:cD T t with _|n;simp[hs]at h;simp only[hs]at h;by_cases hn:v.cells.toList.length=n;simp only[hn,yC,zC]at h;rcases h1:vD v.cells.toList with _|_;simp[h1]at h;simp only[h1,zC]at h;rcases hr:eR s a.block with _|r;simp[hr]at h;obtain⟨l,e,md⟩:=r;simp only[hr]at h;rcases hq:y9 l a.off v.cells.toList with _|l';simp[hq]at h;simp only[hq,zA,zB]at h;obtain⟨rfl,rfl⟩:=h;refine⟨?_,rfl⟩;obtain⟨w₁,dG,aS⟩:=z31 (P:=P) hf hr hq hv.cells h1;refine⟨m,w₁,?_,aS⟩;have P5:cp=.pointer (some ⟨m.blk a.block,m.sh a.block+a.off,none⟩):=by rw[<-hp.at];simp[ren]
  have eY:cv.cells.size=n:=by
   have:cv.cells.toList.length=n:=by rw[<-hv.cells.at];simpa using hn
   simpa using this
  subst P5;simp[Instr.storeAt,Instr.sureAddr,storeVar,pR hT w hs,eY,dG];simp only[hn,yB,zD]at h;cases h
 |_=>simp at h
omit hT hf in
def ru(z:Zu Value)(n:Nat):(Array.range (n*z.size)).map (fun i=>z[i%z.size]!)=⟨dD z.toList n⟩:=by
 apply Array.ext';simp only[Array.toList_map,Array.toList_range];rcases Nat.eq_zero_or_pos z.size with h0 |iQ;have hz:z= #[]:=by simpa using h0
 subst hz;induction n with
 |zero=>simp[dD]|succ n ih=>simp[dD]at ih ⊢;exact ih
 induction n with
 |zero=>simp[dD]|succ n ih=>
  have e:(n+1)*z.size=z.size+n*z.size:=by rw[Nat.add_mul];omega
  rw[e,List.range_add,List.map_append,dD,<-ih];congr 1;apply List.ext_getElem?;intro i;by_cases hi:i<z.size;simp[hi,Nat.mod_eq_of_lt hi];simp[hi];rw[List.map_map];apply List.map_congr_left;intro i _;simp
omit hT hf in
def G_(z:X Value)(n:Nat):(dD z n).length=n*z.length:=by induction n with|zero=>simp[dD]|succ n ih=>simp[dD,ih,Nat.add_mul];omega
omit hT hf in
def F_{z:X Value}(h:∀m',aJ m' z=z)(n:Nat)(m':Nm):aJ m' (dD z n)=dD z n:=by induction n with|zero=>simp[dD,aJ]|succ n ih=>simp[dD,L7,ih,h]
omit hf in
def kn{t:TypeId}{x:Nat×Nat×Value}(h:T.inf t=some x)(m':Nm):aJ m' x.2.2.cells.toList=x.2.2.cells.toList:=by have:=(NG hT m' default h).2;rw[<-lM,<-kc,this]
omit hT hf in
def YQ{b sh cp n len c c':Nat}(hn:s.nx<n)(hc:∀m',aN n (m.set s.nx b sh cp) m'->dM m' s.nx c=c'):
  iY (m.set s.nx b sh cp) n (.slice (some ⟨s.nx,0,none⟩) len c) (.slice (some ⟨b,sh,none⟩) len c'):=fun m' ha=>by
 obtain⟨h1,h2,_⟩:=ha s.nx hn;obtain⟨e1,e2,_⟩:=C3 m s.nx b sh cp;simp[ren,h1,h2,e1,e2,hc m' ha]
def qt3{t:TypeId}{ps:X (Nat×Value)}{bR:S}{cps:X (Nat×Value)}(hps:∀m',aN s.nx m m'->ps.map (fun p=>(p.1,ren m' p.2))=cps)
  (h:Po T s t n ps=some (v,bR)):Eff P m s w (Instr.buildSlice t n cps.toArray) v bR:=by
 unfold Po at h;rcases hd:T.und t with _|d;simp[hd]at h;cases d with
 |slice e=>
  simp only[hd]at h;rcases hi:T.inf e with _|x;simp[hi]at h;obtain⟨sz,by_,z⟩:=x;have eY:cD T e=some sz:=by simp[cD,hi]
  have hz:=fun m'=>NG hT m' w hi;have CF:=kn hT hi;simp only at hz CF;simp only[hi,beq_eq]at h;rcases h1:Nat.ble (n*sz) 16777216 with _|_
  simp[h1]at h;simp only[h1,zC]at h;have tV:n*sz<=16777216:=by simpa[Nat.ble_eq]using h1
  by_cases h2:z.cells.toList.length=sz;simp only[h2,yC,zC]at h;rcases h3:DI (fun i=>some (i*sz,sz)) (dD z.cells.toList n) ps with _|cs;simp[h3]at h;rcases h4:Nat.blt n cV with _|_;simp[h3,h4]at h;have h4':n<cV:=by simpa[Nat.blt_eq]using h4
  simp only[h3,h4,zC,zA,zB]at h;obtain⟨rfl,rfl⟩:=h;have lT:∀m',aN s.nx m m'->Instr.fill (fun i=>some (i*sz,sz)) ⟨dD z.cells.toList n⟩ cps=some ⟨aJ m' cs⟩:=fun m' ha=>by have:=Oy m' _ ps _ _ h3;rw[hps m' ha,F_ CF]at this;exact this
  obtain⟨cl,iS⟩:∃cl,nS m s.nx cs cl:=⟨aJ m cs,fun m' ha=>by have e1:=lT m' ha;have e2:=lT m (aN.refl _ _);rw[e1]at e2;simpa using e2⟩;have iT:z.cells.size=sz:=by simpa using h2
  refine⟨_,_,.slice (some ⟨w.heap.size,0,none⟩) n n,?_,xw hf iS e 0,?_⟩;have fC:(Array.range (n*sz)).map (fun i=>(if n*sz=0 then(#[]:Zu Value)else z.cells)[i%(if n*sz=0 then(#[]:Zu Value)else z.cells).size]!)=⟨dD z.cells.toList n⟩:=by
   by_cases h0:n*sz=0;rw[h0];apply Array.ext';have:(dD z.cells.toList n).length=0:=by rw[G_,h2,h0]
   simp[List.length_eq_zero_iff.1 this];simp only[if_neg h0];have:=ru z.cells n;rw[iT]at this;rw[<-this];simp[iT]
  have hf2:=lT m (aN.refl _ _);rw[iS.at]at hf2;have hnot:¬ n*sz>2^24:=by omega
  have Uu:=(hz m).1;by_cases h0:n*sz=0;simp only[if_pos h0]at fC;simp only[Instr.buildSlice,zK,kM hT w hd,zJ,pR hT w eY,Sem.run_ite,if_neg hnot,zL,if_pos h0];rw[fC,hf2];simp[Go.newRow];simp only[if_neg h0]at fC;simp only[Instr.buildSlice,zK,kM hT w hd,zJ,pR hT w eY,Sem.run_ite,if_neg hnot,zL,if_neg h0,Uu];rw[fC,hf2];simp[Go.newRow];refine YQ (zN _) fun m' _=>?_;simp[dM,h4'];simp only[h2,yB,zD]at h;cases h
 |_=>simp[hd]at h
end
variable{n:Nat}
def qz1{m:Nm}{s:S}{w:Nr}(hf:gD m s w){b:V Addr}{cs:X Value}(h:vB s b n=some cs):
  cs.length=n/\∃M4,nS m s.nx cs M4/\∀a,b=some a->∀j u,M4[j]? = some u->w.cell? ((⟨m.blk a.block,m.sh a.block+a.off,none⟩:Addr).add j)=some u:=by
 cases n with
 |zero=>simp[vB]at h;subst h;exact⟨rfl,[],fun _ _=>by simp[aJ],fun _ _ j u hu=>by simp at hu⟩|succ n=>
  simp only[vB]at h;rcases b with _|a;simp at h;simp only at h;rcases hl:lk s.h a.block with _|blk;simp[hl]at h;rcases blk with⟨l,e,md⟩|x;simp only[hl]at h;have hc:∀m',aN s.nx m m'->∀j v,cs[j]? = some v->w.cell? ⟨m.blk a.block,m.sh a.block+(a.off+j),none⟩=some (ren m' v):=fun m' ha j v hj=>by have hr:yH m' a.block l e w md:=(hf m' ha).ok _ _ hl;have:=hr.cell (z2p h hj);obtain⟨e1,e2,_⟩:=ha a.block ((hf.fits).bd _ _ hl);rw[e1,e2]at this;exact this
  refine⟨iw h,aJ m cs,fun m' ha=>?_,?_⟩;rw[mD,mD];apply List.map_congr_left;intro v hv;obtain⟨j,hj⟩:=List.getElem?_of_mem hv;have e1:=hc m' ha j v hj;have e2:=hc m (aN.refl _ _) j v hj;rw[e1]at e2;simpa using e2;rintro _ ⟨rfl⟩ j u hu;rw[mD,List.getElem?_map]at hu;rcases hj:cs[j]? with _|v;simp[hj]at hu;simp[hj]at hu;subst hu;rw[FD,Nat.add_assoc];exact hc m (aN.refl _ _) j v hj;simp[hl]at h
def z6h(x K d n k z:Nat):x+K*z-(x+d*z+n*z+k*z)=(K-(d+n+k))*z:=by rw[Nat.sub_mul,Nat.add_mul,Nat.add_mul];omega
def z3v(n k K d:Nat)(h:n+k<=K-d):n+k+(K-(d+n+k))=K-d:=qq0
def pN(m:Nm):V Addr->Nat->Nat
 |none,c=>c|some a,c=>dM m a.block c
def bT.rename{m:Nm}{s:S}{w w':Nr}(h:gD m s w){i:Nat}{b b':mI}(hb:lk s.h i=some b)(BD:Own b=true)(sh' cp':Nat)
  (hw:∀k,k≠m.blk i->w'.heap[k]? = w.heap[k]?) (eY:w'.heap.size=w.heap.size) (h1:w'.os=w.os) (h2:w'.tape=w.tape) (h3:w'.output=w.output) (_h4:w.drawn<=w'.drawn) (hc:∀m',aN (s.nx+1) (m.set s.nx (m.blk i) sh' cp') m'->v8 m' s.nx w' b'):
  bT m s w (m.set s.nx (m.blk i) sh' cp') ⟨(s.nx,b')::rm s.h i,s.nx+1⟩ w':=by
 have xJ:i<s.nx:=(h.fits).bd i b hb;have key:∀j d,s.nx≠j->lk ((s.nx,b')::rm s.h i) j=some d->lk s.h j=some d/\i≠j:=fun j d hj hd=>by simp only[mL,hj,if_false,Gd]at hd;by_cases e:i=j;simp[e]at hd;simp only[e,if_false]at hd;exact⟨hd,e⟩
 refine⟨Nm.agree_set m _ _ _ _,Nat.le_succ _,?_,?_,?_,by omega,h1,h2,h3⟩;intro m' ha;have mG:aN s.nx m m':=(Nm.agree_set m s.nx (m.blk i) sh' cp').trans ha (Nat.le_succ _);have hf:=h m' mG;have gH:m'.blk s.nx=m.blk i:=by have:=(ha s.nx (zN _)).1;simpa[Nm.set]using this
 have hmi:m'.blk i=m.blk i:=(mG i xJ).1;refine⟨fun j d hd=>?_,fun j k d d' hd bH ED ho=>?_,fun j d hd=>?_⟩;by_cases e:s.nx=j;subst e;simp only[mL,if_true,zA]at hd;subst hd;exact hc m' ha;obtain⟨bH,nZ⟩:=key j d e hd;refine(hf.ok j d bH).world (hw _ ?_);rw[<-hmi];exact fun x=>hf.inj i j b d hb bH nZ BD x.symm;by_cases e:s.nx=j;subst e;obtain⟨hk,OV⟩:=key k d' ED bH;rw[gH,<-hmi];exact hf.inj i k b d' hb hk OV BD;obtain⟨hj,nZ⟩:=key j d e hd;by_cases e2:s.nx=k;subst e2;rw[gH,<-hmi];exact fun x=>hf.inj i j b d hb hj nZ BD x.symm;obtain⟨hk,OV⟩:=key k d' e2 bH;exact hf.inj j k d d' hj hk ED ho;by_cases e:s.nx=j;subst e;exact zN _;exact Nat.lt_succ_of_lt (hf.bd j d (key j d e hd).1);rintro k ⟨j,d,hd,ho,rfl⟩;left;by_cases e:s.nx=j;subst e;exact⟨i,b,hb,BD,by simp[Nm.set]⟩;obtain⟨hj,_⟩:=key j d e hd;have:=(h.fits).bd j d hj;exact⟨j,d,hj,ho,by simp[Nm.set,show j≠s.nx by omega]⟩;intro k hk hn;exact hw k fun e=>hn ⟨i,b,hb,BD,e.symm⟩
def k9(z:Zu Value)(n:Nat):(Builtin.zeroCells z n).size=n*z.size:=by simp[Builtin.zeroCells]
def qy0{b:Nat}(h:C0 n b=true):n*b<=140737488355328/\n<=140737488355328:=by unfold C0 at h;rcases h1:Nat.ble (n*b) 140737488355328 with _|_;simp[h1]at h;simp only[h1,zC]at h;exact⟨by simpa[Nat.ble_eq]using h1,by simpa[Nat.ble_eq]using h⟩
def Qe(m:Nm)(i:Nat):dM m i cV=m.cp i:=by simp[dM,cT]
section
variable{P:DC}{T:Tb}(hT:j0 P T){m:Nm}{s:S}{w:Nr}(hf:gD m s w)
include hT hf
variable{t:TypeId}
variable{v:Value}
variable{bR:S}
def z9m{l c cl cc:Value}(hl:iY m s.nx l cl)(hc:iY m s.nx c cc)(h:Lq T s t l c=some (v,bR)):Eff P m s w (Instr.makeSlice t cl cc) v bR:=by
 unfold Lq at h;rcases hd:T.und t with _|d;simp[hd]at h;cases d with
 |slice e=>
  simp only[hd]at h;cases l with
  |int k1 a=>
   cases c with
   |int k2 b=>
    simp only at h;have e1:cl=.int k1 a:=by rw[<-hl.at];simp[ren]
    have e2:cc=.int k2 b:=by rw[<-hc.at];simp[ren]
    subst e1 e2;rcases hi:T.inf e with _|x;simp[hi]at h;obtain⟨sz,by_,z⟩:=x;have eY:cD T e=some sz:=by simp[cD,hi]
    have hz:=fun m'=>NG hT m' w hi;have CF:=kn hT hi;simp only at hz CF;obtain⟨_,i,Kt,hi2,be,hi4⟩:=hT.inf e _ _ _ hi;simp only[hi,beq_eq]at h;cases Kd:IntKind.i64.wrap a with
    |negSucc x=>simp[Kd]at h|ofNat n=>
     cases Uz:IntKind.i64.wrap b with
     |negSucc x=>simp[Kd,Uz]at h|ofNat k=>
      simp only[Kd,Uz]at h;rcases h1:Nat.ble n k with _|_;simp[h1]at h;rcases h2:Nat.ble (by_*k) 281474976710656 with _|_;simp[h1,h2]at h;by_cases h3:z.cells.toList.length=sz;rcases h4:Nat.blt k cV with _|_;simp only[h1,h2,h3,h4,zC,yC,zD]at h;cases h;simp only[h1,h2,h3,h4,zC,yC,zA,zB]at h;obtain⟨rfl,rfl⟩:=h;have tV:n<=k:=by simpa[Nat.ble_eq]using h1
      have FY:by_*k<=281474976710656:=zY h2;have h4':k<cV:=by simpa[Nat.blt_eq]using h4
      have iT:z.cells.size=sz:=by simpa using h3
      refine⟨_,_,.slice (some ⟨w.heap.size,0,none⟩) n k,?_,xw hf (qnp (F_ CF k)) e 0,?_⟩;have Cf:∀q:Nat,q<=k->(decide ((q:Int)<0)||decide ((i.bytes:Int)*(q:Int)>2^48))=false:=by intro q hq;have:by_*q<=281474976710656:=Nat.le_trans (Nat.mul_le_mul_left _ hq) FY;have h':((by_*q:Nat):Int)<=((281474976710656:Nat):Int):=Int.ofNat_le.2 this;simp only[Bool.or_eq_false_iff,decide_eq_false_iff_not,be];refine⟨by omega,?_⟩;rw[Int.natCast_mul]at h';simp only[gt_iff_lt,Int.not_lt];exact h'
      have fC:(Array.range (k*sz)).map (fun i=>(if k*sz=0 then(#[]:Zu Value)else z.cells)[i%(if k*sz=0 then(#[]:Zu Value)else z.cells).size]!)=⟨dD z.cells.toList k⟩:=by
       by_cases h0:k*sz=0;rw[h0];apply Array.ext';have:(dD z.cells.toList k).length=0:=by rw[G_,h3,h0]
       simp[List.length_eq_zero_iff.1 this];simp only[if_neg h0];have:=ru z.cells k;rw[iT]at this;rw[<-this];simp[iT]
      have eT:(((decide ((k:Int)<0)||decide ((i.bytes:Int)*(k:Int)>2^48))||decide ((n:Int)<0))||decide ((n:Int)>(k:Int)))=false:=by rw[Cf k (zF _)];simp;omega
      have hwa':IntKind.i64.wrap a=(n:Int):=Kd;have hwb':IntKind.i64.wrap b=(k:Int):=Uz;have Uu:=(hz m).1;simp only[Instr.makeSlice,zK,kM hT w hd,zJ,asInt,asIntOf,zL,typeInfo,run_program,Kt,hwa',hwb',Sem.run_ite,eT,Bool.false_eq_true,if_false,run_askRoom,zZ,pR hT w eY];by_cases h0:k*sz=0;simp only[if_pos h0]at fC;simp only[if_pos h0];rw[fC];simp[Go.newRow];simp only[if_neg h0]at fC;simp only[if_neg h0,Uu,zJ];rw[fC];simp[Go.newRow];refine YQ (zN _) fun m' _=>?_;simp[dM,h4'];simp only[h1,h2,h3,zC,yB,zD]at h;cases h
   |_=>simp at h
  |_=>simp at h
 |_=>simp[hd]at h
omit hf in
def yd{t xt ty e e2:TypeId}{size:Nat}(ht:T.und t=some (.slice e))(hx:T.und xt=some (.slice e2))(hs:cD T e=some size){base xb:V Addr}{n C k xc:Nat}{cnew:Zu Value}{w₁:Nr}
  (gH:(Builtin.firstCells size k (.slice xb k xc)).run P w=.ok cnew w) (bZ:n+k<=C) (dC:∀a,base=some a->(storeCells (a.add (n*size)) cnew.toList).run P w=.ok () w₁) (eT:base=none->w₁=w):
  (Builtin.append_ #[t,xt] ty #[.slice base n C,.slice xb k xc]).run P w=.ok (.slice base (n+k) C) w₁:=by cases base with|none=>rw[eT rfl];simp[Builtin.append_,kM hT w ht,kM hT w hx,pR hT w hs,Builtin.lenOf,bZ,gH]|some a=>simp[Builtin.append_,kM hT w ht,kM hT w hx,pR hT w hs,Builtin.lenOf,bZ,gH,dC a rfl]
omit hf in
def iJ{t xt ty e e2:TypeId}{size by_:Nat}{z:Value}(ht:T.und t=some (.slice e))(hx:T.und xt=some (.slice e2))(hi:T.inf e=some (size,by_,z)){base xb:V Addr}{n C k xc:Nat}{cnew cold:Zu Value}
  (gH:∀w',w'.heap=w.heap->(Builtin.firstCells size k (.slice xb k xc)).run P w'=.ok cnew w') (oR:∀w',w'.heap=w.heap->(Builtin.firstCells size n (.slice base n C)).run P w'=.ok cold w') (bZ:C<n+k) (hr:C0 (n+k) by_=true): (Builtin.append_ #[t,xt] ty #[.slice base n C,.slice xb k xc]).run P w=
   .ok (.slice (some ⟨w.heap.size,0,none⟩) (n+k) ((Question.appendCap (n+k) C e).cut (w.tape w.drawn (.appendCap (n+k) C e)))) ((w.drew).alloc (.cells (cold++cnew++Builtin.zeroCells z.cells (((Question.appendCap (n+k) C e).cut (w.tape w.drawn (.appendCap (n+k) C e)))-(n+k))) e)):=by
 obtain⟨r1,r2⟩:=qy0 hr;obtain⟨_,i,Kt,hi2,be,hi4⟩:=hT.inf e _ _ _ hi;have hs:cD T e=some size:=by simp[cD,hi]
 have g1:¬ n+k<=C:=by omega
 have g2:¬ (((n+k:Nat):Int)>IntKind.i64.max/\(False\/i.bytes=0)):=by rw[IntKind.max_i64];omega
 have g3:¬ Builtin.nextslicecap (n+k) C*i.bytes>2^48:=by have:=growslice_fits (bytes:=i.bytes) bZ (by rw[be];exact r1);omega
 have hn:=gH w.drew rfl;have ho:=oR w.drew rfl;have vP:({ w with drawn:=w.drawn+1 }:Nr)=w.drew:=rfl;have hz:(zeroValue e).run P w.drew=.ok z w.drew:=(NG hT (⟨id,id,id⟩:Nm) w.drew hi).1;simp[Builtin.append_,kM hT w ht,kM hT w hx,pR hT w hs,Builtin.lenOf,if_neg g1,typeInfo,Kt];have g2':¬ (9223372036854775807<(n:Int)+(k:Int)/\i.bytes=0):=by omega
 have g3':¬ 281474976710656<Builtin.nextslicecap (n+k) C*i.bytes:=g3;have hff:(Question.appendCap (n+k) C e).forced=false:=rfl;simp only[if_neg g2',if_neg g3',hff,Bool.false_eq_true,if_false,ho,hn,hz,zJ];simp[Go.newRow];rfl
omit hf in
def qjy{t xt ty e e2:TypeId}{size by_:Nat}{z:Value}(ht:T.und t=some (.slice e))(hx:T.und xt=some (.slice e2))(hi:T.inf e=some (size,by_,z)){base xb:V Addr}{n C k xc:Nat}{cnew cold:Zu Value}
  (gH:∀w',w'.heap=w.heap->(Builtin.firstCells size k (.slice xb k xc)).run P w'=.ok cnew w') (oR:∀w',w'.heap=w.heap->(Builtin.firstCells size n (.slice base n C)).run P w'=.ok cold w') (bZ:C<n+k) (hr:C0 (n+k) by_=true):
  ∃nc,n+k<=nc/\(Builtin.append_ #[t,xt] ty #[.slice base n C,.slice xb k xc]).run P w=
   .ok (.slice (some ⟨w.heap.size,0,none⟩) (n+k) nc) ((w.drew).alloc (.cells (cold++cnew++Builtin.zeroCells z.cells (nc-(n+k))) e)):=
 ⟨_,by simp[Question.cut],iJ hT ht hx hi gH oR bZ hr⟩
omit hT in
def s_{b:V Addr}{n size:Nat}{cs:X Value}(h:vB s b (n*size)=some cs):
  ∃M4,nS m s.nx cs M4/\cs.length=n*size/\∀w',w'.heap=w.heap->∀len cap,(Builtin.firstCells size n (.slice (b.map fun a=>⟨m.blk a.block,m.sh a.block+a.off,none⟩) len cap)).run P w'=.ok ⟨M4⟩ w':=by
 obtain⟨h1,M4,h2,h3⟩:=qz1 hf h;refine⟨M4,h2,h1,fun w' hw len cap=>?_⟩;have hl:M4.length=n*size:=by rw[<-h2.at];simp[h1]
 cases b with
 |none=>
  have:n*size=0:=by cases hz:n*size with|zero=>rfl|succ k=>rw[hz]at h;simp[vB]at h
  have:M4=[]:=List.length_eq_zero_iff.1 qq0;subst this;simp[Builtin.firstCells]
 |some a=>exact run_firstCells_some w' size n _ len cap M4 hl (fun j u hu=>by have:=h3 a rfl j u hu;rw[<-this];simp[World.cell?,hw])
omit hT in
def zaq{i c sz:Nat}{l:X Value}{e:TypeId}(hl:lk s.h i=some (.inl (l,e,sz+1+2))){off n:Nat}(ho:off=cT c*(sz+1))(hn:off+n*(sz+1)<=l.length):n+cT c<=m.cp i:=by
 obtain⟨pr,rest,_,_,h3⟩:=(hf.fits).ok i _ hl;have:(n+cT c)*(sz+1)<=m.cp i*(sz+1):=by rw[Nat.add_mul];omega
 exact Nat.le_of_mul_le_mul_right this qq0
variable{xt:TypeId}
variable{ty:TypeId}
variable{uR:Value}
def qx1{e e2:TypeId}{sz by_:Nat}{z:Value}(hd:T.und t=some (.slice e))(dL:T.und xt=some (.slice e2))(hi:T.inf e=some (sz+1,by_,z)){a:Addr}{l p new cnew:X Value}{c k:Nat}{xb:V Addr}{xc:Nat}
  (hr:eR s a.block=some (l,e,sz+1+2)) (fI:a.off=cT c*(sz+1)) (hc:¬ c<cV) (bZ:C0 (n+(k+1)) by_=true) (LP:z.cells.toList.length=sz+1) (hg:uV l a.off (n*(sz+1))=some p) (P6:nS m s.nx new cnew) (yZ:new.length=(k+1)*(sz+1)) (h1:vD new=true) (jY:∀w',w'.heap=w.heap->∀len cap,(Builtin.firstCells (sz+1) (k+1) (.slice (xb.map fun a=>⟨m.blk a.block,m.sh a.block+a.off,none⟩) len cap)).run P w'=.ok ⟨cnew⟩ w')
  {cx:Value} (PZ:cx=.slice (xb.map fun a=>⟨m.blk a.block,m.sh a.block+a.off,none⟩) (k+1) (pN m xb xc)) (ecs:uR=.slice ((some a).map fun a=>⟨m.blk a.block,m.sh a.block+a.off,none⟩) n (pN m (some a) c)):
  Eff P m s w (Builtin.append_ #[t,xt] ty #[uR,cx]) (.slice (some ⟨s.nx,0,none⟩) (n+(k+1)) cV) ⟨(s.nx,.inl (p++new,e,sz+1+2))::rm s.h a.block,s.nx+1⟩:=by
 have eY:cD T e=some (sz+1):=by simp[cD,hi]
 obtain⟨hl,pD⟩:=q? hr;obtain⟨nA,nL⟩:=jd hg;have vO:=iw hg;have iU:pN m (some a) c=m.cp a.block-cT c:=by simp[pN,dM,hc]
 have iE:=(hf.fits).bd _ _ hl;have Xb:vB s (some a) (n*(sz+1))=some p:=by cases hn:n*(sz+1)with|zero=>rw[hn]at vO;simp[vB,List.length_eq_zero_iff.1 vO]|succ q=>rw[hn]at hg;simp[vB,hl,hg]
 obtain⟨cold,IN,_,OZ⟩:=s_ (P:=P) hf Xb;have iS:cnew.length=(k+1)*(sz+1):=by rw[<-P6.at];simp[yZ]
 rw[iU]at ecs;by_cases pU:n+(k+1)<=m.cp a.block-cT c
 ·-- gK is room
  obtain⟨pr,rest,hb,mZ,CJ⟩:=(hf.fits).ok _ _ hl;have Vd:a.off+n*(sz+1)+cnew.length<=l.length+rest.length:=by rw[CJ,fI,iS,<-Nat.add_mul,<-Nat.add_mul];exact Nat.mul_le_mul_right _ qq0
  have wX:∀v∈cnew,v.oneCell'=true:=by rw[<-P6.at];exact qn0 h1
  have hwl:(pr++aJ m l++rest).length=m.sh a.block+(l.length+rest.length):=by simp[mZ]
  have dC:=run_storeCells_at P (m.blk a.block) (m.sh a.block+a.off+n*(sz+1)) e cnew 0 _ w hb (by simp only[List.size_toArray,hwl];omega) wX;simp only[Nat.add_zero]at dC;refine⟨_,_,.slice (some ⟨m.blk a.block,m.sh a.block+a.off,none⟩) (n+(k+1)) (m.cp a.block-cT c),?_,bT.rename (w':=w.setRow (m.blk a.block) ((pr++aJ m l++rest).take (m.sh a.block+a.off+n*(sz+1))++cnew++(pr++aJ m l++rest).drop (m.sh a.block+a.off+n*(sz+1)+cnew.length)).toArray) hf hl (R_ pD) (m.sh a.block+a.off) (m.cp a.block-cT c) (fun k hk=>setRow_other w _ k _ hk) qq4 rfl rfl rfl (zF _) ?_,?_⟩;rw[PZ,ecs];exact yd (P:=P) hT (w:=w) (ty:=ty) hd dL eY (jY w rfl _ _) pU (fun a' mG=>by simp only[zM,zA]at mG;subst mG;rw[FD];exact dC) (fun eT=>by simp at eT);intro m' ha;obtain⟨tV,FY,PK⟩:=ha s.nx (zN _);obtain⟨e1,e2,e3⟩:=C3 m s.nx (m.blk a.block) (m.sh a.block+a.off) (m.cp a.block-cT c);have mG:aN s.nx m m':=(Nm.agree_set m s.nx _ _ _).trans ha (Nat.le_succ _);refine⟨(pr++aJ m l++rest).take (m.sh a.block+a.off),(pr++aJ m l++rest).drop (m.sh a.block+a.off+n*(sz+1)+cnew.length),?_,?_,?_⟩;rw[tV,e1,setRow_heap w _ _ _ e (0,0) hb,L7,P6 m' mG,IN m' mG];have hmid:((pr++aJ m l++rest).drop (m.sh a.block+a.off)).take (n*(sz+1))=cold:=by rw[<-IN.at,nA];rcases Nat.eq_zero_or_pos (n*(sz+1))with h0 |iQ;rw[h0];simp[aJ];rw[<-mZ,zT,List.drop_append,List.drop_of_length_le qq0,List.nil_append,Nat.add_sub_cancel_left,List.drop_append_of_le_length (by simp;omega),List.take_append_of_le_length (by simp;omega)];simp[mD,List.map_drop,List.map_take]
  have Bi:(pr++aJ m l++rest).take (m.sh a.block+a.off+n*(sz+1))=(pr++aJ m l++rest).take (m.sh a.block+a.off)++cold:=by rw[List.take_add,hmid]
  rw[Bi];congr 2;simp only[zT];rw[FY,e2,List.length_take,hwl];omega;rw[PK,e3,zU,vO,yZ,List.length_drop,hwl];rw[CJ,iS,fI,<-Nat.add_mul];have e4:=z6h (m.sh a.block) (m.cp a.block) (cT c) n (k+1) (sz+1);rw[e4,<-Nat.add_mul,z3v _ _ _ _ pU];refine YQ (zN _) fun m' ha=>?_;rw[Qe];obtain⟨_,_,e3⟩:=C3 m s.nx (m.blk a.block) (m.sh a.block+a.off) (m.cp a.block-cT c);exact(ha s.nx (zN _)).2.2.trans e3
 have aE:m.cp a.block-cT c<n+(k+1):=by omega
 obtain⟨nc,hnc2,dG⟩:=qjy (P:=P) hT (w:=w) (ty:=ty) hd dL hi (n:=n) (k:=k+1) (C:=m.cp a.block-cT c) (base:=(some a).map fun a=>⟨m.blk a.block,m.sh a.block+a.off,none⟩) (fun w' hw=>jY w' hw (k+1) (pN m xb xc)) (fun w' hw=>OZ w' hw n _) aE bZ;have hfd:gD m s w.drew:=h? _ hf;have aS:=A? hfd (rest:=(Builtin.zeroCells z.cells (nc-(n+(k+1)))).toList) (IN.append P6) e nc (sz+1) (by
  have hzs:z.cells.size=sz+1:=by simpa using LP
  rw[zU,vO,yZ,Array.length_toList,k9,hzs,<-Nat.add_mul,<-Nat.add_mul];congr 1;omega)
 have bY:=((bT.draw (w.drawn+1) hf).trans aS).trans (bT.forget aS.fits a.block);have dC:(⟨rm (newRow s (p++new) e (sz+1+2)).h a.block,(newRow s (p++new) e (sz+1+2)).nx⟩:S)=⟨(s.nx,.inl (p++new,e,sz+1+2))::rm s.h a.block,s.nx+1⟩:=by simp[newRow,rm,beq_eq,show s.nx≠a.block by omega]
 rw[dC]at bY;refine⟨_,_,.slice (some ⟨w.heap.size,0,none⟩) (n+(k+1)) nc,?_,bY,?_⟩;rw[PZ,ecs,dG];congr 3;simp;have hw:w.drew.heap.size=w.heap.size:=rfl;rw[hw];refine YQ (zN _) fun m' ha=>?_;rw[Qe];obtain⟨_,_,e3⟩:=C3 m s.nx w.heap.size 0 nc;exact(ha s.nx (zN _)).2.2.trans e3
omit hT in
def H_ {base : V Addr} {n c sz : Nat} {v : Value} {bR : S} (h : (cond (Nat.blt c cV) (cond (Nat.ble n c) (some (Value.slice base n c, s)) none)
            (match base with
              |some a=> match eR s a.block with
                |some (l,_,md)=> cond (Nat.beq md (sz+3)) (cond (Nat.beq a.off (cT c*(sz+1))) (match uV l a.off (n*(sz+1))with
                  |some _=> some (Value.slice base n c,s)|none=> none) none) none
                |none=> none
              |none=> none))=some (v,bR)):v=.slice base n c/\bR=s/\n<=pN m base c:=by
  simp only[beq_eq]at h;cases hc:Nat.blt c cV with
  |true=>simp only[hc,zC]at h;have oT:c<cV:=YM hc;rcases IH:Nat.ble n c with _|_;simp only[IH,zD]at h;cases h;simp only[IH,zC,zA,zB]at h;refine⟨h.1.symm,h.2.symm, ?_⟩;have:n<=c:=zY IH;rcases base with _|a;exact this;simp only[pN,dM,if_pos oT];exact this
  |false=>have oT : ¬ c<cV:=kh hc;simp only[hc,zD]at h;rcases base with _|a;simp at h;simp only at h;rcases hr:eR s a.block with _|r;simp[hr]at h;obtain⟨l,e',md⟩:=r;simp only[hr]at h;by_cases pD:md=sz+3;by_cases fI:a.off=cT c*(sz+1);rw[decide_eq_true pD,decide_eq_true fI]at h;simp only[zC]at h;rcases hg:uV l a.off (n*(sz+1))with _|q;simp[hg]at h;simp only[hg,zA,zB]at h;refine⟨h.1.symm,h.2.symm, ?_⟩;obtain⟨_,pU⟩:=jd hg;have hl:=(q? hr).1;subst pD;simp only[pN,dM,if_neg oT];rcases Nat.eq_zero_or_pos n with h0 |iQ;rw[h0];exact Nat.zero_le _;have Vq:0<n*(sz+1):=Nat.mul_pos iQ qq0;have:=zaq hf (c:=c) (n:=n) (off:=a.off) hl fI qq0;omega;rw[decide_eq_true pD,decide_eq_false fI]at h;simp at h;rw[decide_eq_false pD]at h;simp at h
omit hT hf in
def Qd(size len cap:Nat)(b:V Addr)(w':Nr):(Builtin.firstCells size 0 (.slice b len cap)).run P w'=.ok #[] w':=by cases b<;>simp[Builtin.firstCells,loadCells,loadCellsFrom]
def qn1{sv x cx:Value}(hs:iY m s.nx sv uR)(hx:iY m s.nx x cx)(h:yO T s t xt sv x=some (v,bR)):Eff P m s w (Builtin.append_ #[t,xt] ty #[uR,cx]) v bR:=by
 unfold yO at h;rcases hd:T.und t with _|d;simp[hd]at h;cases d with
 |slice e=>
  rcases dL:T.und xt with _|d2;simp[hd,dL]at h;cases d2 with
  |slice e2=>
   cases sv with
   |slice base n c=>
    cases x with
    |slice xb k xc=>
     simp only[hd,dL]at h;rcases hi:T.inf e with _|y;simp[hi]at h;obtain⟨sz,by_,z⟩:=y;cases sz with
     |zero=>simp[hi]at h|succ sz=>
      have eY:cD T e=some (sz+1):=by simp[cD,hi]
      simp only[hi]at h;rcases P4:vB s xb (k*(sz+1))with _|new;simp[P4]at h;simp only[P4]at h;rcases h1:vD new with _|_;simp[h1]at h;simp only[h1,zC]at h;obtain⟨cnew,P6,yZ,jY⟩:=s_ (P:=P) hf P4;have PZ:cx=.slice (xb.map fun a=>⟨m.blk a.block,m.sh a.block+a.off,none⟩) k (pN m xb xc):=by rw[<-hx.at];cases xb<;>simp[ren,pN]
      have ecs:uR=.slice (base.map fun a=>⟨m.blk a.block,m.sh a.block+a.off,none⟩) n (pN m base c):=by rw[<-hs.at];cases base<;>simp[ren,pN]
      cases k with
      |zero=>
       have hnn:cnew=[]:=List.length_eq_zero_iff.1 (by rw[<-P6.at];simp[yZ]);subst hnn;have fin:v=.slice base n c->bR=s->n<=(pN m base c)->Eff P m s w (Builtin.append_ #[t,xt] ty #[uR,cx]) v bR:=by rintro rfl rfl pU;refine⟨m,w,uR,?_,bT.refl hf,hs⟩;rw[PZ,ecs];have:=yd (P:=P) hT (w:=w) (ty:=ty) (w₁:=w) hd dL eY (base:=base.map fun a=>⟨m.blk a.block,m.sh a.block+a.off,none⟩) (n:=n) (jY w rfl 0 (pN m xb xc)) (C:=(pN m base c)) (by simpa using pU) (fun a _=>by simp[storeCells]) (fun _=>rfl);simpa using this
       obtain⟨e1,e2,pU⟩:=H_ hf h;exact fin e1 e2 pU
      |succ k=>
       simp only[Gf,beq_eq]at h;cases hc:Nat.blt c cV with
       |true=>
        simp only[hc,zC]at h;have oT:c<cV:=YM hc;cases n with
        |succ n=>simp at h|zero=>
        cases c with|succ c=>simp at h|zero=>
        simp only at h;have iU:pN m base 0=0:=by cases base<;>simp[pN,dM,oT]
        rcases bZ:C0 (0+(k+1)) by_ with _|_;simp only[bZ,zD]at h;cases h;simp only[bZ,zC]at h;by_cases LP:z.cells.toList.length=sz+1;simp only[LP,yC,zC,zA,zB]at h;obtain⟨rfl,rfl⟩:=h;obtain⟨nc,hnc2,dG⟩:=qjy (P:=P) hT (w:=w) (ty:=ty) hd dL hi (n:=0) (k:=k+1) (C:=0) (base:=base.map fun a=>⟨m.blk a.block,m.sh a.block+a.off,none⟩) (cold:=#[]) (fun w' hw=>jY w' hw (k+1) (pN m xb xc)) (fun w' _=>Qd _ _ _ _ _) qq0 bZ;have hfd:gD m s w.drew:=h? _ hf;have aS:=A? hfd (rest:=(Builtin.zeroCells z.cells (nc-(0+(k+1)))).toList) P6 e nc (sz+1) (by
         have hzs:z.cells.size=sz+1:=by simpa using LP
         rw[yZ,Array.length_toList,k9,hzs,<-Nat.add_mul];congr 1;omega)
        refine⟨_,_,.slice (some ⟨w.heap.size,0,none⟩) (0+(k+1)) nc,?_,(bT.draw (w.drawn+1) hf).trans aS,?_⟩;rw[PZ,ecs,iU,dG];congr 3;simp;have hw:w.drew.heap.size=w.heap.size:=rfl;rw[hw];refine YQ (zN _) fun m' ha=>?_;rw[Qe];obtain⟨_,_,e3⟩:=C3 m s.nx w.heap.size 0 nc;exact(ha s.nx (zN _)).2.2.trans e3;simp only[LP,yB,zD]at h;cases h
       |false=>
        simp only[hc,zD]at h;generalize hD:cT c=D at h;have oT:¬ c<cV:=kh hc;rcases base with _|a;simp at h;simp only at h;rcases hr:eR s a.block with _|r;simp[hr]at h;obtain⟨l,e',md⟩:=r;simp only[hr]at h;by_cases pD:md=sz+1+2;by_cases P0:e'=e;by_cases fI:a.off=D*(sz+1);rcases bZ:C0 (n+(k+1)) by_ with _|_;simp[pD,P0,bZ]at h;by_cases LP:z.cells.toList.length=sz+1;rcases hg:uV l a.off (n*(sz+1))with _|p;simp only[pD,P0,yC,zC,bZ,LP,hg,<-fI]at h;cases h;have h':some (Value.slice (some ⟨s.nx,0,none⟩) (n+(k+1)) cV,(⟨(s.nx,.inl (p++new,e,sz+1+2))::rm s.h a.block,s.nx+1⟩:S))=some (v,bR):=by simpa only[pD,P0,yC,zC,bZ,LP,hg,<-fI]using h
        simp only[zA,zB]at h';obtain⟨rfl,rfl⟩:=h';subst pD P0;clear h;exact qx1 hT hf hd dL hi hr (by rw[hD];exact fI) oT bZ LP hg P6 yZ h1 jY PZ ecs;simp only[pD,P0,yC,yB,zC,zD,bZ,LP,<-fI]at h;cases h;simp only[pD,P0,fI,yC,yB,zC,zD]at h;cases h;simp only[pD,P0,yC,yB,zC,zD]at h;cases h;simp only[pD,yB,zD]at h;cases h
    |_=>simp[hd,dL]at h
   |_=>simp[hd,dL]at h
  |_=>simp[hd,dL]at h
 |_=>simp[hd]at h
def qym{sv x cx:Value}(hs:iY m s.nx sv uR)(hx:iY m s.nx x cx)(h:wJ T s t xt sv x=some (v,bR)):Eff P m s w (Builtin.append_ #[t,xt] ty #[uR,cx]) v bR:=by
 have src:∀{sv uR:Value}{a:V Addr},iY m s.nx sv uR->yO T s t xt sv (.slice none 0 0)=some (v,bR)->Eff P m s w (Builtin.append_ #[t,xt] ty #[uR,.slice a 0 0]) v bR:=by
  intro sv uR a hs h;have h0:=h;unfold yO at h;rcases hd:T.und t with _|d;simp[hd]at h;cases d with
  |slice e=>
   rcases dL:T.und xt with _|d2;simp[hd,dL]at h;cases d2 with
   |slice e2=>
    cases sv with
    |slice base n c=>
     simp only[hd,dL]at h;rcases hi:T.inf e with _|y;simp[hi]at h;obtain⟨sz,by_,z⟩:=y;cases sz with
     |zero=>simp[hi]at h|succ sz=>
      have eY:cD T e=some (sz+1):=by simp[cD,hi]
      simp only[hi,Nat.zero_mul,vB,vD,zC]at h;obtain⟨e1,e2,pU⟩:=H_ hf h;subst e1;subst e2;have ecs:uR=.slice (base.map fun a=>⟨m.blk a.block,m.sh a.block+a.off,none⟩) n (pN m base c):=by rw[<-hs.at];cases base<;>simp[ren,pN]
      refine⟨m,w,uR,?_,bT.refl hf,hs⟩;rw[ecs];have:=yd (P:=P) hT (w:=w) (ty:=ty) (w₁:=w) hd dL eY (base:=base.map fun a=>⟨m.blk a.block,m.sh a.block+a.off,none⟩) (n:=n) (xb:=a) (xc:=0) (k:=0) (cnew:=#[]) (Qd _ _ _ _ _) (C:=(pN m base c)) (by simpa using pU) (fun a _=>by simp[storeCells]) (fun _=>rfl);simpa using this
    |_=>simp[hd,dL]at h
   |_=>simp[hd,dL]at h
  |_=>simp[hd]at h
 have tgt:∀{x cx:Value}{a:V Addr}{v':Value}{s':S},(iY m s.nx x cx\/x=.slice none 0 0/\∃b,cx=.slice b 0 0)->yO T s t xt (.slice none 0 0) x=some (v',s')->(v'=.slice none 0 0/\s'=s/\(Builtin.append_ #[t,xt] ty #[.slice a 0 0,cx]).run P w=.ok (.slice a 0 0) w)\/((∃b n c,v'=.slice (some b) n c)/\Eff P m s w (Builtin.append_ #[t,xt] ty #[.slice a 0 0,cx]) v' s'):=by
  intro x cx a v' s' hx h;have Ct:=fun hx=>qn1 (ty:=ty) hT hf (NO (m:=m) (n:=s.nx) (v:=.slice none 0 0) fun _=>by simp[ren]) (cx:=cx) hx h;unfold yO at h;rcases hd:T.und t with _|d
  simp[hd]at h;cases d with
  |slice e=>
   rcases dL:T.und xt with _|d2;simp[hd,dL]at h;cases d2 with
   |slice e2=>
    cases x with
    |slice xb k xc=>
     simp only[hd,dL]at h;rcases hi:T.inf e with _|y;simp[hi]at h;obtain⟨sz,by_,z⟩:=y;cases sz with
     |zero=>simp[hi]at h|succ sz=>
      have eY:cD T e=some (sz+1):=by simp[cD,hi]
      simp only[hi]at h;rcases P4:vB s xb (k*(sz+1))with _|new;simp[P4]at h;simp only[P4]at h;rcases h1:vD new with _|_;simp[h1]at h;simp only[h1,zC]at h;obtain⟨cnew,P6,yZ,jY⟩:=s_ (P:=P) hf P4;have PZ:iY m s.nx (.slice xb k xc) cx->cx=.slice (xb.map fun a=>⟨m.blk a.block,m.sh a.block+a.off,none⟩) k (pN m xb xc):=fun hx=>by rw[<-hx.at];cases xb<;>simp[ren,pN]
      cases k with
      |zero=>
       obtain⟨e1,e2,pU⟩:=H_ (sz:=sz) hf h;refine .inl ⟨e1,e2,?_⟩;have hcx0:∃b c,cx=.slice b 0 c:=by rcases hx with hx |⟨_,b,hb⟩;exact⟨_,_,PZ hx⟩;exact⟨b,0,hb⟩
       obtain⟨b,c,rfl⟩:=hcx0;have:=yd (P:=P) hT (w:=w) (ty:=ty) (w₁:=w) hd dL eY (base:=a) (n:=0) (xb:=b) (xc:=c) (k:=0) (cnew:=#[]) (Qd _ _ _ _ _) (C:=0) (zF _) (fun a _=>by simp[storeCells]) (fun _=>rfl);simpa using this
      |succ k=>
       have bZ:C0 (0+(k+1)) by_=true/\∃b n c,v'=.slice (some b) n c:=by simp only[Gf]at h;have c0:Nat.blt 0 cV=true:=Nat.ble_eq_true_of_le (by simp[cV]);simp only[c0,zC]at h;rcases hr:C0 (0+(k+1)) by_ with _|_;simp only[hr,zD]at h;cases h;simp only[hr,zC]at h;rcases hz:Nat.beq z.cells.toList.length (sz+1)with _|_;simp only[hz,zD]at h;cases h;simp only[hz,zC,zA,zB]at h;exact⟨rfl,_,_,_,h.1.symm⟩
       refine .inr ⟨bZ.2,?_⟩;have hx:iY m s.nx (.slice xb (k+1) xc) cx:=by rcases hx with hx |⟨hx,_⟩;exact hx;cases hx
       obtain⟨aL,w₁,cv,g1,g2,g3⟩:=Ct hx;refine⟨aL,w₁,cv,?_,g2,g3⟩;rw[PZ hx]at g1 ⊢;have q2:=iJ (P:=P) hT (w:=w) (ty:=ty) hd dL hi (base:=none) (n:=0) (C:=0) (cold:=#[]) (fun w' hw=>jY w' hw (k+1) (pN m xb xc)) (fun w' _=>Qd _ _ _ _ _) qq0 bZ.1;have q2':=iJ (P:=P) hT (w:=w) (ty:=ty) hd dL hi (base:=a) (n:=0) (C:=0) (cold:=#[]) (fun w' hw=>jY w' hw (k+1) (pN m xb xc)) (fun w' _=>Qd _ _ _ _ _) qq0 bZ.1;rw[q2',<-q2];exact g1
    |_=>simp[hd,dL]at h
   |_=>simp[hd,dL]at h
  |_=>simp[hd]at h
 have flat:(iY m s.nx (AK x) cx\/AK x=.slice none 0 0/\∃b,cx=.slice b 0 0):=by
  cases x with
  |chan r=>rcases r with _|r;exact .inl hx;have:=hx.at;simp only[ren]at this;exact .inr ⟨rfl,_,this.symm⟩
  |_=>exact .inl hx
 unfold wJ at h;cases hw:C9 sv with
 |false=>simp only[hw,zD]at h;rcases flat with hx |⟨e1,b,rfl⟩;exact qn1 hT hf hs hx h;rw[e1]at h;exact src hs h
 |true=>
  simp only[hw,zC]at h;obtain⟨r,rfl⟩:∃r,sv=.chan (some r):=by
   cases sv with
   |chan r=>cases r with
    |none=>simp[C9]at hw|some r=>exact⟨r,rfl⟩
   |_=>simp[C9]at hw
  have ecs:=hs.at;simp only[ren]at ecs;rcases ha:yO T s t xt (.slice none 0 0) (AK x)with _|q;simp[ha]at h;obtain⟨v',s'⟩:=q;rcases tgt (a:=some ⟨m.blk r,m.sh r,some (m.cp r)⟩) flat ha with⟨e1,e2,dG⟩|⟨⟨b,n,c,e1⟩,Ct⟩;rw[ha,e1]at h;simp only[zA,zB]at h;obtain⟨rfl,rfl⟩:=h;exact⟨m,w,uR,by rw[<-ecs];exact dG,bT.refl hf,hs⟩;rw[ha,e1]at h;simp only[zA,zB]at h;obtain⟨rfl,rfl⟩:=h;rw[<-ecs,<-e1];exact Ct
end
variable{m:Nm}
variable{s:S}
variable{w:Nr}
def bT.ghost(h:gD m s w)(b sh cp:Nat):bT m s w (m.set s.nx b sh cp) ⟨s.h,s.nx+1⟩ w:=by refine⟨Nm.agree_set m _ _ _ _,Nat.le_succ _,fun m' ha=>?_,?_,fun _ _ _=>rfl,zF _,rfl,rfl,rfl⟩;have hf:=h m' ((Nm.agree_set m s.nx b sh cp).trans ha (Nat.le_succ _));exact⟨hf.ok,hf.inj,fun i c hc=>Nat.lt_succ_of_lt (hf.bd i c hc)⟩;rintro k ⟨j,d,hd,ho,rfl⟩;have:=(h.fits).bd j d hd;exact .inl ⟨j,d,hd,ho,by simp[Nm.set,show j≠s.nx by omega]⟩
variable{r:Nat}
variable{es:X MapEntry}
variable{cl:Nat}
def qlq(h:Gm s r=some (es,cl)):lk s.h r=some (.inr (es,cl)):=by unfold Gm at h;rcases hl:lk s.h r with _|b;simp[hl]at h;rcases b with x |x<;>simp[hl]at h;rw[h]
def zai{P:DC}(hf:gD m s w){es':X MapEntry}{ces:X MapEntry}{cl':Nat}(hr:Gm s r=some (es,cl))
  (he:∀m',aN s.nx m m'->es'.map (y8 m')=ces):
  ∃w₁,(setObj (m.blk r) (.map ces.toArray cl')).run P w=.ok () w₁/\bT m s w m (aj s r es' cl') w₁:=by have hl:=qlq hr;have hb:w.heap[m.blk r]? = some (.map (es.map (y8 m)).toArray cl):=(hf.fits).ok r _ hl;refine⟨{ w with heap:=w.heap.setIfInBounds (m.blk r) (.map ces.toArray cl') },by simp[setObj,Sem.run,hb],?_⟩;refine bT.write hf hl rfl (fun k hk=>?_) qq4 rfl rfl rfl (zF _) fun m' ha=>?_;exact Array.getElem?_setIfInBounds_ne (Ne.symm hk);have xJ:m'.blk r=m.blk r:=(ha r ((hf.fits).bd r _ hl)).1;have aE:=(hf.fits).size hl;simp only[v8,xJ,he m' ha];exact Array.getElem?_setIfInBounds_self_of_lt aE
def qne(hf:gD m s w)(hr:Gm s r=some (es,cl)):∀m',aN s.nx m m'->es.map (y8 m')=es.map (y8 m):=fun m' ha=>by
 have hl:=qlq hr;have h1:w.heap[m.blk r]? = some (.map (es.map (y8 m)).toArray cl):=(hf.fits).ok r _ hl;have h2:w.heap[m'.blk r]? = some (.map (es.map (y8 m')).toArray cl):=(hf m' ha).ok r _ hl;rw[(ha r ((hf.fits).bd r _ hl)).1,h1]at h2;simp at h2;exact List.map_congr_left fun e P0=>(h2 e P0).symm
section
variable{P:DC}{T:Tb}(hT:j0 P T){m:Nm}{s:S}{w:Nr}(hf:gD m s w)
include hT hf
def qwz{t xt ty:TypeId}{sv x uR cx v:Value}{bR:S}(hs':iY m s.nx sv uR)(hx:iY m s.nx x cx)(h:Oz T s t xt sv x=some (v,bR)):Eff P m s w (Builtin.append_ #[t,xt] ty #[uR,cx]) v bR:=by unfold Oz at h;split at h;rename_i r hr;cases h;exact qym hT hf hs' hx hr;cases h
def z2t{t:TypeId}{x cx v:Value}{lo hi:V Value}{clo chi:V Value}{bR:S}(hx:iY m s.nx x cx)(h1:∀m',aN s.nx m m'->lo.map (ren m')=clo)(h2:∀m',aN s.nx m m'->hi.map (ren m')=chi)
  (h:Gk T s t x lo hi=some (v,bR)):Eff P m s w (Instr.sliceAt t cx clo chi none) v bR:=by
 unfold Gk at h;split at h;rename_i l1 hh p hg;obtain⟨a,c,sz⟩:=p;obtain⟨dG,pU,hC,oT,_⟩:=L_ hT m w hf.fits hg;rw[h1 m (aN.refl _ _),h2 m (aN.refl _ _),hx.at]at dG;cases aE:Nat.blt (l1+1) hh with
 |true=>simp[aE]at h|false=>
  simp only[aE,zD,zA,zB]at h;obtain⟨rfl,rfl⟩:=h;have IK:=kh aE;have heq:hh=l1+1:=by omega
  subst heq;rw[Nat.sub_self]at dG;have key:∀b sh cp,(Instr.sliceAt t cx clo chi none).run P w=.ok (.slice (some ⟨b,sh,none⟩) 0 cp) w->Eff P m s w (Instr.sliceAt t cx clo chi none) (.slice (some ⟨s.nx,0,none⟩) 0 cV) ⟨s.h,s.nx+1⟩:=by intro b sh cp dG;refine⟨_,w,_,dG,bT.ghost hf b sh cp,YQ (zN _) fun m' ha=>?_⟩;rw[Qe];obtain⟨_,_,e3⟩:=C3 m s.nx b sh cp;exact(ha s.nx (zN _)).2.2.trans e3
  by_cases hC:m.cp a.block-cT c=l1+1;rw[if_pos hC]at dG;exact key _ _ _ dG;rw[if_neg hC]at dG;exact key _ _ _ dG
 cases h
end
def AF(m:Nm)(n:Nat)(tm:X Value)(a:Act):Prop:=∀m',aN n m m'->a.tmps=⟨aJ m' tm⟩
variable{m:Nm}
variable{n:Nat}
variable{tm:X Value}
variable{a:Act}
def AF.ext{m':Nm}{n':Nat}(h:AF m n tm a)(ha:aN n m m')(hn:n<=n'):AF m' n' tm a:=fun k hk=>h k (ha.trans hk hn)
variable{v:Value}
def AF.evalO(h:AF m n tm a){x:Xt}(hx:evalO tm x=some v):iY m n v (a.eval x):=fun m' ha=>(oP (h m' ha) hx).symm
def z68(m:Nm)(tm:X Value)(d:Nat)(v:Value):aJ m (tm.set d v)=(aJ m tm).set d (ren m v):=by simp[mD,List.map_set]
def AF.put{m:Nm}{n:Nat}{tm:X Value}{a:Act}(h:AF m n tm a){v cv:Value}(hv:iY m n v cv)(d:V Tmp):AF m n (BX tm d v) (a.put d cv):=fun m' ha=>by
 rcases d with _|d;exact h m' ha;simp only[Act.put,BX,h m' ha,z68,hv m' ha,List.setIfInBounds_toArray]
section
variable{P:DC}{T:Tb}(hT:j0 P T){m:Nm}{s:S}{w:Nr}(hf:gD m s w)
include hT hf
def Dz(ha:AF m s.nx tm a)(o:Oper){bR:S}(h:AE T tm s o.op=some (v,bR)):
  ∃aL w₁ cv nxt,(execOp a.eval o).run P w=.ok nxt w₁/\(nxt=.value cv\/(nxt=.skip/\cv=undef))/\bT m s w aL bR w₁/\iY aL bR.nx v cv:=by
 obtain⟨dst,op,type,pos,after,guard⟩:=o;simp only at h;have eK:∀{x:Sem Value},Eff P m s w x v bR->∃aL w₁ cv nxt,(do let y <-x;pure (Next.value y):Sem Next).run P w=.ok nxt w₁/\(nxt=.value cv\/(nxt=.skip/\cv=undef))/\bT m s w aL bR w₁/\iY aL bR.nx v cv:=by rintro x ⟨aL,w₁,cv,h1,h2,h3⟩;exact⟨aL,w₁,cv,_,by simp only[zK,h1,zJ,zL],.inl rfl,h2,h3⟩
 have Vb:∀{x:Sem Unit},qk P m s w x bR/\v=undef->∃aL w₁ cv nxt,(do x;pure Next.skip:Sem Next).run P w=.ok nxt w₁/\(nxt=.value cv\/(nxt=.skip/\cv=undef))/\bT m s w aL bR w₁/\iY aL bR.nx v cv:=by rintro x ⟨⟨aL,w₁,h1,h2⟩,rfl⟩;exact⟨aL,w₁,undef,_,by simp only[zK,h1,zJ,zL],.inr ⟨rfl,rfl⟩,h2,NO fun _=>by simp[undef,ren,aJ]⟩
 unfold AE at h;cases op with
 |alloc e=>simp only at h;rcases hi:T.inf e with _|x;simp[hi]at h;obtain⟨x1,x2,z⟩:=x;simp only[hi,zA,zB]at h;obtain⟨rfl,rfl⟩:=h;have hz:=(NG hT m w hi).1;have CF:=kn hT hi;simp only at hz CF;refine eK ⟨_,_,.pointer (some ⟨w.heap.size,0,none⟩),?_,xw hf (qnp CF) e 0,qwe _ _ _ _ (zN _)⟩;simp[Instr.alloc,hz,newVar,Go.newRow]
 |box e x=>simp only at h;rcases hx:evalO tm x with _|u;simp[hx]at h;simp only[hx,zA,zB]at h;obtain⟨rfl,rfl⟩:=h;refine eK ⟨_,_,.pointer (some ⟨w.heap.size,0,none⟩),?_,xw hf (ha.evalO hx).cells e 0,qwe _ _ _ _ (zN _)⟩;simp[Instr.box,newVar,Go.newRow]
 |store t p x=>simp only at h;rcases hp:evalO tm p with _|u;simp[hp]at h;rcases hx:evalO tm x with _|u';simp[hp,hx]at h;simp only[hp,hx]at h;exact Vb (z6g hT hf (ha.evalO hp) (ha.evalO hx) h)
 |buildSlice t n ps=>
  simp only at h;rcases hp:GY tm ps.toList with _|qs;simp[hp]at h;simp only[hp]at h;have e1:(ps.map fun(i,x)=>(i,a.eval x))=(ps.toList.map fun p=>(p.1,a.eval p.2)).toArray:=by cases ps;simp
  have:=qt3 hT hf (cps:=ps.toList.map fun p=>(p.1,a.eval p.2)) (fun m' jR=>(u_ (ha m' jR) hp).symm) h;simp only[execOp];rw[e1];exact eK this
 |makeSlice t l c=>simp only at h;rcases hp:evalO tm l with _|u;simp[hp]at h;rcases hx:evalO tm c with _|u';simp[hp,hx]at h;simp only[hp,hx]at h;exact eK (z9m hT hf (ha.evalO hp) (ha.evalO hx) h)
 |makeMap t r=>cases r with|some r=>simp at h|none=>simp only[zA,zB]at h;obtain⟨rfl,rfl⟩:=h;refine eK ⟨_,_,.map (some w.heap.size),?_,bT.alloc hf (.map #[] 0) (.inr ([],0)) 0 ?_,fun m' jR=>?_⟩;simp[Instr.makeMap];intro m' jR;have e1:=(jR s.nx (zN _)).1;simp only[v8,e1,(C3 m s.nx w.heap.size 0 0).1];show(w.heap.push _)[w.heap.size]? = _;simp;have e1:=(jR s.nx (zN _)).1;simp only[ren,e1,(C3 m s.nx w.heap.size 0 0).1]
 |slice t x lo hi mx=>
  cases mx with|some _=>simp at h|none=>
  simp only at h;rcases hx:evalO tm x with _|u;simp[hx]at h;rcases h1:v7 tm lo with _|l;simp[hx,h1]at h;rcases h2:v7 tm hi with _|hh;simp[hx,h1,h2]at h;simp only[hx,h1,h2]at h;exact eK (z2t hT hf (ha.evalO hx) (fun m' jR=>(Hs (ha m' jR) h1).symm) (fun m' jR=>(Hs (ha m' jR) h2).symm) h)
 |call c=>
  obtain⟨callee,args,ats⟩:=c;simp only at h;cases callee with
  |builtin b=>
   cases b with
   |append=>
    simp only at h;rcases hx:oN tm args.toList with _|vs;simp[hx]at h;rcases vs with _ |⟨x,_ |⟨y,_ |⟨z,l⟩⟩⟩;simp[hx]at h;simp[hx]at h;obtain⟨ats⟩:=ats;rcases ats with _ |⟨t,_ |⟨xt,_ |⟨q,r⟩⟩⟩;simp[hx]at h;simp[hx]at h;simp only[hx]at h;have e0:=L3 (ha m (aN.refl _ _)) hx;simp only[aJ]at e0;have r1:iY m s.nx x (ren m x):=fun m' jR=>by have e1:=L3 (ha m' jR) hx;rw[e0]at e1;simp only[aJ]at e1;simp at e1;exact e1.1.symm
    have r2:iY m s.nx y (ren m y):=fun m' jR=>by have e1:=L3 (ha m' jR) hx;rw[e0]at e1;simp only[aJ]at e1;simp at e1;exact e1.2.symm
    obtain⟨aL,w₁,cv,g1,g2,g3⟩:=qwz hT hf (ty:=type) r1 r2 h;refine⟨aL,w₁,cv,.value cv,?_,.inl rfl,g2,g3⟩;simp only[execOp,zK,resolve,zL,zJ,invoke,builtin,e0];rw[g1];rfl;simp[hx]at h;simp[hx]at h
   |_=>simp at h
  |_=>simp at h
 |_=>simp at h
end
def Gv(P:DC)(call:F9):Prop :=
 ∀f args s v bR,call f args s=some (v,bR)->∀m w cargs,gD m s w->nS m s.nx args cargs->
  Calls P f cargs.toArray w fun e w₁=>∃aL cv,e=.returned cv/\bT m s w aL bR w₁/\iY aL bR.nx v cv
section
variable{P:DC}{T:Tb}(hT:j0 P T){call:F9}(hC:Gv P call)
include hT
def qqb(ha:AF m n tm a)(o:Oper)(w:Nr){f:FuncId}{args:X Value}(h:callOf T tm o.op=some (f,args)):
  ∃cargs,(execOp a.eval o).run P w=.ok (.enter f cargs.toArray) w/\nS m n args cargs:=by
 obtain⟨dst,op,type,pos,after,guard⟩:=o;simp only at h;unfold callOf at h;cases op with
 |call c=>
  obtain⟨callee,a7,ats⟩:=c;simp only at h;cases callee with
  |value g=>
   simp only at h;rcases hg:evalO tm g with _|u;simp[hg]at h;cases u with
   |func fn first cap=>
    cases fn with
    |func k=>
     simp only[hg]at h;rcases hk:T.fn k with _|fn;simp[hk]at h;simp only[hk]at h;rcases hb:fn.body.isSome with _|_;simp[hb]at h;simp only[hb,zC]at h;rcases hl:oN tm a7.toList with _|vs;simp[hl]at h;simp only[hl,zA,zB]at h;obtain⟨rfl,rfl⟩:=h;obtain⟨Cq,Vu⟩:=hT.fn k fn hk;obtain⟨first⟩:=first
     obtain⟨cap⟩:=cap;have e0:=oP (ha m (aN.refl _ _)) hg;have e1:=L3 (ha m (aN.refl _ _)) hl;refine⟨aJ m first++aJ m vs++aJ m cap,?_,fun m' jR=>?_⟩;have hnb:fn.body.isNone=false:=by cases hbb:fn.body<;>simp_all
     simp only[ren,lY]at e0;simp only[execOp,zK,resolve,e0,e1,Deferred.ofValue,zL,zJ,invoke,callFunc,run_program,Cq,Vu hb,hnb,Bool.false_eq_true,if_false];simp;have Eb:=oP (ha m' jR) hg;have Ea:=L3 (ha m' jR) hl;rw[e0]at Eb;rw[e1]at Ea;simp only[ren,lY]at Eb;simp at Eb Ea;rw[L7,L7,Eb.1,Eb.2,Ea]
    |_=>simp[hg]at h
   |_=>simp[hg]at h
  |_=>simp at h
 |_=>simp at h
include hC
def SY{s:S}{w:Nr}(hf:gD m s w)(ha:AF m s.nx tm a)(o:Oper){bR:S}(h:yR T call tm s o.op=some (v,bR))
  {next:Act->Nr->Prop} {Q:Exit->Act->Nr->Prop} (hn:∀aL w₁ cv,bT m s w aL bR w₁->iY aL bR.nx v cv->next (a.put o.dst cv) w₁):o.wp P a w next Q:=by
 unfold yR at h;unfold Oper.wp;cases h1:jN T tm o.op with
 |some u=>simp only[h1,zA,zB]at h;obtain⟨rfl,rfl⟩:=h;have dG:=fun m' jR=>za4 hT m' w (ha m' jR) o h1;rw[dG m (aN.refl _ _)];refine hn m w _ (bT.refl hf) fun m' jR=>?_;have e1:=dG m' jR;rw[dG m (aN.refl _ _)]at e1;simp at e1;exact e1.symm
 |none=>
  simp only[h1]at h;cases h2:v6 T tm s o.op with
  |some u=>simp only[h2,zA,zB]at h;obtain⟨rfl,rfl⟩:=h;have dG:=fun m' jR=>ni hT m' w (hf m' jR) (ha m' jR) o h2;rw[dG m (aN.refl _ _)];refine hn m w _ (bT.refl hf) fun m' jR=>?_;have e1:=dG m' jR;rw[dG m (aN.refl _ _)]at e1;simp at e1;exact e1.symm
  |none=>
   simp only[h2]at h;cases h3:AE T tm s o.op with
   |some r=>simp only[h3,zA]at h;subst h;obtain⟨aL,w₁,cv,nxt,g1,g2,g3,g4⟩:=Dz hT hf ha o h3;rw[g1];rcases g2 with rfl |⟨rfl,rfl⟩;exact hn aL w₁ cv g3 g4;exact hn aL w₁ undef g3 g4
   |none=>simp only[h3]at h;rcases h4:callOf T tm o.op with _|q;simp[h4]at h;obtain⟨f,args⟩:=q;simp only[h4]at h;obtain⟨cargs,g1,g2⟩:=qqb hT ha o w h4;rw[g1];show Calls P f _ w _;refine(hC f args s v bR h m w cargs hf g2).mono ?_;rintro e w₁ ⟨aL,cv,rfl,g3,g4⟩;exact hn aL w₁ cv g3 g4
omit hC hT in
def I_{m:Nm}{tm:X Value}{a:Act}(ha:a.tmps=⟨aJ m tm⟩)(aA:Zu Oper)(o:Oper):Region.wanted o (yielded aA a.tmps)=On aA.toList tm o:=by
 unfold Region.wanted On;rcases o.guard with _|g;rfl;obtain⟨j,want⟩:=g;simp only[yielded,AM,kK,ha];have hj:aA.toList[j]? = aA[j]?:=by simp
 rw[hj];rcases aA[j]? with _|q;simp;simp only[Option.bind_some];rcases hd:q.dst with _|d;simp;simp only[Option.bind_some,List.getElem?_toArray,mD,List.getElem?_map];rcases tm[d]? with _|v;simp;simp only[zM];cases v with
 |pointer p=>cases p<;>simp[ren]|slice p n c=>cases p<;>simp[ren]
 |map r=>cases r<;>simp[ren]|chan r=>cases r<;>simp[ren]
 |bool b=>simp[ren]|_=>simp[ren]
end
def L6{b c:PE}(h:cond b c false=true):b=true/\c=true:=by cases b<;>simp_all
def qxo{l:X Xt}{t:Tmp}(h : .tmp t∈l):t∈tmpsOf l:=by induction l with|nil=>simp at h|cons x l ih=>rcases zI.1 h with rfl |h2;simp[tmpsOf];cases x<;>simp[tmpsOf,ih h2]
section
variable{T:Tb}{tm tm':X Value}{op:Op}
end
variable{k:Nat}
def z09{aZ:X Nat}{es:X Edge}(h:(N0 aZ es).testBit k=true):∃e∈es,Region.binds .any e=true/\(k=e.on\/∃x,aZ[e.on]? = some x/\x.testBit k=true):=by
 induction es with
 |nil=>simp[N0]at h|cons e es ih=>
  simp only[N0,kK]at h;cases hb:Region.binds .any e with
  |false=>simp only[hb,zD]at h;obtain⟨e',h1,h2⟩:=ih h;exact⟨e',by simp[h1],h2⟩
  |true=>simp only[hb,zC,Nat.testBit_or,Bool.or_eq_true]at h;rcases h with(h |h)|h;refine⟨e,by simp,hb,.inl ?_⟩;rw[Nat.testBit_two_pow]at h;simpa using(of_decide_eq_true h).symm;refine⟨e,by simp,hb,.inr ?_⟩;rcases hx:aZ[e.on]? with _|x;simp[hx]at h;simp only[hx]at h;exact⟨x,rfl,h⟩;obtain⟨e',h1,h2⟩:=ih h;exact⟨e',by simp[h1],h2⟩
def U_:∀(l:X Oper)(aZ:X Nat),(dY l aZ).length=aZ.length+l.length/\(dY l aZ).take aZ.length=aZ/\
  ∀i o,l[i]? = some o->(dY l aZ)[aZ.length+i]? = some (N0 ((dY l aZ).take (aZ.length+i)) o.after.toList)
 |[],aZ=>by simp[dY]
 |o::l,aZ=>by
  obtain⟨h1,h2,h3⟩:=U_ l (aZ++[N0 aZ o.after.toList]);simp only[dY];refine⟨by rw[h1];simp;omega,?_,fun i q hq=>?_⟩;have:=congrArg (List.take aZ.length) h2;rw[List.take_take]at this;simpa using this;cases i with
  |zero=>
   simp only[List.getElem?_cons_zero,zA]at hq;subst hq;have e1:(dY l (aZ++[N0 aZ o.after.toList])).take aZ.length=aZ:=by have:=congrArg (List.take aZ.length) h2;rw[List.take_take]at this;simpa using this
   rw[Nat.add_zero,e1];have:=congrArg (fun z=>z[aZ.length]?) h2;simp only[List.getElem?_take]at this;simpa using this
  |succ i=>simp only[zH]at hq;have:=h3 i q hq;simp only[zU,zO,zS]at this;rw[show aZ.length+(i+1)=aZ.length+(0+1)+i by omega];exact this
section
variable(aA:X Oper)
def Pre(i k:Nat):Prop:=∃x,(dY aA [])[i]? = some x/\x.testBit k=true
variable{i:Nat}
def ny(h:Pre aA i k):∃o e,aA[i]? = some o/\e∈o.after.toList/\Region.binds .any e=true/\(k=e.on\/Pre aA e.on k):=by
 obtain⟨x,h1,h2⟩:=h;obtain⟨g1,_,g3⟩:=U_ aA [];have hi:i<aA.length:=by have:=(zG.1 h1).1;simp at g1;omega
 have ho:aA[i]? = some aA[i]:=by simp[hi]
 have:=g3 i _ ho;simp only[zS,Nat.zero_add]at this;rw[h1]at this;simp only[zA]at this;rw[this]at h2;obtain⟨e,he,hb,hk⟩:=z09 h2;refine⟨_,e,ho,he,hb,?_⟩;rcases hk with hk |⟨y,hy,hyk⟩;exact .inl hk;refine .inr ⟨y,?_,hyk⟩;rw[List.getElem?_take]at hy;split at hy;exact hy;cases hy
def z5m{es:X Edge}(h:DW i es=true):∀e∈es,Region.binds .any e=true->e.on<i:=by
 induction es with
 |nil=>simp|cons e es ih=>
  simp only[DW]at h;intro e' zE cK;cases hb:Region.binds .any e with
  |false=>simp only[hb,zD]at h;rcases zI.1 zE with rfl |zE;rw[hb]at cK;cases cK;exact ih h e' zE cK
  |true=>simp only[hb,zC]at h;obtain⟨h1,h2⟩:=L6 h;rcases zI.1 zE with rfl |zE;exact YM h1;exact ih h2 e' zE cK
def qs1{lk:X Tmp}{di:V Tmp}{i mi:Nat}:∀(l:X Oper)(ms:X Nat)(b:Nat),rowOk lk di i mi l ms b=true->∀j o,l[j]? = some o->∃mk,ms[j]? = some mk/\O' lk di i mi (b+j) mk o.dst=true
 |[],_,_,_=>fun j o h=>by simp at h
 |o::l,[],b,h=>by simp[rowOk]at h
 |o::l,mk::ms,b,h=>fun j q hq=>by
  simp only[rowOk]at h;obtain⟨h1,h2⟩:=L6 h;cases j with
  |zero=>simp at hq;subst hq;exact⟨mk,rfl,h1⟩|succ j=>simp only[zH]at hq;obtain⟨mk',g1,g2⟩:=qs1 l ms (b+1) h2 j q hq;exact⟨mk',by simpa using g1,by rw[show b+(j+1)=b+1+j by omega];exact g2⟩
def b?{ms:X Nat}:∀(l:X Oper)(mr:X Nat)(b:Nat),Ny aA ms l mr b=true->∀j o,l[j]? = some o->∃mi,mr[j]? = some mi/\DW (b+j) o.after.toList=true/\rowOk (N5 aA o) o.dst (b+j) mi aA ms 0=true
 |[],_,_,_=>fun j o h=>by simp at h
 |o::l,[],b,h=>by simp[Ny]at h
 |o::l,mi::mr,b,h=>fun j q hq=>by
  simp only[Ny]at h;obtain⟨h1,h2⟩:=L6 h;obtain⟨h2,h3⟩:=L6 h2;cases j with
  |zero=>simp at hq;subst hq;exact⟨mi,rfl,h1,h2⟩|succ j=>simp only[zH]at hq;obtain⟨mi',g1,g2,g3⟩:=b? l mr (b+1) h3 j q hq;refine⟨mi',by simpa using g1,?_,?_⟩;rw[show b+(j+1)=b+1+j by omega];exact g2;rw[show b+(j+1)=b+1+j by omega];exact g3
variable{aA}(dC:YP aA=true)
include dC
def th{o:Oper}(ho:aA[i]? = some o):∀e∈o.after.toList,Region.binds .any e=true->e.on<i:=by obtain⟨_,_,h2,_⟩:=b? aA aA _ 0 dC i o ho;rw[Nat.zero_add]at h2;exact z5m h2
def z2z{o q:Oper}(ho:aA[i]? = some o)(hq:aA[k]? = some q)(OV:i≠k){d:Tmp}(hd:q.dst=some d):o.dst≠some d/\(d∈N5 aA o->Pre aA i k\/Pre aA k i):=by
 obtain⟨mi,h1,_,h3⟩:=b? aA aA _ 0 dC i o ho;obtain⟨mk,h4,h5⟩:=qs1 aA _ 0 h3 k q hq;simp only[Nat.zero_add,O',hd,beq_eq,OV,yB,zD]at h5;have tail:(cond ((N5 aA o).any (Nat.beq d)) (cond (mi.testBit k) true (mk.testBit i)) true=true)->d∈N5 aA o->Pre aA i k\/Pre aA k i:=fun h6 hl=>by have hany:(N5 aA o).any (Nat.beq d)=true:=List.any_eq_true.2 ⟨d,hl,by simp⟩;rw[hany]at h6;simp only[zC]at h6;rcases hb:mi.testBit k with _|_;simp only[hb,zD]at h6;exact .inr ⟨mk,h4,h6⟩;exact .inl ⟨mi,h1,hb⟩
 cases hod:o.dst with|none=>simp only[hod,zD]at h5;exact⟨by simp,tail h5⟩|some d'=>simp only[hod]at h5;by_cases e:d=d';simp[e]at h5;simp only[e,yB,zD]at h5;exact⟨by simpa using fun x=>e x.symm,tail h5⟩
def z86:∀(i k:Nat),Pre aA i k->k<i:=by
 intro i;induction i using Nat.strongRecOn with
 |_ i ih=>intro k h;obtain⟨o,e,h1,h2,h3,h4⟩:=ny aA h;have aE:=th dC h1 e h2 h3;rcases h4 with rfl |h4;exact aE;exact Nat.lt_trans (ih e.on aE k h4) aE
def Closed(aA:X Oper)(L:Nat->Prop):Prop:=∀i o,L i->aA[i]? = some o->∀e∈o.after.toList,Region.binds .any e=true->L e.on
def i?{L:Nat->Prop}(hL:Closed aA L):∀(i k:Nat),L i->Pre aA i k->L k:=by
 intro i;induction i using Nat.strongRecOn with
 |_ i ih=>intro k hi h;obtain⟨o,e,h1,h2,h3,h4⟩:=ny aA h;have aE:=th dC h1 e h2 h3;have he:=hL i o hi h1 e h2 h3;rcases h4 with rfl |h4;exact he;exact ih e.on aE k he h4
def ju{L:Nat->Prop}(hL:Closed aA L)(hi:∀o,aA[i]? = some o->∀e∈o.after.toList,Region.binds .any e=true->L e.on)(h:Pre aA i k):L k:=by obtain⟨o,e,h1,h2,h3,h4⟩:=ny aA h;have he:=hi o h1 e h2 h3;rcases h4 with rfl |h4;exact he;exact i? dC hL e.on k he h4
end
section
variable{P:DC}{T:Tb}(hT:j0 P T){call:F9}(hC:Gv P call)(aA:Zu Oper){tm₀:X Value}{dx:S}{rs:X Rec}{tm':X Value}{s':S}
 (j9:z8l T call aA.toList aA.toList tm₀ dx=some (rs,tm',s')) (dC:YP aA.toList=true) (hrs:z8f T rs (dY aA.toList []) rs (dY aA.toList []) 0=true)
include j9 dC
include hT hC hrs
end
section
variable{P:DC}{T:Tb}(hT:j0 P T){call:F9}(hC:Gv P call)
include hT hC
end
def ZO(n:Nat)(l:X Value):pad n l=l++List.replicate (n-l.length) undef:=by induction n generalizing l with|zero=>simp[pad]|succ n ih=>rcases l with _|⟨v,l⟩;simp[pad,ih,List.replicate_succ];simp[pad,ih]
section
variable{P:DC}{T:Tb}(hT:j0 P T)
include hT
def G'{m:Nm}{s:S}{w:Nr}(hf:Fits m s w){tm:X Value}(F:ResultVar->Sem Value)(hF1:∀t,F (.tmp t)=pure ((⟨aJ m tm⟩:Zu Value).getD t undef))
  (hF2:∀a t,F (.cell a t)=(do loadVar t (<-asAddr ((⟨aJ m tm⟩:Zu Value).getD a undef)))):∀(rs:X ResultVar)(vs:X Value),EY T tm s rs=some vs->(rs.mapM F).run P w=.ok (aJ m vs) w
 |[],vs,h=>by simp[EY]at h;subst h;simp[aJ]
 |.tmp t::rs,vs,h=>by
  simp only[EY,kK]at h;rcases ht:tm[t]? with _|v;simp[ht]at h;simp only[ht]at h;rcases hr:EY T tm s rs with _|l;simp[hr]at h;simp only[hr,zA]at h;subst h;have ih:=G' hf F hF1 hF2 rs l hr;have e1:(⟨aJ m tm⟩:Zu Value).getD t undef=ren m v:=by simp[mD,ht]
  simp only[List.mapM_cons,zK,hF1,zL,zJ,ih,e1,aJ]
 |.cell a t::rs,vs,h=>by
  simp only[EY]at h;rcases ht:v6 T tm s (.load t (.tmp a))with _|v;simp[ht]at h;simp only[ht]at h;rcases hr:EY T tm s rs with _|l;simp[hr]at h;simp only[hr,zA]at h;subst h;have ih:=G' hf F hF1 hF2 rs l hr;simp only[v6,evalO]at ht;rcases Kh:nth tm a with _|u;simp[Kh]at ht;cases u with
  |pointer p=>
   rcases p with _|q;simp[Kh]at ht;simp only[Kh]at ht;rcases hl:lk s.h q.block with _|blk;simp[hl]at ht;rcases blk with⟨l',e,md⟩|x;simp only[hl]at ht;have Vy:=z04 hT m w hf hl ht;rw[kK]at Kh;have e1:(⟨aJ m tm⟩:Zu Value).getD a undef=.pointer (some ⟨m.blk q.block,m.sh q.block+q.off,none⟩):=by simp[mD,Kh,ren]
   simp only[List.mapM_cons,zK,hF2,e1,asAddr,zL,zJ,Vy,ih,aJ];simp[hl]at ht
  |_=>simp[Kh]at ht
def qxz{m:Nm}{s:S}{w:Nr}(hf:Fits m s w){tm:X Value}{fn:Func}{vs:X Value}(h:EY T tm s fn.results.toList=some vs):
  (results fn ⟨aJ m tm⟩).run P w=.ok (ren m (F3 vs)) w:=by unfold results;rw[zK,Array.mapM_eq_mapM_toList,Sem.run_map,G' hT hf _ (fun t=>rfl) (fun a t=>rfl) fn.results.toList vs h];simp only[zJ,zL];congr 1;rcases vs with _ |⟨v,_ |⟨u,l⟩⟩;simp[aJ,F3,ren];simp[aJ,F3];simp[aJ,F3,ren]
end
def oo(P:DC)(t:TypeId):P.info? t=P.types[t]? \/P.types[t]? = none:=by by_cases h:t<P.types.size;exact .inl (by unfold Tables.info?;rw[if_pos h]);exact .inr (Array.getElem?_eq_none (Nat.le_of_not_lt h))
def zar (P : DC) (eqs : X TypeId) (hm : P.follows .mixedOrders = true) (hn : ∀ f ∈ P.funcs.toList, f.body.isSome = true → (f.name == "runtime.NumGoroutine") = false)
  (he:∀t∈eqs,P.stoodInHeld t=false/\P.eqGuardType P.depth t=false):j0 P (DB P eqs) where
 und t d h:=by
  simp only[DB,kK]at h;rcases ht:P.types.toList[t]? with _|i;simp[ht]at h;have hi:P.info? t=some i:=by
   have B7:P.types[t]? = some i:=by simpa using ht
   rcases oo P t with h1 |h1;rw[h1,B7];rw[h1]at B7;cases B7
  simp only[ht]at h;unfold Program.underlying;rw[hi];obtain⟨desc,s1,s2,s3,s4,s5,s6,s7,s8,s9⟩:=i;cases desc with
  |named nm u=>
   simp only at h ⊢;rcases hu:P.types.toList[u]? with _|j;simp[hu]at h;have hj:P.info? u=some j:=by
    have OO:P.types[u]? = some j:=by simpa using hu
    rcases oo P u with h1 |h1;rw[h1,OO];rw[h1]at OO;cases OO
   simp only[hu,zA]at h;rw[hj];simp[h]
  |_=>simpa using h
 inf t a b z h:=by
  simp only[DB,kK]at h;rcases ht:P.types.toList[t]? with _|i;simp[ht]at h;have hi:P.info? t=some i:=by
   have B7:P.types[t]? = some i:=by simpa using ht
   rcases oo P t with h1 |h1;rw[h1,B7];rw[h1]at B7;cases B7
  simp only[ht]at h;rcases hz:i.zero with _|z';simp[hz]at h;simp only[hz]at h;rcases hp:plain z' with _|_;simp[hp]at h;simp only[hp,zC,zA,zB]at h;obtain⟨rfl,rfl,rfl⟩:=h;exact⟨hp,i,hi,rfl,rfl,hz⟩
 fn f g h:=by
  simp only[DB,kK]at h;have h':P.funcs[f]? = some g:=by simpa using h
  exact⟨h',hn g (zX h)⟩
 eqs t h:=by
  simp only[DB]at h;obtain⟨u,hu,e⟩:=List.any_eq_true.1 h;have:t=u:=by simpa[beq_eq]using e
  subst this;exact he t hu
 mixed:=hm
end Go.Rx
