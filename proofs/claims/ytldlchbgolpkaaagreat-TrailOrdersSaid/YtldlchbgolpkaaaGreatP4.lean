import Derived.Laws.Append
import Derived.Test.YtldlchbgolpkaaaGreatP3
set_option linter.all false
namespace Go.Rx
open Go
def Eff(P:Program)(m:Nm)(s:S)(w:World)(x:Sem Value)(v:Value)(bE:S):Prop :=
 ∃aJ w₁ cv,x.run P w=.ok cv w₁/\bP m s w aJ bE w₁/\eN aJ bE.nx v cv
def O2(P:Program)(m:Nm)(s:S)(w:World)(x:Sem Unit)(bE:S):Prop :=
 ∃aJ w₁,x.run P w=.ok () w₁/\bP m s w aJ bE w₁
theorem eN.cells{m:Nm}{n:Nat}{v cv:Value}(h:eN m n v cv):mW m n v.cells.toList cv.cells.toList:=fun m' ha=>by
 rw[<-h m' ha,Xs,kR]
variable{m:Nm}
variable{n:Nat}
variable{l:List Value}
theorem Xw(h:∀m',aI m' l=l):mW m n l l:=fun m' _=>h m'
variable{v:Value}
theorem yT(h:∀m',aH m' v=v):eN m n v v:=fun m' _=>h m'
theorem mW.append{a b ca cb:List Value}(h:mW m n a ca)(h':mW m n b cb):mW m n (a++b) (ca++cb):=fun m' ha=>by
 rw[wG,h m' ha,h' m' ha]
theorem AY(m:Nm)(i b sh cp:Nat):(m.set i b sh cp).blk i=b/\(m.set i b sh cp).sh i=sh/\(m.set i b sh cp).cp i=cp:=by simp[Nm.set]
variable{s:S}
theorem qwr(b sh cp n:Nat)(hn:s.nx<n):eN (m.set s.nx b sh cp) n (.pointer (some ⟨s.nx,0,none⟩)) (.pointer (some ⟨b,sh,none⟩)):=fun m' ha=>by
 obtain⟨h1,h2,_⟩:=ha s.nx hn;obtain⟨e1,e2,_⟩:=AY m s.nx b sh cp;simp[aH,h1,h2,e1,e2]
variable{w:World}
theorem Wt(hf:gE m s w){cl:List Value}(hl:mW m s.nx l cl)(e:TypeId)(cp:Nat):
  bP m s w (m.set s.nx w.heap.size 0 cp) (newRow s l e 0) (w.alloc (.cells ⟨cl⟩ e)):=by
 refine bP.alloc hf _ _ cp fun m' ha=>?_;have rC:aK s.nx m m':=(Nm.agree_set m s.nx w.heap.size 0 cp).trans ha (Nat.le_succ _);obtain⟨h1,h2,_⟩:=ha s.nx (zN _);obtain⟨e1,e2,_⟩:=AY m s.nx w.heap.size 0 cp;refine⟨by rw[h2,e2],?_⟩;rw[h1,e1,hl m' rC];show(w.heap.push _)[w.heap.size]? = _;simp
theorem Yw(hf:gE m s w){cl rest:List Value}(hl:mW m s.nx l cl)(e:TypeId)(cp sz:Nat)(aU:l.length+rest.length=cp*sz):
  bP m s w (m.set s.nx w.heap.size 0 cp) (newRow s l e (sz+2)) (w.alloc (.cells ⟨cl++rest⟩ e)):=by
 refine bP.alloc hf _ _ cp fun m' ha=>?_;have rC:aK s.nx m m':=(Nm.agree_set m s.nx w.heap.size 0 cp).trans ha (Nat.le_succ _);obtain⟨h1,h2,h3⟩:=ha s.nx (zN _);obtain⟨e1,e2,e3⟩:=AY m s.nx w.heap.size 0 cp;refine⟨[],rest,?_,by simp[h2,e2],by rw[h3,e3,aU]⟩;rw[h1,e1,hl m' rC];show(w.heap.push _)[w.heap.size]? = _;simp
theorem pa{e:TypeId}{md:Nat}(h:md≠1):Own (.inl (l,e,md))=true:=by
 rcases md with _ |_ |n<;>simp_all[Own]
theorem Xm{P:Program}(hf:gE m s w){i off:Nat}{l' vs mF:List Value}{e:TypeId}{md:Nat}(hr:cM s i=some (l,e,md))(hp:rV l off vs=some l')
  (hv:mW m s.nx vs mF) (h1:qM vs=true):
  ∃w₁,(storeCells ⟨m.blk i,m.sh i+off,none⟩ mF 0).run P w=.ok () w₁/\bP m s w m ⟨up s.h i (.inl (l',e,md)),s.nx⟩ w₁:=by
 obtain⟨hl,oU⟩:=Yn hr;obtain⟨aU,y3⟩:=qsx hp;have D7:∀v∈mF,v.oneCell'=true:=by rw[<-hv.at];exact qot h1
 have fF:mF.length=vs.length:=by rw[<-hv.at];simp
 rcases md with _ |_ |n;have h0:∀m',aK s.nx m m'->m'.sh i=0/\w.heap[m'.blk i]? = some (.cells (aI m' l).toArray e (0,0)):=fun m' ha=>(hf m' ha).ok i _ hl
 obtain⟨xz,hb⟩:=h0 m (aK.refl _ _);have c8:=run_storeCells_at P (m.blk i) off e mF 0 _ w hb (by simp;omega) D7;simp only[Nat.add_zero]at c8;rw[xz,Nat.zero_add];refine⟨_,c8,bP.write hf hl (pa oU) (fun k hk=>setRow_other w _ k _ hk) (by simp) rfl rfl rfl (zF _) fun m' ha=>?_⟩;obtain⟨L',cQ⟩:=h0 m' ha;have wV:m'.blk i=m.blk i:=(ha i ((hf.fits).bd i _ hl)).1;refine⟨L',?_⟩;rw[wV,setRow_heap w _ _ _ e (0,0) hb];rw[wV]at cQ;have Fj:aI m' l=aI m l:=by have:=hb.symm.trans cQ;simp at this;exact this.symm
 rw[y3,wG,wG,hv m' ha];have e1:aI m' (l.take off)=(aI m l).take off:=by rw[<-Fj];simp[m4,List.map_take]
 have e2:aI m' (l.drop (off+vs.length))=(aI m l).drop (off+mF.length):=by rw[<-Fj,fF];simp[m4,List.map_drop]
 rw[e1,e2];exact absurd rfl oU;have h0:∀m',aK s.nx m m'->∃pr rest,w.heap[m'.blk i]? = some (.cells (pr++aI m' l++rest).toArray e (0,0))/\pr.length=m'.sh i/\l.length+rest.length=m'.cp i*n:=fun m' ha=>(hf m' ha).ok i _ hl;obtain⟨pr,rest,hb,zP,BA⟩:=h0 m (aK.refl _ _);have c8:=run_storeCells_at P (m.blk i) (m.sh i+off) e mF 0 _ w hb (by simp;omega) D7;simp only[Nat.add_zero]at c8;refine⟨_,c8,bP.write hf hl (pa oU) (fun k hk=>setRow_other w _ k _ hk) (by simp) rfl rfl rfl (zF _) fun m' ha=>?_⟩;obtain⟨pr',OJ,cQ,Z',S'⟩:=h0 m' ha;obtain⟨wV,Fi,jp⟩:=ha i ((hf.fits).bd i _ hl);rw[wV]at cQ;have cH:pr'++aI m' l++OJ=pr++aI m l++rest:=by have:=hb.symm.trans cQ;simp at this;simpa using this.symm
 have Qf:pr'=pr/\aI m' l=aI m l/\OJ=rest:=by rw[zT,zT]at cH;obtain⟨e1,e2⟩:=List.append_inj cH (by rw[Z',zP,Fi]);obtain⟨e3,e4⟩:=List.append_inj e2 (by simp);exact⟨e1,e3,e4⟩
 refine⟨pr,rest,?_,by rw[Fi,zP],?_⟩;rw[wV,setRow_heap w _ _ _ e (0,0) hb];rw[y3,wG,wG,hv m' ha];have e1:aI m' (l.take off)=(aI m l).take off:=by rw[<-Qf.2.1];simp[m4,List.map_take]
 have e2:aI m' (l.drop (off+vs.length))=(aI m l).drop (off+mF.length):=by rw[<-Qf.2.1,fF];simp[m4,List.map_drop]
 rw[e1,e2];congr 2;simp only[zT];rw[<-zP,List.take_append,zW (by omega),Nat.add_sub_cancel_left,List.take_append_of_le_length (by simp;omega)];rw[List.drop_append,List.drop_of_length_le (by omega),List.nil_append,show pr.length+off+mF.length-pr.length=off+mF.length by omega,List.drop_append_of_le_length (by simp;omega)];simp;rw[jp,<-BA,y3];simp;omega
section
variable{P:Program}{T:Tb}(hT:kS P T){m:Nm}{s:S}{w:World}(hf:gE m s w)
include hT hf
theorem z4n{t:TypeId}{p cp cv u:Value}{bE:S}(hp:eN m s.nx p cp)(hv:eN m s.nx v cv)(h:Bk T s t p v=some (u,bE)):
  O2 P m s w (Instr.storeAt t cp cv) bE/\u=undef:=by
 unfold Bk at h;cases p with
 |pointer q=>
  rcases q with _|a;simp at h;simp only[beq_eq]at h;rcases hs:cC T t with _|n;simp[hs]at h;simp only[hs]at h;by_cases hn:v.cells.toList.length=n;simp only[hn,yC,zC]at h;rcases h1:qM v.cells.toList with _|_;simp[h1]at h;simp only[h1,zC]at h;rcases hr:cM s a.block with _|r;simp[hr]at h;obtain⟨l,e,md⟩:=r;simp only[hr]at h;rcases hq:rV l a.off v.cells.toList with _|l';simp[hq]at h;simp only[hq,zA,zB]at h;obtain⟨rfl,rfl⟩:=h;refine⟨?_,rfl⟩;obtain⟨w₁,cR,aR⟩:=Xm (P:=P) hf hr hq hv.cells h1;refine⟨m,w₁,?_,aR⟩;have Rl:cp=.pointer (some ⟨m.blk a.block,m.sh a.block+a.off,none⟩):=by rw[<-hp.at];simp[aH]
  have dS:cv.cells.size=n:=by
   have:cv.cells.toList.length=n:=by rw[<-hv.cells.at];simpa using hn
   simpa using this
  subst Rl;simp[Instr.storeAt,Instr.sureAddr,storeVar,n7 hT w hs,dS,cR];simp only[hn,yB,zD]at h;cases h
 |_=>simp at h
omit hT hf in
theorem Jn(z:Array Value)(n:Nat):(Array.range (n*z.size)).map (fun i=>z[i%z.size]!)=⟨bZ z.toList n⟩:=by
 apply Array.ext';simp only[Array.toList_map,Array.toList_range];rcases Nat.eq_zero_or_pos z.size with h0 |fC;have hz:z= #[]:=by simpa using h0
 subst hz;induction n with
 |zero=>simp[bZ]|succ n ih=>simp[bZ]at ih ⊢;exact ih
 induction n with
 |zero=>simp[bZ]|succ n ih=>
  have e:(n+1)*z.size=z.size+n*z.size:=by rw[Nat.add_mul];omega
  rw[e,List.range_add,List.map_append,bZ,<-ih];congr 1;apply List.ext_getElem?;intro i;by_cases hi:i<z.size;simp[hi,Nat.mod_eq_of_lt hi];simp[hi];rw[List.map_map];apply List.map_congr_left;intro i _;simp
omit hT hf in
theorem Xl(z:List Value)(n:Nat):(bZ z n).length=n*z.length:=by
 induction n with|zero=>simp[bZ]|succ n ih=>simp[bZ,ih,Nat.add_mul];omega
omit hT hf in
theorem Kg{z:List Value}(h:∀m',aI m' z=z)(n:Nat)(m':Nm):aI m' (bZ z n)=bZ z n:=by
 induction n with|zero=>simp[bZ,aI]|succ n ih=>simp[bZ,wG,ih,h]
omit hf in
theorem Cs{t:TypeId}{x:Nat×Nat×Value}(h:T.inf t=some x)(m':Nm):aI m' x.2.2.cells.toList=x.2.2.cells.toList:=by
 have:=(G4 hT m' default h).2;rw[<-kR,<-Xs,this]
omit hT hf in
theorem PR{b sh cp n len c c':Nat}(hn:s.nx<n)(hc:∀m',aK n (m.set s.nx b sh cp) m'->bR m' s.nx c=c'):
  eN (m.set s.nx b sh cp) n (.slice (some ⟨s.nx,0,none⟩) len c) (.slice (some ⟨b,sh,none⟩) len c'):=fun m' ha=>by
 obtain⟨h1,h2,_⟩:=ha s.nx hn;obtain⟨e1,e2,_⟩:=AY m s.nx b sh cp;simp[aH,h1,h2,e1,e2,hc m' ha]
theorem quc{t:TypeId}{ps:List (Nat×Value)}{bE:S}{cps:List (Nat×Value)}(Y':∀m',aK s.nx m m'->ps.map (fun p=>(p.1,aH m' p.2))=cps)
  (h:Kj T s t n ps=some (v,bE)):Eff P m s w (Instr.buildSlice t n cps.toArray) v bE:=by
 unfold Kj at h;rcases hd:T.und t with _|d;simp[hd]at h;cases d with
 |slice e=>
  simp only[hd]at h;rcases hi:T.inf e with _|x;simp[hi]at h;obtain⟨sz,by_,z⟩:=x;have dS:cC T e=some sz:=by simp[cC,hi]
  have hz:=fun m'=>G4 hT m' w hi;have tY:=Cs hT hi;simp only at hz tY;simp only[hi,beq_eq]at h;rcases h1:Nat.ble (n*sz) 16777216 with _|_
  simp[h1]at h;simp only[h1,zC]at h;have vR:n*sz<=16777216:=by simpa[Nat.ble_eq]using h1
  by_cases h2:z.cells.toList.length=sz;simp only[h2,yC,zC]at h;rcases h3:CK (fun i=>some (i*sz,sz)) (bZ z.cells.toList n) ps with _|cs;simp[h3]at h;rcases h4:Nat.blt n bS with _|_;simp[h3,h4]at h;have iu:n<bS:=by simpa[Nat.blt_eq]using h4
  simp only[h3,h4,zC,zA,zB]at h;obtain⟨rfl,rfl⟩:=h;have kZ:∀m',aK s.nx m m'->Instr.fill (fun i=>some (i*sz,sz)) ⟨bZ z.cells.toList n⟩ cps=some ⟨aI m' cs⟩:=fun m' ha=>by have:=Jm m' _ ps _ _ h3;rw[Y' m' ha,Kg tY]at this;exact this
  obtain⟨cl,fF⟩:∃cl,mW m s.nx cs cl:=⟨aI m cs,fun m' ha=>by have e1:=kZ m' ha;have e2:=kZ m (aK.refl _ _);rw[e1]at e2;simpa using e2⟩;have gI:z.cells.size=sz:=by simpa using h2
  refine⟨_,_,.slice (some ⟨w.heap.size,0,none⟩) n n,?_,Wt hf fF e 0,?_⟩;have fB:(Array.range (n*sz)).map (fun i=>(if n*sz=0 then(#[]:Array Value)else z.cells)[i%(if n*sz=0 then(#[]:Array Value)else z.cells).size]!)=⟨bZ z.cells.toList n⟩:=by
   by_cases h0:n*sz=0;rw[h0];apply Array.ext';have:(bZ z.cells.toList n).length=0:=by rw[Xl,h2,h0]
   simp[List.length_eq_zero_iff.1 this];simp only[if_neg h0];have:=Jn z.cells n;rw[gI]at this;rw[<-this];simp[gI]
  have K6:=kZ m (aK.refl _ _);rw[fF.at]at K6;have hnot:¬ n*sz>2^24:=by omega
  have MT:=(hz m).1;by_cases h0:n*sz=0;simp only[if_pos h0]at fB;simp only[Instr.buildSlice,zK,gR hT w hd,zJ,n7 hT w dS,Sem.run_ite,if_neg hnot,zL,if_pos h0];rw[fB,K6];simp[Go.newRow];simp only[if_neg h0]at fB;simp only[Instr.buildSlice,zK,gR hT w hd,zJ,n7 hT w dS,Sem.run_ite,if_neg hnot,zL,if_neg h0,MT];rw[fB,K6];simp[Go.newRow];refine PR (zN _) fun m' _=>?_;simp[bR,iu];simp only[h2,yB,zD]at h;cases h
 |_=>simp[hd]at h
end
variable{n:Nat}
theorem qyv{m:Nm}{s:S}{w:World}(hf:gE m s w){b:Option Addr}{cs:List Value}(h:o8 s b n=some cs):
  cs.length=n/\∃K9,mW m s.nx cs K9/\∀a,b=some a->∀j u,K9[j]? = some u->w.cell? ((⟨m.blk a.block,m.sh a.block+a.off,none⟩:Addr).add j)=some u:=by
 cases n with
 |zero=>simp[o8]at h;subst h;exact⟨rfl,[],fun _ _=>by simp[aI],fun _ _ j u hu=>by simp at hu⟩|succ n=>
  simp only[o8]at h;rcases b with _|a;simp at h;simp only at h;rcases hl:lk s.h a.block with _|blk;simp[hl]at h;rcases blk with⟨l,e,md⟩|x;simp only[hl]at h;have hc:∀m',aK s.nx m m'->∀j v,cs[j]? = some v->w.cell? ⟨m.blk a.block,m.sh a.block+(a.off+j),none⟩=some (aH m' v):=fun m' ha j v hj=>by have hr:AU m' a.block l e w md:=(hf m' ha).ok _ _ hl;have:=hr.cell (c? h hj);obtain⟨e1,e2,_⟩:=ha a.block ((hf.fits).bd _ _ hl);rw[e1,e2]at this;exact this
  refine⟨ma h,aI m cs,fun m' ha=>?_,?_⟩;rw[m4,m4];apply List.map_congr_left;intro v hv;obtain⟨j,hj⟩:=List.getElem?_of_mem hv;have e1:=hc m' ha j v hj;have e2:=hc m (aK.refl _ _) j v hj;rw[e1]at e2;simpa using e2;rintro _ ⟨rfl⟩ j u hu;rw[m4,List.getElem?_map]at hu;rcases hj:cs[j]? with _|v;simp[hj]at hu;simp[hj]at hu;subst hu;rw[wD,Nat.add_assoc];exact hc m (aK.refl _ _) j v hj;simp[hl]at h
theorem z4o(x K d n k z:Nat):x+K*z-(x+d*z+n*z+k*z)=(K-(d+n+k))*z:=by
 rw[Nat.sub_mul,Nat.add_mul,Nat.add_mul];omega
theorem z2s(n k K d:Nat)(h:n+k<=K-d):n+k+(K-(d+n+k))=K-d:=by omega
def lW(m:Nm):Option Addr->Nat->Nat
 |none,c=>c|some a,c=>bR m a.block c
theorem bP.rename{m:Nm}{s:S}{w w':World}(h:gE m s w){i:Nat}{b b':lB}(hb:lk s.h i=some b)(K1:Own b=true)(sh' cp':Nat)
  (hw:∀k,k≠m.blk i->w'.heap[k]? = w.heap[k]?) (dS:w'.heap.size=w.heap.size) (h1:w'.os=w.os) (h2:w'.tape=w.tape) (h3:w'.output=w.output) (_h4:w.drawn<=w'.drawn)
  (hc:∀m',aK (s.nx+1) (m.set s.nx (m.blk i) sh' cp') m'->wB m' s.nx w' b'):
  bP m s w (m.set s.nx (m.blk i) sh' cp') ⟨(s.nx,b')::rm s.h i,s.nx+1⟩ w':=by
 have wV:i<s.nx:=(h.fits).bd i b hb;have key:∀j d,s.nx≠j->lk ((s.nx,b')::rm s.h i) j=some d->lk s.h j=some d/\i≠j:=fun j d hj hd=>by simp only[m5,hj,if_false,Ux]at hd;by_cases e:i=j;simp[e]at hd;simp only[e,if_false]at hd;exact⟨hd,e⟩
 refine⟨Nm.agree_set m _ _ _ _,Nat.le_succ _,?_,?_,?_,by omega,h1,h2,h3⟩;intro m' ha;have rC:aK s.nx m m':=(Nm.agree_set m s.nx (m.blk i) sh' cp').trans ha (Nat.le_succ _);have hf:=h m' rC;have gY:m'.blk s.nx=m.blk i:=by have:=(ha s.nx (zN _)).1;simpa[Nm.set]using this
 have ao:m'.blk i=m.blk i:=(rC i wV).1;refine⟨fun j d hd=>?_,fun j k d d' hd bD D8 ho=>?_,fun j d hd=>?_⟩;by_cases e:s.nx=j;subst e;simp only[m5,if_true,zA]at hd;subst hd;exact hc m' ha;obtain⟨bD,mO⟩:=key j d e hd;refine(hf.ok j d bD).world (hw _ ?_);rw[<-ao];exact fun x=>hf.inj i j b d hb bD mO K1 x.symm;by_cases e:s.nx=j;subst e;obtain⟨hk,D9⟩:=key k d' D8 bD;rw[gY,<-ao];exact hf.inj i k b d' hb hk D9 K1;obtain⟨hj,mO⟩:=key j d e hd;by_cases e2:s.nx=k;subst e2;rw[gY,<-ao];exact fun x=>hf.inj i j b d hb hj mO K1 x.symm;obtain⟨hk,D9⟩:=key k d' e2 bD;exact hf.inj j k d d' hj hk D8 ho;by_cases e:s.nx=j;subst e;exact zN _;exact Nat.lt_succ_of_lt (hf.bd j d (key j d e hd).1);rintro k ⟨j,d,hd,ho,rfl⟩;left;by_cases e:s.nx=j;subst e;exact⟨i,b,hb,K1,by simp[Nm.set]⟩;obtain⟨hj,_⟩:=key j d e hd;have:=(h.fits).bd j d hj;exact⟨j,d,hj,ho,by simp[Nm.set,show j≠s.nx by omega]⟩;intro k hk hn;exact hw k fun e=>hn ⟨i,b,hb,K1,e.symm⟩
theorem gC(z:Array Value)(n:Nat):(Builtin.zeroCells z n).size=n*z.size:=by simp[Builtin.zeroCells]
theorem qpc{b:Nat}(h:w8 n b=true):n*b<=140737488355328/\n<=140737488355328:=by
 unfold w8 at h;rcases h1:Nat.ble (n*b) 140737488355328 with _|_;simp[h1]at h;simp only[h1,zC]at h;exact⟨by simpa[Nat.ble_eq]using h1,by simpa[Nat.ble_eq]using h⟩
theorem Cu(m:Nm)(i:Nat):bR m i bS=m.cp i:=by simp[bR,bN]
section
variable{P:Program}{T:Tb}(hT:kS P T){m:Nm}{s:S}{w:World}(hf:gE m s w)
include hT hf
variable{t:TypeId}
variable{v:Value}
variable{bE:S}
theorem z76{l c cl cc:Value}(hl:eN m s.nx l cl)(hc:eN m s.nx c cc)(h:Gc T s t l c=some (v,bE)):Eff P m s w (Instr.makeSlice t cl cc) v bE:=by
 unfold Gc at h;rcases hd:T.und t with _|d;simp[hd]at h;cases d with
 |slice e=>
  simp only[hd]at h;cases l with
  |int k1 a=>
   cases c with
   |int k2 b=>
    simp only at h;have e1:cl=.int k1 a:=by rw[<-hl.at];simp[aH]
    have e2:cc=.int k2 b:=by rw[<-hc.at];simp[aH]
    subst e1 e2;rcases hi:T.inf e with _|x;simp[hi]at h;obtain⟨sz,by_,z⟩:=x;have dS:cC T e=some sz:=by simp[cC,hi]
    have hz:=fun m'=>G4 hT m' w hi;have tY:=Cs hT hi;simp only at hz tY;obtain⟨_,i,R5,Qv,R4,hi4⟩:=hT.inf e _ _ _ hi;simp only[hi,beq_eq]at h;cases Fe:IntKind.i64.wrap a with
    |negSucc x=>simp[Fe]at h|ofNat n=>
     cases Pt:IntKind.i64.wrap b with
     |negSucc x=>simp[Fe,Pt]at h|ofNat k=>
      simp only[Fe,Pt]at h;rcases h1:Nat.ble n k with _|_;simp[h1]at h;rcases h2:Nat.ble (by_*k) 281474976710656 with _|_;simp[h1,h2]at h;by_cases h3:z.cells.toList.length=sz;rcases h4:Nat.blt k bS with _|_;simp only[h1,h2,h3,h4,zC,yC,zD]at h;cases h;simp only[h1,h2,h3,h4,zC,yC,zA,zB]at h;obtain⟨rfl,rfl⟩:=h;have vR:n<=k:=by simpa[Nat.ble_eq]using h1
      have F2:by_*k<=281474976710656:=zY h2;have iu:k<bS:=by simpa[Nat.blt_eq]using h4
      have gI:z.cells.size=sz:=by simpa using h3
      refine⟨_,_,.slice (some ⟨w.heap.size,0,none⟩) n k,?_,Wt hf (Xw (Kg tY k)) e 0,?_⟩;have Y9:∀q:Nat,q<=k->(decide ((q:Int)<0)||decide ((i.bytes:Int)*(q:Int)>2^48))=false:=by intro q hq;have:by_*q<=281474976710656:=Nat.le_trans (Nat.mul_le_mul_left _ hq) F2;have h':((by_*q:Nat):Int)<=((281474976710656:Nat):Int):=Int.ofNat_le.2 this;simp only[Bool.or_eq_false_iff,decide_eq_false_iff_not,R4];refine⟨by omega,?_⟩;rw[Int.natCast_mul]at h';simp only[gt_iff_lt,Int.not_lt];exact h'
      have fB:(Array.range (k*sz)).map (fun i=>(if k*sz=0 then(#[]:Array Value)else z.cells)[i%(if k*sz=0 then(#[]:Array Value)else z.cells).size]!)=⟨bZ z.cells.toList k⟩:=by
       by_cases h0:k*sz=0;rw[h0];apply Array.ext';have:(bZ z.cells.toList k).length=0:=by rw[Xl,h3,h0]
       simp[List.length_eq_zero_iff.1 this];simp only[if_neg h0];have:=Jn z.cells k;rw[gI]at this;rw[<-this];simp[gI]
      have hJ:(((decide ((k:Int)<0)||decide ((i.bytes:Int)*(k:Int)>2^48))||decide ((n:Int)<0))||decide ((n:Int)>(k:Int)))=false:=by rw[Y9 k (zF _)];simp;omega
      have tu:IntKind.i64.wrap a=(n:Int):=Fe;have tq:IntKind.i64.wrap b=(k:Int):=Pt;have MT:=(hz m).1;simp only[Instr.makeSlice,zK,gR hT w hd,zJ,asInt,asIntOf,zL,typeInfo,run_program,R5,tu,tq,Sem.run_ite,hJ,Bool.false_eq_true,if_false,run_askRoom,zZ,n7 hT w dS];by_cases h0:k*sz=0;simp only[if_pos h0]at fB;simp only[if_pos h0];rw[fB];simp[Go.newRow];simp only[if_neg h0]at fB;simp only[if_neg h0,MT,zJ];rw[fB];simp[Go.newRow];refine PR (zN _) fun m' _=>?_;simp[bR,iu];simp only[h1,h2,h3,zC,yB,zD]at h;cases h
   |_=>simp at h
  |_=>simp at h
 |_=>simp[hd]at h
omit hf in
theorem Ls{t xt ty e e2:TypeId}{size:Nat}(ht:T.und t=some (.slice e))(hx:T.und xt=some (.slice e2))(hs:cC T e=some size){base xb:Option Addr}{n C k xc:Nat}{cnew:Array Value}{w₁:World}
  (gY:(Builtin.firstCells size k (.slice xb k xc)).run P w=.ok cnew w) (bI:n+k<=C)
  (c8:∀a,base=some a->(storeCells (a.add (n*size)) cnew.toList).run P w=.ok () w₁) (hJ:base=none->w₁=w):
  (Builtin.append_ #[t,xt] ty #[.slice base n C,.slice xb k xc]).run P w=.ok (.slice base (n+k) C) w₁:=by
 cases base with|none=>rw[hJ rfl];simp[Builtin.append_,gR hT w ht,gR hT w hx,n7 hT w hs,Builtin.lenOf,bI,gY]|some a=>simp[Builtin.append_,gR hT w ht,gR hT w hx,n7 hT w hs,Builtin.lenOf,bI,gY,c8 a rfl]
omit hf in
theorem iN{t xt ty e e2:TypeId}{size by_:Nat}{z:Value}(ht:T.und t=some (.slice e))(hx:T.und xt=some (.slice e2))(hi:T.inf e=some (size,by_,z)){base xb:Option Addr}{n C k xc:Nat}{cnew cold:Array Value}
  (gY:∀w',w'.heap=w.heap->(Builtin.firstCells size k (.slice xb k xc)).run P w'=.ok cnew w') (mN:∀w',w'.heap=w.heap->(Builtin.firstCells size n (.slice base n C)).run P w'=.ok cold w')
  (bI:C<n+k) (hr:w8 (n+k) by_=true):
  (Builtin.append_ #[t,xt] ty #[.slice base n C,.slice xb k xc]).run P w=
   .ok (.slice (some ⟨w.heap.size,0,none⟩) (n+k) ((Question.appendCap (n+k) C e).cut (w.tape w.drawn (.appendCap (n+k) C e)))) ((w.drew).alloc (.cells (cold++cnew++Builtin.zeroCells z.cells (((Question.appendCap (n+k) C e).cut (w.tape w.drawn (.appendCap (n+k) C e)))-(n+k))) e)):=by
 obtain⟨r1,r2⟩:=qpc hr;obtain⟨_,i,R5,Qv,R4,hi4⟩:=hT.inf e _ _ _ hi;have hs:cC T e=some size:=by simp[cC,hi]
 have g1:¬ n+k<=C:=by omega
 have g2:¬ (((n+k:Nat):Int)>IntKind.i64.max/\(False\/i.bytes=0)):=by rw[IntKind.max_i64];omega
 have g3:¬ Builtin.nextslicecap (n+k) C*i.bytes>2^48:=by have:=growslice_fits (bytes:=i.bytes) bI (by rw[R4];exact r1);omega
 have hn:=gY w.drew rfl;have ho:=mN w.drew rfl;have K8:({ w with drawn:=w.drawn+1 }:World)=w.drew:=rfl;have hz:(zeroValue e).run P w.drew=.ok z w.drew:=(G4 hT (⟨id,id,id⟩:Nm) w.drew hi).1;simp[Builtin.append_,gR hT w ht,gR hT w hx,n7 hT w hs,Builtin.lenOf,if_neg g1,typeInfo,R5];have g2':¬ (9223372036854775807<(n:Int)+(k:Int)/\i.bytes=0):=by omega
 have g3':¬ 281474976710656<Builtin.nextslicecap (n+k) C*i.bytes:=g3;have hff:(Question.appendCap (n+k) C e).forced=false:=rfl;simp only[if_neg g2',if_neg g3',hff,Bool.false_eq_true,if_false,ho,hn,hz,zJ];simp[Go.newRow];rfl
omit hf in
theorem qlo{t xt ty e e2:TypeId}{size by_:Nat}{z:Value}(ht:T.und t=some (.slice e))(hx:T.und xt=some (.slice e2))(hi:T.inf e=some (size,by_,z)){base xb:Option Addr}{n C k xc:Nat}{cnew cold:Array Value}
  (gY:∀w',w'.heap=w.heap->(Builtin.firstCells size k (.slice xb k xc)).run P w'=.ok cnew w') (mN:∀w',w'.heap=w.heap->(Builtin.firstCells size n (.slice base n C)).run P w'=.ok cold w')
  (bI:C<n+k) (hr:w8 (n+k) by_=true):
  ∃nc,n+k<=nc/\(Builtin.append_ #[t,xt] ty #[.slice base n C,.slice xb k xc]).run P w=
   .ok (.slice (some ⟨w.heap.size,0,none⟩) (n+k) nc) ((w.drew).alloc (.cells (cold++cnew++Builtin.zeroCells z.cells (nc-(n+k))) e)):=
 ⟨_,by simp[Question.cut],iN hT ht hx hi gY mN bI hr⟩
omit hT in
theorem Jy{b:Option Addr}{n size:Nat}{cs:List Value}(h:o8 s b (n*size)=some cs):
  ∃K9,mW m s.nx cs K9/\cs.length=n*size/\∀w',w'.heap=w.heap->∀len cap,(Builtin.firstCells size n (.slice (b.map fun a=>⟨m.blk a.block,m.sh a.block+a.off,none⟩) len cap)).run P w'=.ok ⟨K9⟩ w':=by
 obtain⟨h1,K9,h2,h3⟩:=qyv hf h;refine⟨K9,h2,h1,fun w' hw len cap=>?_⟩;have hl:K9.length=n*size:=by rw[<-h2.at];simp[h1]
 cases b with
 |none=>
  have:n*size=0:=by cases hz:n*size with|zero=>rfl|succ k=>rw[hz]at h;simp[o8]at h
  have:K9=[]:=List.length_eq_zero_iff.1 (by omega);subst this;simp[Builtin.firstCells]
 |some a=>exact run_firstCells_some w' size n _ len cap K9 hl (fun j u hu=>by have:=h3 a rfl j u hu;rw[<-this];simp[World.cell?,hw])
omit hT in
theorem z7r{i c sz:Nat}{l:List Value}{e:TypeId}(hl:lk s.h i=some (.inl (l,e,sz+1+2))){off n:Nat}(ho:off=bN c*(sz+1))(hn:off+n*(sz+1)<=l.length):n+bN c<=m.cp i:=by
 obtain⟨pr,rest,_,_,h3⟩:=(hf.fits).ok i _ hl;have:(n+bN c)*(sz+1)<=m.cp i*(sz+1):=by rw[Nat.add_mul];omega
 exact Nat.le_of_mul_le_mul_right this (by omega)
variable{xt:TypeId}
variable{ty:TypeId}
variable{rK:Value}
theorem qxc{e e2:TypeId}{sz by_:Nat}{z:Value}(hd:T.und t=some (.slice e))(d6:T.und xt=some (.slice e2))(hi:T.inf e=some (sz+1,by_,z)){a:Addr}{l p new cnew:List Value}{c k:Nat}{xb:Option Addr}{xc:Nat}
  (hr:cM s a.block=some (l,e,sz+1+2)) (dN:a.off=bN c*(sz+1)) (hc:¬ c<bS) (bI:w8 (n+(k+1)) by_=true) (vM:z.cells.toList.length=sz+1)
  (hg:v8 l a.off (n*(sz+1))=some p) (DB:mW m s.nx new cnew) (uQ:new.length=(k+1)*(sz+1)) (h1:qM new=true)
  (gH:∀w',w'.heap=w.heap->∀len cap,(Builtin.firstCells (sz+1) (k+1) (.slice (xb.map fun a=>⟨m.blk a.block,m.sh a.block+a.off,none⟩) len cap)).run P w'=.ok ⟨cnew⟩ w')
  {cx:Value} (sK:cx=.slice (xb.map fun a=>⟨m.blk a.block,m.sh a.block+a.off,none⟩) (k+1) (lW m xb xc)) (ecs:rK=.slice ((some a).map fun a=>⟨m.blk a.block,m.sh a.block+a.off,none⟩) n (lW m (some a) c)):
  Eff P m s w (Builtin.append_ #[t,xt] ty #[rK,cx]) (.slice (some ⟨s.nx,0,none⟩) (n+(k+1)) bS) ⟨(s.nx,.inl (p++new,e,sz+1+2))::rm s.h a.block,s.nx+1⟩:=by
 have dS:cC T e=some (sz+1):=by simp[cC,hi]
 obtain⟨hl,oU⟩:=Yn hr;obtain⟨BD,xY⟩:=Jo hg;have nF:=ma hg;have fY:lW m (some a) c=m.cp a.block-bN c:=by simp[lW,bR,hc]
 have gN:=(hf.fits).bd _ _ hl;have Rp:o8 s (some a) (n*(sz+1))=some p:=by cases hn:n*(sz+1)with|zero=>rw[hn]at nF;simp[o8,List.length_eq_zero_iff.1 nF]|succ q=>rw[hn]at hg;simp[o8,hl,hg]
 obtain⟨cold,wS,_,uU⟩:=Jy (P:=P) hf Rp;have fF:cnew.length=(k+1)*(sz+1):=by rw[<-DB.at];simp[uQ]
 rw[fY]at ecs;by_cases sG:n+(k+1)<=m.cp a.block-bN c
 ·-- gK is room
  obtain⟨pr,rest,hb,zP,BA⟩:=(hf.fits).ok _ _ hl;have Pv:a.off+n*(sz+1)+cnew.length<=l.length+rest.length:=by rw[BA,dN,fF,<-Nat.add_mul,<-Nat.add_mul];exact Nat.mul_le_mul_right _ (by omega)
  have D7:∀v∈cnew,v.oneCell'=true:=by rw[<-DB.at];exact qot h1
  have tp:(pr++aI m l++rest).length=m.sh a.block+(l.length+rest.length):=by simp[zP]
  have c8:=run_storeCells_at P (m.blk a.block) (m.sh a.block+a.off+n*(sz+1)) e cnew 0 _ w hb (by simp only[List.size_toArray,tp];omega) D7;simp only[Nat.add_zero]at c8;refine⟨_,_,.slice (some ⟨m.blk a.block,m.sh a.block+a.off,none⟩) (n+(k+1)) (m.cp a.block-bN c),?_,bP.rename (w':=w.setRow (m.blk a.block) ((pr++aI m l++rest).take (m.sh a.block+a.off+n*(sz+1))++cnew++(pr++aI m l++rest).drop (m.sh a.block+a.off+n*(sz+1)+cnew.length)).toArray) hf hl (pa oU) (m.sh a.block+a.off) (m.cp a.block-bN c) (fun k hk=>setRow_other w _ k _ hk) (by simp) rfl rfl rfl (zF _) ?_,?_⟩;rw[sK,ecs];exact Ls (P:=P) hT (w:=w) (ty:=ty) hd d6 dS (gH w rfl _ _) sG (fun a' rC=>by simp only[zM,zA]at rC;subst rC;rw[wD];exact c8) (fun hJ=>by simp at hJ);intro m' ha;obtain⟨vR,F2,YQ⟩:=ha s.nx (zN _);obtain⟨e1,e2,e3⟩:=AY m s.nx (m.blk a.block) (m.sh a.block+a.off) (m.cp a.block-bN c);have rC:aK s.nx m m':=(Nm.agree_set m s.nx _ _ _).trans ha (Nat.le_succ _);refine⟨(pr++aI m l++rest).take (m.sh a.block+a.off),(pr++aI m l++rest).drop (m.sh a.block+a.off+n*(sz+1)+cnew.length),?_,?_,?_⟩;rw[vR,e1,setRow_heap w _ _ _ e (0,0) hb,wG,DB m' rC,wS m' rC];have Y4:((pr++aI m l++rest).drop (m.sh a.block+a.off)).take (n*(sz+1))=cold:=by rw[<-wS.at,BD];rcases Nat.eq_zero_or_pos (n*(sz+1))with h0 |fC;rw[h0];simp[aI];rw[<-zP,zT,List.drop_append,List.drop_of_length_le (by omega),List.nil_append,Nat.add_sub_cancel_left,List.drop_append_of_le_length (by simp;omega),List.take_append_of_le_length (by simp;omega)];simp[m4,List.map_drop,List.map_take]
  have E':(pr++aI m l++rest).take (m.sh a.block+a.off+n*(sz+1))=(pr++aI m l++rest).take (m.sh a.block+a.off)++cold:=by rw[List.take_add,Y4]
  rw[E'];congr 2;simp only[zT];rw[F2,e2,List.length_take,tp];omega;rw[YQ,e3,zU,nF,uQ,List.length_drop,tp];rw[BA,fF,dN,<-Nat.add_mul];have e4:=z4o (m.sh a.block) (m.cp a.block) (bN c) n (k+1) (sz+1);rw[e4,<-Nat.add_mul,z2s _ _ _ _ sG];refine PR (zN _) fun m' ha=>?_;rw[Cu];obtain⟨_,_,e3⟩:=AY m s.nx (m.blk a.block) (m.sh a.block+a.off) (m.cp a.block-bN c);exact(ha s.nx (zN _)).2.2.trans e3
 have aG:m.cp a.block-bN c<n+(k+1):=by omega
 obtain⟨nc,aj,cR⟩:=qlo (P:=P) hT (w:=w) (ty:=ty) hd d6 hi (n:=n) (k:=k+1) (C:=m.cp a.block-bN c) (base:=(some a).map fun a=>⟨m.blk a.block,m.sh a.block+a.off,none⟩) (fun w' hw=>gH w' hw (k+1) (lW m xb xc)) (fun w' hw=>uU w' hw n _) aG bI;have YE:gE m s w.drew:=Yd _ hf;have aR:=Yw YE (rest:=(Builtin.zeroCells z.cells (nc-(n+(k+1)))).toList) (wS.append DB) e nc (sz+1) (by
  have QT:z.cells.size=sz+1:=by simpa using vM
  rw[zU,nF,uQ,Array.length_toList,gC,QT,<-Nat.add_mul,<-Nat.add_mul];congr 1;omega)
 have cH:=((bP.draw (w.drawn+1) hf).trans aR).trans (bP.forget aR.fits a.block);have c8:(⟨rm (newRow s (p++new) e (sz+1+2)).h a.block,(newRow s (p++new) e (sz+1+2)).nx⟩:S)=⟨(s.nx,.inl (p++new,e,sz+1+2))::rm s.h a.block,s.nx+1⟩:=by simp[newRow,rm,beq_eq,show s.nx≠a.block by omega]
 rw[c8]at cH;refine⟨_,_,.slice (some ⟨w.heap.size,0,none⟩) (n+(k+1)) nc,?_,cH,?_⟩;rw[sK,ecs,cR];congr 3;simp;have hw:w.drew.heap.size=w.heap.size:=rfl;rw[hw];refine PR (zN _) fun m' ha=>?_;rw[Cu];obtain⟨_,_,e3⟩:=AY m s.nx w.heap.size 0 nc;exact(ha s.nx (zN _)).2.2.trans e3
omit hT in
theorem so {base : Option Addr} {n c sz : Nat} {v : Value} {bE : S} (h : (cond (Nat.blt c bS) (cond (Nat.ble n c) (some (Value.slice base n c, s)) none)
            (match base with
              |some a=> match cM s a.block with
                |some (l,_,md)=> cond (Nat.beq md (sz+3)) (cond (Nat.beq a.off (bN c*(sz+1))) (match v8 l a.off (n*(sz+1))with
                  |some _=> some (Value.slice base n c,s)|none=> none) none) none
                |none=> none
              |none=> none))=some (v,bE)):v=.slice base n c/\bE=s/\n<=lW m base c:=by
  simp only[beq_eq]at h;cases hc:Nat.blt c bS with
  |true=>simp only[hc,zC]at h;have lQ:c<bS:=G6 hc;rcases tF:Nat.ble n c with _|_;simp only[tF,zD]at h;cases h;simp only[tF,zC,zA,zB]at h;refine⟨h.1.symm,h.2.symm, ?_⟩;have:n<=c:=zY tF;rcases base with _|a;exact this;simp only[lW,bR,if_pos lQ];exact this
  |false=>have lQ : ¬ c<bS:=Ko hc;simp only[hc,zD]at h;rcases base with _|a;simp at h;simp only at h;rcases hr:cM s a.block with _|r;simp[hr]at h;obtain⟨l,e',md⟩:=r;simp only[hr]at h;by_cases oU:md=sz+3;by_cases dN:a.off=bN c*(sz+1);rw[decide_eq_true oU,decide_eq_true dN]at h;simp only[zC]at h;rcases hg:v8 l a.off (n*(sz+1))with _|q;simp[hg]at h;simp only[hg,zA,zB]at h;refine⟨h.1.symm,h.2.symm, ?_⟩;obtain⟨_,sG⟩:=Jo hg;have hl:=(Yn hr).1;subst oU;simp only[lW,bR,if_neg lQ];rcases Nat.eq_zero_or_pos n with h0 |fC;rw[h0];exact Nat.zero_le _;have qT:0<n*(sz+1):=Nat.mul_pos fC (by omega);have:=z7r hf (c:=c) (n:=n) (off:=a.off) hl dN (by omega);omega;rw[decide_eq_true oU,decide_eq_false dN]at h;simp at h;rw[decide_eq_false oU]at h;simp at h
theorem qou{sv x cx:Value}(hs:eN m s.nx sv rK)(hx:eN m s.nx x cx)(h:vL T s t xt sv x=some (v,bE)):Eff P m s w (Builtin.append_ #[t,xt] ty #[rK,cx]) v bE:=by
 unfold vL at h;rcases hd:T.und t with _|d;simp[hd]at h;cases d with
 |slice e=>
  rcases d6:T.und xt with _|d2;simp[hd,d6]at h;cases d2 with
  |slice e2=>
   cases sv with
   |slice base n c=>
    cases x with
    |slice xb k xc=>
     simp only[hd,d6]at h;rcases hi:T.inf e with _|y;simp[hi]at h;obtain⟨sz,by_,z⟩:=y;cases sz with
     |zero=>simp[hi]at h|succ sz=>
      have dS:cC T e=some (sz+1):=by simp[cC,hi]
      simp only[hi]at h;rcases hcx:o8 s xb (k*(sz+1))with _|new;simp[hcx]at h;simp only[hcx]at h;rcases h1:qM new with _|_;simp[h1]at h;simp only[h1,zC]at h;obtain⟨cnew,DB,uQ,gH⟩:=Jy (P:=P) hf hcx;have sK:cx=.slice (xb.map fun a=>⟨m.blk a.block,m.sh a.block+a.off,none⟩) k (lW m xb xc):=by rw[<-hx.at];cases xb<;>simp[aH,lW]
      have ecs:rK=.slice (base.map fun a=>⟨m.blk a.block,m.sh a.block+a.off,none⟩) n (lW m base c):=by rw[<-hs.at];cases base<;>simp[aH,lW]
      cases k with
      |zero=>
       have ah:cnew=[]:=List.length_eq_zero_iff.1 (by rw[<-DB.at];simp[uQ]);subst ah;have fin:v=.slice base n c->bE=s->n<=(lW m base c)->Eff P m s w (Builtin.append_ #[t,xt] ty #[rK,cx]) v bE:=by rintro rfl rfl sG;refine⟨m,w,rK,?_,bP.refl hf,hs⟩;rw[sK,ecs];have:=Ls (P:=P) hT (w:=w) (ty:=ty) (w₁:=w) hd d6 dS (base:=base.map fun a=>⟨m.blk a.block,m.sh a.block+a.off,none⟩) (n:=n) (gH w rfl 0 (lW m xb xc)) (C:=(lW m base c)) (by simpa using sG) (fun a _=>by simp[storeCells]) (fun _=>rfl);simpa using this
       obtain⟨e1,e2,sG⟩:=so hf h;exact fin e1 e2 sG
      |succ k=>
       simp only[UP,beq_eq]at h;cases hc:Nat.blt c bS with
       |true=>
        simp only[hc,zC]at h;have lQ:c<bS:=G6 hc;have fY:(lW m base c)=c:=by cases base<;>simp[lW,bR,lQ]
        cases tF:Nat.ble (n+(k+1)) c with
        |true=>simp only[tF,zC]at h;have sG:n+(k+1)<=c:=zY tF;rcases base with _|a;simp at h;simp only at h;rcases hr:cM s a.block with _|r;simp[hr]at h;obtain⟨l,e',md⟩:=r;simp only[hr]at h;rcases hp:rV l (a.off+n*(sz+1)) new with _|l';simp[hp]at h;simp only[hp,zA,zB]at h;obtain⟨rfl,rfl⟩:=h;obtain⟨w₁,c8,aR⟩:=Xm (P:=P) hf hr hp DB h1;refine⟨m,w₁,.slice (some ⟨m.blk a.block,m.sh a.block+a.off,none⟩) (n+(k+1)) c,?_,aR,?_⟩;rw[sK,ecs,fY];exact Ls (P:=P) hT (w:=w) (ty:=ty) hd d6 dS (gH w rfl _ _) sG (fun a' rC=>by simp only[zM,zA]at rC;subst rC;rw[wD,Nat.add_assoc];exact c8) (fun hJ=>by simp at hJ);intro m' ha;have gN:=(hf.fits).bd _ _ (Yn hr).1;obtain⟨b1,b2,_⟩:=ha a.block gN;simp[aH,b1,b2,bR,lQ]
        |false=>
         simp only[tF,zD]at h;have aG:c<n+(k+1):=by rcases Nat.lt_or_ge c (n+(k+1))with hh |hh;exact hh;have:=Nat.ble_eq_true_of_le hh;rw[this]at tF;cases tF
         rcases hco:o8 s base (n*(sz+1))with _|old;simp[hco]at h;simp only[hco]at h;rcases bI:w8 (n+(k+1)) by_ with _|_;simp[bI]at h;simp only[bI,zC]at h;by_cases vM:z.cells.toList.length=sz+1;simp only[vM,yC,zC,zA,zB]at h;obtain⟨rfl,rfl⟩:=h;obtain⟨cold,wS,H5,uU⟩:=Jy (P:=P) hf hco;obtain⟨nc,aj,cR⟩:=qlo (P:=P) hT (w:=w) (ty:=ty) hd d6 hi (n:=n) (k:=k+1) (C:=c) (base:=base.map fun a=>⟨m.blk a.block,m.sh a.block+a.off,none⟩) (fun w' hw=>gH w' hw (k+1) (lW m xb xc)) (fun w' hw=>uU w' hw n c) aG bI;have YE:gE m s w.drew:=Yd _ hf;have aR:=Yw YE (rest:=(Builtin.zeroCells z.cells (nc-(n+(k+1)))).toList) (wS.append DB) e nc (sz+1) (by
          have QT:z.cells.size=sz+1:=by simpa using vM
          rw[zU,H5,uQ,Array.length_toList,gC,QT,<-Nat.add_mul,<-Nat.add_mul];congr 1;omega)
         refine⟨_,_,.slice (some ⟨w.heap.size,0,none⟩) (n+(k+1)) nc,?_,(bP.draw (w.drawn+1) hf).trans aR,?_⟩;rw[sK,ecs,fY,cR];congr 3;simp;have hw:w.drew.heap.size=w.heap.size:=rfl;rw[hw];refine PR (zN _) fun m' ha=>?_;rw[Cu];obtain⟨_,_,e3⟩:=AY m s.nx w.heap.size 0 nc;exact(ha s.nx (zN _)).2.2.trans e3;simp only[vM,yB,zD]at h;cases h
       |false=>
        simp only[hc,zD]at h;generalize hD:bN c=D at h;have lQ:¬ c<bS:=Ko hc;rcases base with _|a;simp at h;simp only at h;rcases hr:cM s a.block with _|r;simp[hr]at h;obtain⟨l,e',md⟩:=r;simp only[hr]at h;by_cases oU:md=sz+1+2;by_cases N8:e'=e;by_cases dN:a.off=D*(sz+1);rcases bI:w8 (n+(k+1)) by_ with _|_;simp[oU,N8,bI]at h;by_cases vM:z.cells.toList.length=sz+1;rcases hg:v8 l a.off (n*(sz+1))with _|p;simp only[oU,N8,yC,zC,bI,vM,hg,<-dN]at h;cases h;have h':some (Value.slice (some ⟨s.nx,0,none⟩) (n+(k+1)) bS,(⟨(s.nx,.inl (p++new,e,sz+1+2))::rm s.h a.block,s.nx+1⟩:S))=some (v,bE):=by simpa only[oU,N8,yC,zC,bI,vM,hg,<-dN]using h
        simp only[zA,zB]at h';obtain⟨rfl,rfl⟩:=h';subst oU N8;clear h;exact qxc hT hf hd d6 hi hr (by rw[hD];exact dN) lQ bI vM hg DB uQ h1 gH sK ecs;simp only[oU,N8,yC,yB,zC,zD,bI,vM,<-dN]at h;cases h;simp only[oU,N8,dN,yC,yB,zC,zD]at h;cases h;simp only[oU,N8,yC,yB,zC,zD]at h;cases h;simp only[oU,yB,zD]at h;cases h
    |_=>simp[hd,d6]at h
   |_=>simp[hd,d6]at h
  |_=>simp[hd,d6]at h
 |_=>simp[hd]at h
omit hT hf in
theorem Ye(size len cap:Nat)(b:Option Addr)(w':World):(Builtin.firstCells size 0 (.slice b len cap)).run P w'=.ok #[] w':=by
 cases b<;>simp[Builtin.firstCells,loadCells,loadCellsFrom]
theorem qyh{sv x cx:Value}(hs:eN m s.nx sv rK)(hx:eN m s.nx x cx)(h:tW T s t xt sv x=some (v,bE)):Eff P m s w (Builtin.append_ #[t,xt] ty #[rK,cx]) v bE:=by
 have src:∀{sv rK:Value}{a:Option Addr},eN m s.nx sv rK->vL T s t xt sv (.slice none 0 0)=some (v,bE)->Eff P m s w (Builtin.append_ #[t,xt] ty #[rK,.slice a 0 0]) v bE:=by
  intro sv rK a hs h;have h0:=h;unfold vL at h;rcases hd:T.und t with _|d;simp[hd]at h;cases d with
  |slice e=>
   rcases d6:T.und xt with _|d2;simp[hd,d6]at h;cases d2 with
   |slice e2=>
    cases sv with
    |slice base n c=>
     simp only[hd,d6]at h;rcases hi:T.inf e with _|y;simp[hi]at h;obtain⟨sz,by_,z⟩:=y;cases sz with
     |zero=>simp[hi]at h|succ sz=>
      have dS:cC T e=some (sz+1):=by simp[cC,hi]
      simp only[hi,Nat.zero_mul,o8,qM,zC]at h;obtain⟨e1,e2,sG⟩:=so hf h;subst e1;subst e2;have ecs:rK=.slice (base.map fun a=>⟨m.blk a.block,m.sh a.block+a.off,none⟩) n (lW m base c):=by rw[<-hs.at];cases base<;>simp[aH,lW]
      refine⟨m,w,rK,?_,bP.refl hf,hs⟩;rw[ecs];have:=Ls (P:=P) hT (w:=w) (ty:=ty) (w₁:=w) hd d6 dS (base:=base.map fun a=>⟨m.blk a.block,m.sh a.block+a.off,none⟩) (n:=n) (xb:=a) (xc:=0) (k:=0) (cnew:=#[]) (Ye _ _ _ _ _) (C:=(lW m base c)) (by simpa using sG) (fun a _=>by simp[storeCells]) (fun _=>rfl);simpa using this
    |_=>simp[hd,d6]at h
   |_=>simp[hd,d6]at h
  |_=>simp[hd]at h
 have tgt:∀{x cx:Value}{a:Option Addr}{v':Value}{s':S},(eN m s.nx x cx\/x=.slice none 0 0/\∃b,cx=.slice b 0 0)->vL T s t xt (.slice none 0 0) x=some (v',s')->(v'=.slice none 0 0/\s'=s/\(Builtin.append_ #[t,xt] ty #[.slice a 0 0,cx]).run P w=.ok (.slice a 0 0) w)\/((∃b n c,v'=.slice (some b) n c)/\Eff P m s w (Builtin.append_ #[t,xt] ty #[.slice a 0 0,cx]) v' s'):=by
  intro x cx a v' s' hx h;have YH:=fun hx=>qou (ty:=ty) hT hf (yT (m:=m) (n:=s.nx) (v:=.slice none 0 0) fun _=>by simp[aH]) (cx:=cx) hx h;unfold vL at h;rcases hd:T.und t with _|d
  simp[hd]at h;cases d with
  |slice e=>
   rcases d6:T.und xt with _|d2;simp[hd,d6]at h;cases d2 with
   |slice e2=>
    cases x with
    |slice xb k xc=>
     simp only[hd,d6]at h;rcases hi:T.inf e with _|y;simp[hi]at h;obtain⟨sz,by_,z⟩:=y;cases sz with
     |zero=>simp[hi]at h|succ sz=>
      have dS:cC T e=some (sz+1):=by simp[cC,hi]
      simp only[hi]at h;rcases hcx:o8 s xb (k*(sz+1))with _|new;simp[hcx]at h;simp only[hcx]at h;rcases h1:qM new with _|_;simp[h1]at h;simp only[h1,zC]at h;obtain⟨cnew,DB,uQ,gH⟩:=Jy (P:=P) hf hcx;have sK:eN m s.nx (.slice xb k xc) cx->cx=.slice (xb.map fun a=>⟨m.blk a.block,m.sh a.block+a.off,none⟩) k (lW m xb xc):=fun hx=>by rw[<-hx.at];cases xb<;>simp[aH,lW]
      cases k with
      |zero=>
       obtain⟨e1,e2,sG⟩:=so (sz:=sz) hf h;refine .inl ⟨e1,e2,?_⟩;have fb:∃b c,cx=.slice b 0 c:=by rcases hx with hx |⟨_,b,hb⟩;exact⟨_,_,sK hx⟩;exact⟨b,0,hb⟩
       obtain⟨b,c,rfl⟩:=fb;have:=Ls (P:=P) hT (w:=w) (ty:=ty) (w₁:=w) hd d6 dS (base:=a) (n:=0) (xb:=b) (xc:=c) (k:=0) (cnew:=#[]) (Ye _ _ _ _ _) (C:=0) (zF _) (fun a _=>by simp[storeCells]) (fun _=>rfl);simpa using this
      |succ k=>
       have bI:w8 (0+(k+1)) by_=true/\∃b n c,v'=.slice (some b) n c:=by
        simp only[UP]at h;have c0:Nat.blt 0 bS=true:=Nat.ble_eq_true_of_le (by simp[bS]);have c1:Nat.ble (0+(k+1)) 0=false:=by rcases hb:Nat.ble (0+(k+1)) 0 with _|_;rfl;have:=zY hb;omega
        simp only[c0,c1,zC,zD,Nat.zero_mul,o8]at h;rcases hr:w8 (0+(k+1)) by_ with _|_;simp only[hr,zD]at h;cases h;simp only[hr,zC]at h;rcases hz:Nat.beq z.cells.toList.length (sz+1)with _|_;simp only[hz,zD]at h;cases h;simp only[hz,zC,zA,zB]at h;exact⟨rfl,_,_,_,h.1.symm⟩
       refine .inr ⟨bI.2,?_⟩;have hx:eN m s.nx (.slice xb (k+1) xc) cx:=by rcases hx with hx |⟨hx,_⟩;exact hx;cases hx
       obtain⟨aJ,w₁,cv,g1,g2,g3⟩:=YH hx;refine⟨aJ,w₁,cv,?_,g2,g3⟩;rw[sK hx]at g1 ⊢;have q2:=iN (P:=P) hT (w:=w) (ty:=ty) hd d6 hi (base:=none) (n:=0) (C:=0) (cold:=#[]) (fun w' hw=>gH w' hw (k+1) (lW m xb xc)) (fun w' _=>Ye _ _ _ _ _) (by omega) bI.1;have q2':=iN (P:=P) hT (w:=w) (ty:=ty) hd d6 hi (base:=a) (n:=0) (C:=0) (cold:=#[]) (fun w' hw=>gH w' hw (k+1) (lW m xb xc)) (fun w' _=>Ye _ _ _ _ _) (by omega) bI.1;rw[q2',<-q2];exact g1
    |_=>simp[hd,d6]at h
   |_=>simp[hd,d6]at h
  |_=>simp[hd]at h
 have flat:(eN m s.nx (w9 x) cx\/w9 x=.slice none 0 0/\∃b,cx=.slice b 0 0):=by
  cases x with
  |chan r=>rcases r with _|r;exact .inl hx;have:=hx.at;simp only[aH]at this;exact .inr ⟨rfl,_,this.symm⟩
  |_=>exact .inl hx
 unfold tW at h;cases hw:xX sv with
 |false=>simp only[hw,zD]at h;rcases flat with hx |⟨e1,b,rfl⟩;exact qou hT hf hs hx h;rw[e1]at h;exact src hs h
 |true=>
  simp only[hw,zC]at h;obtain⟨r,rfl⟩:∃r,sv=.chan (some r):=by
   cases sv with
   |chan r=>cases r with
    |none=>simp[xX]at hw|some r=>exact⟨r,rfl⟩
   |_=>simp[xX]at hw
  have ecs:=hs.at;simp only[aH]at ecs;rcases ha:vL T s t xt (.slice none 0 0) (w9 x)with _|q;simp[ha]at h;obtain⟨v',s'⟩:=q;rcases tgt (a:=some ⟨m.blk r,m.sh r,some (m.cp r)⟩) flat ha with⟨e1,e2,cR⟩|⟨⟨b,n,c,e1⟩,YH⟩;rw[ha,e1]at h;simp only[zA,zB]at h;obtain⟨rfl,rfl⟩:=h;exact⟨m,w,rK,by rw[<-ecs];exact cR,bP.refl hf,hs⟩;rw[ha,e1]at h;simp only[zA,zB]at h;obtain⟨rfl,rfl⟩:=h;rw[<-ecs,<-e1];exact YH
end
variable{m:Nm}
variable{s:S}
variable{w:World}
theorem bP.ghost(h:gE m s w)(b sh cp:Nat):bP m s w (m.set s.nx b sh cp) ⟨s.h,s.nx+1⟩ w:=by
 refine⟨Nm.agree_set m _ _ _ _,Nat.le_succ _,fun m' ha=>?_,?_,fun _ _ _=>rfl,zF _,rfl,rfl,rfl⟩;have hf:=h m' ((Nm.agree_set m s.nx b sh cp).trans ha (Nat.le_succ _));exact⟨hf.ok,hf.inj,fun i c hc=>Nat.lt_succ_of_lt (hf.bd i c hc)⟩;rintro k ⟨j,d,hd,ho,rfl⟩;have:=(h.fits).bd j d hd;exact .inl ⟨j,d,hd,ho,by simp[Nm.set,show j≠s.nx by omega]⟩
variable{r:Nat}
variable{es:List MapEntry}
variable{cl:Nat}
theorem Db(h:AV s r=some (es,cl)):lk s.h r=some (.inr (es,cl)):=by
 unfold AV at h;rcases hl:lk s.h r with _|b;simp[hl]at h;rcases b with x |x<;>simp[hl]at h;rw[h]
theorem V0{P:Program}(hf:gE m s w){es':List MapEntry}{ces:List MapEntry}{cl':Nat}(hr:AV s r=some (es,cl))
  (he:∀m',aK s.nx m m'->es'.map (eM m')=ces):
  ∃w₁,(setObj (m.blk r) (.map ces.toArray cl')).run P w=.ok () w₁/\bP m s w m (L6 s r es' cl') w₁:=by
 have hl:=Db hr;have hb:w.heap[m.blk r]? = some (.map (es.map (eM m)).toArray cl):=(hf.fits).ok r _ hl;refine⟨{ w with heap:=w.heap.setIfInBounds (m.blk r) (.map ces.toArray cl') },by simp[setObj,Sem.run,hb],?_⟩;refine bP.write hf hl rfl (fun k hk=>?_) (by simp) rfl rfl rfl (zF _) fun m' ha=>?_;exact Array.getElem?_setIfInBounds_ne (Ne.symm hk);have wV:m'.blk r=m.blk r:=(ha r ((hf.fits).bd r _ hl)).1;have aG:=(hf.fits).size hl;simp only[wB,wV,he m' ha];exact Array.getElem?_setIfInBounds_self_of_lt aG
theorem Yb(hf:gE m s w)(hr:AV s r=some (es,cl)):∀m',aK s.nx m m'->es.map (eM m')=es.map (eM m):=fun m' ha=>by
 have hl:=Db hr;have h1:w.heap[m.blk r]? = some (.map (es.map (eM m)).toArray cl):=(hf.fits).ok r _ hl;have h2:w.heap[m'.blk r]? = some (.map (es.map (eM m')).toArray cl):=(hf m' ha).ok r _ hl;rw[(ha r ((hf.fits).bd r _ hl)).1,h1]at h2;simp at h2;exact List.map_congr_left fun e N8=>(h2 e N8).symm
theorem qyr{a b:ByteArray}(h:kO a.data.toList b.data.toList=true):a=b:=by
 rw[Yf]at h;have:a.data.toList=b.data.toList:=by simpa using h
 exact ByteArray.ext (Array.ext' this)
theorem z7w{E:Value->Value->Bool}{n:Nat}(hE:∀a b,E a b=true->a=b/\Instr.sameBits n a b=true)(x y:List Value)(h:C1 E x y=true):x=y/\((x.zip y).all fun p=>Instr.sameBits n p.1 p.2)=true:=by
 induction x generalizing y with|nil=>cases y<;>simp_all[C1]|cons a x ih=>rcases y with _|⟨b,y⟩;simp[C1]at h;simp only[C1]at h;rcases EX:E a b with _|_;simp[EX]at h;simp only[EX,zC]at h;obtain⟨e1,e2⟩:=hE a b EX;obtain⟨e3,e4⟩:=ih y h;subst e1 e3;simp only[List.zip_cons_cons,List.all_cons,e2,e4];simp
theorem T9(d k:Nat):∀a b,xF d a b=true->a=b/\Instr.sameBits (d+k) a b=true:=by
 induction d with
 |zero=>intro a b h;simp[xF]at h|succ d ih=>
  intro a b h;have hs:d+1+k=(d+k)+1:=by omega
  rw[hs];simp only[xF]at h;cases a with
  |int k1 x=>cases b with|int k2 y=>simp only at h;by_cases e1:k1=k2;by_cases e2:x=y;subst e1 e2;exact⟨rfl,by simp[Instr.sameBits]⟩;simp[e1,e2]at h;simp[e1]at h|_=>simp at h
  |bool x=>cases b with|bool y=>simp at h;subst h;exact⟨rfl,by simp[Instr.sameBits]⟩|_=>simp at h
  |string x=>cases b with|string y=>simp only at h;have:=qyr h;subst this;exact⟨rfl,by simp[Instr.sameBits,beq_toListBytes]⟩|_=>simp at h
  |agg x=>
   cases b with
   |agg y=>obtain⟨x⟩:=x;obtain⟨y⟩:=y;simp only at h;obtain⟨e1,e2⟩:=z7w ih x y h;subst e1;refine⟨rfl,?_⟩;simp only[Instr.sameBits,beq_self_eq_true,Bool.true_and];exact e2
   |_=>simp at h
  |_=>simp at h
theorem qn7{P:Program}{a b:Value}(h:xF 50 a b=true)(w:World):(Instr.keyThatStays a b).run P w=.ok b w/\a=b:=by
 obtain⟨e1,e2⟩:=T9 50 9950 a b h;refine⟨?_,e1⟩;have e3:Instr.sameBits 10000 a b=true:=e2;simp[Instr.keyThatStays,e3]
theorem ml(es:List MapEntry)(i:Nat)(f:MapEntry->MapEntry):KI es i f=es.modify i f:=by
 induction es generalizing i with|nil=>simp[KI]|cons e es ih=>cases i<;>simp[KI,ih]
theorem qrx(es:List MapEntry)(i:Nat):UX es i=es.eraseIdx i:=by
 induction es generalizing i with|nil=>simp[UX]|cons e es ih=>cases i<;>simp[UX,ih]
variable{v:Value}
theorem z3j{T:Tb}{kt:TypeId}{k:Value}(es:List MapEntry)(b:Nat){i:Nat}(h:pM T kt k es b=some (some (i,v))):b<=i/\∃e,es[i-b]? = some e/\e.val=v:=by
 induction es generalizing b with
 |nil=>simp[pM]at h|cons e es ih=>
  simp only[pM]at h;rcases he:eqv T 50 kt k e.key with _|r;simp[he]at h;cases r with
  |true=>simp[he]at h;obtain⟨rfl,rfl⟩:=h;exact⟨zF _,e,by simp,rfl⟩
  |false=>simp only[he]at h;obtain⟨h1,e',h2,h3⟩:=ih (b+1) h;refine⟨by omega,e',?_,h3⟩;rw[show i-b=(i-(b+1))+1 by omega];simpa using h2
section
variable{P:Program}{T:Tb}(hT:kS P T){m:Nm}{s:S}{w:World}(hf:gE m s w)
include hT hf
variable{t:TypeId}
variable{ty:TypeId}
variable{x:Value}
variable{bE:S}
theorem z6s{ts:List TypeId}{d cd cx:Value}(bD:eN m s.nx d cd)(hx:eN m s.nx x cx)(h:Ie T s t d x=some (v,bE)):Eff P m s w (Builtin.copy_ (t::ts).toArray ty #[cd,cx]) v bE:=by
 unfold Ie at h;rcases hd:T.und t with _|dd;simp[hd]at h;cases dd with
 |slice e=>
  cases d with
  |slice base n c=>
   cases x with
   |slice xb k xc=>
    simp only[hd]at h;rcases hs:cC T e with _|sz;simp[hs]at h;simp only[hs]at h;rcases hcx:o8 s xb (Nat.min k n*sz)with _|cs;simp[hcx]at h;simp only[hcx]at h;rcases h1:qM cs with _|_;simp[h1]at h;simp only[h1,zC]at h;obtain⟨cnew,DB,uQ,gH⟩:=Jy (P:=P) hf hcx;have sK:cx=.slice (xb.map fun a=>⟨m.blk a.block,m.sh a.block+a.off,none⟩) k (lW m xb xc):=by rw[<-hx.at];cases xb<;>simp[aH,lW]
    have ecd:cd=.slice (base.map fun a=>⟨m.blk a.block,m.sh a.block+a.off,none⟩) n (lW m base c):=by rw[<-bD.at];cases base<;>simp[aH,lW]
    have tI:=gH w rfl k (lW m xb xc);have fin:∀w₁,(∀a,base=some a->(storeCells ⟨m.blk a.block,m.sh a.block+a.off,none⟩ cnew).run P w=.ok () w₁)->(base=none->w₁=w)->
      (Builtin.copy_ (t::ts).toArray ty #[cd,cx]).run P w=.ok (.int .i64 (Nat.min k n)) w₁:=by
     intro w₁ h2 h3;rw[sK,ecd];rcases base with _|a;rw[h3 rfl];simp[Builtin.copy_,gR hT w hd,Builtin.lenOf,n7 hT w hs,tI,goInt];simp[Builtin.copy_,gR hT w hd,Builtin.lenOf,n7 hT w hs,tI,goInt,h2 a rfl]
    cases cs with
    |nil=>
     simp only[zA,zB]at h;obtain⟨rfl,rfl⟩:=h;have ah:cnew=[]:=by rw[<-DB.at];simp[aI]
     subst ah;exact⟨m,w,_,fin w (fun a _=>by simp[storeCells]) (fun _=>rfl),bP.refl hf,yT fun _=>by simp[aH]⟩
    |cons c0 cs=>simp only at h;rcases base with _|a;simp at h;simp only at h;rcases hr:cM s a.block with _|r;simp[hr]at h;obtain⟨l,e',md⟩:=r;simp only[hr]at h;rcases hp:rV l a.off (c0::cs)with _|l';simp[hp]at h;simp only[hp,zA,zB]at h;obtain⟨rfl,rfl⟩:=h;obtain⟨w₁,c8,aR⟩:=Xm (P:=P) hf hr hp DB h1;exact⟨m,w₁,_,fin w₁ (fun a' rC=>by cases rC;exact c8) (fun hJ=>by cases hJ),aR,yT fun _=>by simp[aH]⟩
   |_=>simp[hd]at h
  |_=>simp[hd]at h
 |_=>simp[hd]at h
omit hf in
theorem qtd{t xt ty e:TypeId}{kd k:IntKind}{size by_ j:Nat}{z:Value}{q:Int}(hw:IntKind.i64.wrap q=((j+1:Nat):Int))(ht:T.und t=some (.slice e))(hx:T.und xt=some (.int kd))(hi:T.inf e=some (size,by_,z))(QY:0<size)(hr:w8 (j+1) by_=true):
  ∃nc,j+1<=nc/\(Builtin.append_ #[t,xt] ty #[.slice none 0 0,.int k q]).run P w=
   .ok (.slice (some ⟨w.heap.size,0,none⟩) (j+1) nc) ((w.drew).alloc (.cells (Builtin.zeroCells z.cells (j+1)++Builtin.zeroCells z.cells (nc-(j+1))) e)):=by
 obtain⟨r1,r2⟩:=qpc hr;obtain⟨_,i,R5,Qv,R4,hi4⟩:=hT.inf e _ _ _ hi;have hs:cC T e=some size:=by simp[cC,hi]
 have g0:¬ (((j+1:Nat):Int)<0):=by omega
 have g4:¬ (((j+1:Nat):Int)*(i.bytes:Int)>2^48):=by rw[R4];have h':(((j+1)*by_:Nat):Int)<=((140737488355328:Nat):Int):=Int.ofNat_le.2 r1;rw[Int.natCast_mul]at h';omega
 have g1:¬ 0+(j+1)<=0:=by omega
 have g2:¬ (((0+(j+1):Nat):Int)>IntKind.i64.max/\(True\/i.bytes=0)):=by rw[IntKind.max_i64];omega
 have g3:¬ Builtin.nextslicecap (0+(j+1)) 0*i.bytes>2^48:=by have:=growslice_fits (bytes:=i.bytes) (show 0<0+(j+1) by omega) (by rw[R4,Nat.zero_add];exact r1);omega
 have g5:¬ (j+1)*size=0:=by have:=Nat.mul_pos (show 0<j+1 by omega) QY;omega
 have hz:(zeroValue e).run P w.drew=.ok z w.drew:=(G4 hT (⟨id,id,id⟩:Nm) w.drew hi).1;refine⟨(Question.appendCap (0+(j+1)) 0 e).cut (w.tape w.drawn (.appendCap (0+(j+1)) 0 e)),by simp[Question.cut],?_⟩;have hff:(Question.appendCap (0+(j+1)) 0 e).forced=false:=rfl;simp only[Builtin.append_,List.getElem?_toArray,List.getElem?_cons_zero,zH,zK,gR hT w ht,gR hT w hx,n7 hT w hs,zJ,zL,Sem.run_ite,if_true,asInt,asIntOf,hw,g0,if_false,typeInfo,run_program,R5,g4,zZ,g1,g2,g3,g5];simp[Builtin.firstCells];have dp:(Question.appendCap (j+1) 0 e).forced=false:=rfl;simp only[dp,Bool.false_eq_true,if_false,hz,zJ];simp[Go.newRow];rfl
theorem qx9{xt:TypeId}{sv rK cx:Value}(tZ:eN m s.nx sv rK)(hx:eN m s.nx x cx)(h:Ww T s t xt sv x=some (v,bE)):Eff P m s w (Builtin.append_ #[t,xt] ty #[rK,cx]) v bE:=by
 unfold Ww at h;split at h;rename_i e kd kd' i hd d6;have e1:rK=.slice none 0 0:=by rw[<-tZ.at];simp[aH]
 have e2:cx=.int kd' i:=by rw[<-hx.at];simp[aH]
 subst e1 e2;split at h;rename_i sz by_ z hi;split at h;rename_i k hw;rcases bI:w8 (k+1) by_ with _|_;simp[bI]at h;rw[bI]at h;simp only[zC]at h;rcases vM:Nat.beq z.cells.toList.length (sz+1)with _|_;rw[vM]at h;cases h;rw[vM]at h;simp only[zC]at h;rcases h1:qM (bZ z.cells.toList (k+1))with _|_;rw[h1]at h;cases h;rw[h1]at h;simp only[zC,zA,zB]at h;obtain⟨rfl,rfl⟩:=h;have tY:=Cs hT hi;simp only at tY;have QT:z.cells.size=sz+1:=by simpa[beq_eq]using vM
 obtain⟨nc,tF,cR⟩:=qtd (P:=P) (w:=w) (ty:=ty) (k:=kd') hT hw hd d6 hi (by omega) bI;have YE:gE m s w.drew:=Yd _ hf;have MT:(Builtin.zeroCells z.cells (k+1)).toList=bZ z.cells.toList (k+1):=by have:=Jn z.cells (k+1);simp only[Builtin.zeroCells]at*;rw[this]
 have aR:=Yw YE (rest:=(Builtin.zeroCells z.cells (nc-(k+1))).toList) (Xw (Kg tY (k+1))) e nc (sz+1) (by
  have a1:(Builtin.zeroCells z.cells (nc-(k+1))).toList.length=(nc-(k+1))*z.cells.size:=by rw[Array.length_toList,gC]
  have a2:(bZ z.cells.toList (k+1)).length=(k+1)*z.cells.size:=by rw[Xl,Array.length_toList]
  rw[a1,a2,QT,<-Nat.add_mul];congr 1;omega)
 refine⟨_,_,.slice (some ⟨w.heap.size,0,none⟩) (k+1) nc,?_,(bP.draw (w.drawn+1) hf).trans aR,?_⟩;rw[cR];congr 3;apply Array.ext';simp[MT];have hw:w.drew.heap.size=w.heap.size:=rfl;rw[hw];refine PR (zN _) fun m' ha=>?_;rw[Cu];obtain⟨_,_,e3⟩:=AY m s.nx w.heap.size 0 nc;exact(ha s.nx (zN _)).2.2.trans e3;cases h;cases h;cases h
theorem qxa{xt:TypeId}{sv rK cx:Value}(tZ:eN m s.nx sv rK)(hx:eN m s.nx x cx)(h:V9 T s t xt sv x=some (v,bE)):Eff P m s w (Builtin.append_ #[t,xt] ty #[rK,cx]) v bE:=by
 unfold V9 at h;split at h;rename_i r hr;cases h;exact qyh hT hf tZ hx hr;exact qx9 hT hf tZ hx h
theorem z36{ts:List TypeId}{cx:Value}(hx:eN m s.nx x cx)(h:UY T s t x=some (v,bE)):Eff P m s w (Builtin.clear_ (t::ts).toArray ty #[cx]) v bE:=by
 unfold UY at h;rcases hd:T.und t with _|dd;simp[hd]at h;cases dd with
 |slice e=>
  cases x with
  |slice base n c=>
   simp only[hd]at h;have sK:cx=.slice (base.map fun a=>⟨m.blk a.block,m.sh a.block+a.off,none⟩) n (lW m base c):=by rw[<-hx.at];cases base<;>simp[aH,lW]
   cases n with
   |zero=>simp only[zA,zB]at h;obtain⟨rfl,rfl⟩:=h;refine⟨m,w,undef,?_,bP.refl hf,yT fun _=>by simp[undef,aH,aI]⟩;rw[sK];cases base<;>simp[Builtin.clear_,gR hT w hd,undef]
   |succ n=>
    cases base with
    |none=>simp only[zA,zB]at h;obtain⟨rfl,rfl⟩:=h;refine⟨m,w,undef,?_,bP.refl hf,yT fun _=>by simp[undef,aH,aI]⟩;rw[sK];simp[Builtin.clear_,gR hT w hd,undef]
    |some a=>
     simp only at h;rcases hi:T.inf e with _|q;simp[hi]at h;obtain⟨sz,by_,z⟩:=q;simp only[hi]at h;have hz:=(G4 hT m w hi).1;have tY:=Cs hT hi;simp only at hz tY;rcases h1:qM (bZ z.cells.toList (n+1))with _|_;simp[h1]at h;simp only[h1,zC]at h;rcases hr:cM s a.block with _|r;simp[hr]at h;obtain⟨l,e',md⟩:=r;simp only[hr]at h;rcases hp:rV l a.off (bZ z.cells.toList (n+1))with _|l';simp[hp]at h;simp only[hp,zA,zB]at h;obtain⟨rfl,rfl⟩:=h;obtain⟨w₁,c8,aR⟩:=Xm (P:=P) hf hr hp (Xw (Kg tY (n+1))) h1;refine⟨m,w₁,undef,?_,aR,yT fun _=>by simp[undef,aH,aI]⟩;have MT:(Builtin.zeroCells z.cells (n+1)).toList=bZ z.cells.toList (n+1):=by have:=Jn z.cells (n+1);simp only[Builtin.zeroCells]at*;rw[this]
     rw[sK];simp[Builtin.clear_,gR hT w hd,undef,hz,MT,c8]
  |_=>simp[hd]at h
 |_=>simp[hd]at h
theorem z1m{cx:Value}{lo hi mx:Option Value}{clo chi cmx:Option Value}(hx:eN m s.nx x cx)(h1:∀m',aK s.nx m m'->lo.map (aH m')=clo)(h2:∀m',aK s.nx m m'->hi.map (aH m')=chi)
  (h3:∀m',aK s.nx m m'->mx.map (aH m')=cmx) (h:Bl T s t x lo hi mx=some (v,bE)):Eff P m s w (Instr.sliceAt t cx clo chi cmx) v bE:=by
 have e1:=h1 m (aK.refl _ _);have e2:=h2 m (aK.refl _ _);have e3:=h3 m (aK.refl _ _);unfold Bl at h;rcases hd:T.und t with _|dd;simp[hd]at h;cases dd with
 |slice e=>
  cases x with
  |slice p n c=>
   rcases p with _|a;simp[hd]at h;simp only[hd]at h;cases hc:Nat.blt c bS with
   |true=>simp[hc]at h|false=>
    have lQ:¬ c<bS:=Ko hc;simp only[hc,zD]at h;rcases hs:cC T e with _|sz;simp[hs]at h;simp only[hs]at h;rcases hr:CL s a.block sz with _|l;simp[hr]at h;simp only[hr,beq_eq]at h;by_cases dN:a.off=bN c*sz;rw[decide_eq_true dN]at h;simp only[zC]at h;rcases fC:Nat.blt 0 sz with _|_;simp[fC]at h;have qT:0<sz:=G6 fC;simp only[fC,zC]at h;obtain⟨sz,rfl⟩:∃q,sz=q+1:=⟨sz-1,by omega⟩;obtain⟨_,_,K4,_⟩:=ba hr;have hl:=hr;have gN:=(hf.fits).bd _ _ K4;have sK:cx=.slice (some ⟨m.blk a.block,m.sh a.block+a.off,none⟩) n (m.cp a.block-bN c):=by rw[<-hx.at];simp[aH,bR,lQ]
    have A5:(l.length-a.off)/(sz+1)<=m.cp a.block-bN c:=by
     rcases Nat.eq_zero_or_pos ((l.length-a.off)/(sz+1))with h0 |hp;omega;have sG:=Nat.div_mul_le_self (l.length-a.off) (sz+1);have HD:a.off<=l.length:=by rcases Nat.lt_or_ge l.length a.off with aG |HD;rw[show l.length-a.off=0 by omega]at hp;simp at hp;exact HD
     have:=Wy m w hf.fits (c:=c) (n:=(l.length-a.off)/(sz+1)) (off:=a.off) hl dN (by omega);omega
    have hu:=gR hT w hd;cases mx with
    |some vm=>
     simp only at h;rcases y7:iX vm ((l.length-a.off)/(sz+1))with _|M0;simp[y7]at h;simp only[y7]at h;rcases oI:Nat.ble (a.off+M0*(sz+1)) l.length with _|_;simp[oI]at h;simp only[oI,zC]at h;rcases hb:g9 n M0 lo hi (some vm)with _|q;simp[hb]at h;obtain⟨l1,hh,M⟩:=q;simp only[hb]at h;rcases hMc:Nat.blt M bS with _|_;simp[hMc]at h;simp only[hMc,zC,zA,zB]at h;obtain⟨rfl,rfl⟩:=h;have YO:M<bS:=G6 hMc;have ic:M0<=m.cp a.block-bN c:=by have:=(PM (P:=P) m w y7 _ (zF _) .index).2;omega
     obtain⟨b1,b2,b3,_⟩:=LQ (P:=P) (isS:=true) m w hb ic;simp only[Option.isSome_some,if_true]at b1;rw[e1,e2,e3]at b1;have HN:M-l1<bS:=Nat.lt_of_le_of_lt (Nat.sub_le _ _) YO;refine⟨m,w,.slice (if M=l1 then some ⟨m.blk a.block,m.sh a.block+a.off,none⟩else some ⟨m.blk a.block,m.sh a.block+a.off+l1*(sz+1),none⟩) (hh-l1) (M-l1),?_,bP.refl hf,fun m' ha=>?_⟩;rw[sK];simp only[Instr.sliceAt,zK,hu,zJ,Instr.slice,b1,n7 hT w hs,zL,zM,wD];obtain⟨q1,q2,_⟩:=ha a.block gN;by_cases A7:M=l1;rw[A7]at HN ⊢;simp only[yC,zC,aH,q1,q2,if_true,bR,if_pos HN];simp only[decide_eq_false A7,zD,aH,q1,q2,if_neg A7,bR,if_pos HN,Nat.add_assoc]
    |none=>
     simp only at h;rcases hb:g9 n ((l.length-a.off)/(sz+1)) lo hi none with _|q;simp[hb]at h;obtain⟨l1,hh,M⟩:=q;simp only[hb]at h;rcases oI:Nat.ble (a.off+hh*(sz+1)) l.length with _|_;simp[oI]at h;simp only[oI,zC]at h;have Y8:a.off+hh*(sz+1)<=l.length:=zY oI;have hhC:=Wy m w hf.fits (c:=c) (n:=hh) (off:=a.off) hl dN Y8;obtain⟨b1,b2,_,b4⟩:=LQ (P:=P) (isS:=true) m w hb A5;simp only[Option.isSome_none,Bool.false_eq_true,if_false]at b1;rw[e1,e2,e3]at b1;have cR:(Instr.sliceAt t cx clo chi cmx).run P w=.ok (.slice (if m.cp a.block-bN c=l1 then some ⟨m.blk a.block,m.sh a.block+a.off,none⟩else some ⟨m.blk a.block,m.sh a.block+a.off+l1*(sz+1),none⟩) (hh-l1) (m.cp a.block-bN c-l1)) w:=by rw[sK];simp only[Instr.sliceAt,zK,hu,zJ,Instr.slice,b1,n7 hT w hs,zL,zM,wD]
     cases l1 with
     |zero=>
      simp only[zA,zB]at h;obtain⟨rfl,rfl⟩:=h;have Pz:(Instr.sliceAt t cx clo chi cmx).run P w=.ok (.slice (some ⟨m.blk a.block,m.sh a.block+a.off,none⟩) hh (m.cp a.block-bN c)) w:=by rw[Nat.sub_zero,Nat.sub_zero,Nat.zero_mul,Nat.add_zero]at cR;by_cases hC:m.cp a.block-bN c=0;rw[if_pos hC]at cR;exact cR;rw[if_neg hC]at cR;exact cR
      refine⟨m,w,_,Pz,bP.refl hf,fun m' ha=>?_⟩;obtain⟨q1,q2,q3⟩:=ha a.block gN;simp only[aH,q1,q2,q3,bR,if_neg lQ]
     |succ l1=>
      simp only at h;cases aG:Nat.blt (l1+1) hh with
      |true=>
       have uS:l1+1<hh:=G6 aG;simp only[aG,zC,zA,zB]at h;obtain⟨rfl,rfl⟩:=h;refine⟨m,w,_,cR,bP.refl hf,fun m' ha=>?_⟩;obtain⟨q1,q2,q3⟩:=ha a.block gN;have cW:¬ m.cp a.block-bN c=l1+1:=by omega
       have tF:¬ c+(l1+1)<bS:=fun hh=>lQ (Nat.lt_of_le_of_lt (Nat.le_add_right _ _) hh);have y5:bN (c+(l1+1))=bN c+(l1+1):=qvb (Nat.le_of_not_lt lQ) _;simp only[aH,q1,q2,q3,bR,if_neg tF,if_neg cW,y5,Nat.add_assoc,Nat.sub_sub]
      |false=>
       simp only[aG,zD,zA,zB]at h;obtain⟨rfl,rfl⟩:=h;have HD:=Ko aG;have jo:hh=l1+1:=by omega
       subst jo;rw[Nat.sub_self]at cR;by_cases hC:m.cp a.block-bN c=l1+1;rw[if_pos hC]at cR;refine⟨_,w,_,cR,bP.ghost hf (m.blk a.block) (m.sh a.block+a.off) (m.cp a.block-bN c-(l1+1)),PR (zN _) fun m' ha=>?_⟩;rw[Cu];obtain⟨_,_,e3⟩:=AY m s.nx (m.blk a.block) (m.sh a.block+a.off) (m.cp a.block-bN c-(l1+1));exact(ha s.nx (zN _)).2.2.trans e3;rw[if_neg hC]at cR;refine⟨_,w,_,cR,bP.ghost hf (m.blk a.block) (m.sh a.block+a.off+(l1+1)*(sz+1)) (m.cp a.block-bN c-(l1+1)),PR (zN _) fun m' ha=>?_⟩;rw[Cu];obtain⟨_,_,e3⟩:=AY m s.nx (m.blk a.block) (m.sh a.block+a.off+(l1+1)*(sz+1)) (m.cp a.block-bN c-(l1+1));exact(ha s.nx (zN _)).2.2.trans e3
    rw[decide_eq_false dN]at h;simp at h
  |_=>simp[hd]at h
 |_=>simp[hd]at h
end
theorem tK{X H:Type}(f:X->H)(l:List X)(i:Nat):(l.eraseIdx i).map f=(l.map f).eraseIdx i:=by
 induction l generalizing i with|nil=>simp|cons a l ih=>cases i<;>simp[ih]
section
variable{P:Program}{T:Tb}(hT:kS P T){m:Nm}{s:S}{w:World}(hf:gE m s w)
include hT hf
variable{t:TypeId}
variable{mv:Value}
variable{k:Value}
variable{cm:Value}
variable{ck:Value}
variable{bE:S}
theorem qw5{x cx u:Value}(hm:eN m s.nx mv cm)(hk:eN m s.nx k ck)(hx:eN m s.nx x cx)(h:UU T s t mv k x=some (u,bE)):
  O2 P m s w (Instr.mapUpdate t cm ck cx) bE/\u=undef:=by
 unfold UU at h;rcases hd:T.und t with _|dd;simp[hd]at h;cases dd with
 |map kt et=>
  cases mv with
  |map r=>
   rcases r with _|r;simp[hd]at h;simp only[hd]at h;rcases qV:o6 T 50 kt k with _|_;simp[qV]at h;simp only[qV,zC]at h;obtain⟨ty,tC⟩:=Xe qV;rcases nF:plain k with _|_;simp[nF]at h;simp only[nF,zC]at h;rcases hr:AV s r with _|q;simp[hr]at h;obtain⟨es,cl⟩:=q;simp only[hr]at h;have hb:w.heap[m.blk r]? = some (.map (es.map (eM m)).toArray cl):=(hf.fits).ok r _ (Db hr);have F3:cm=.map (some (m.blk r)):=by rw[<-hm.at];simp[aH]
   have eck:ck=k:=by rw[<-hk.at];exact yS m k nF
   have DC:=Ir hT m false 50 9950 w qV;rw[yS m k nF]at DC;have c8:=Yb hf hr;rcases hfx:pM T kt k es 0 with _|fr;simp[hfx]at h;have tI:=LH hT m w tC hfx;rw[yS m k nF]at tI;cases fr with
   |none=>simp only[hfx,zA,zB]at h;obtain⟨rfl,rfl⟩:=h;refine⟨?_,rfl⟩;obtain⟨w₁,h1,h2⟩:=V0 (P:=P) hf hr (es':=es++[{ key:=k,val:=x,born:=cl }]) (cl':=cl+1) (ces:=es.map (eM m)++[{ key:=k,val:=cx,born:=cl }]) (fun m' ha=>by simp[eM,yS m' k nF,hx m' ha];have:=c8 m' ha;simpa[eM]using this);refine⟨m,w₁,?_,h2⟩;rw[F3,eck];simp only[Instr.mapUpdate,zK,gR hT w hd,zJ,JN hb,DC,tI,Option.map_none];rw[<-h1];simp
   |some p=>
    obtain⟨i,pv⟩:=p;simp only[hfx,iQ]at h;rcases hei:es[i]? with _|e;simp[hei]at h;simp only[hei]at h;rcases hv:xF 50 e.key k with _|_;simp[hv]at h;simp only[hv,zC,zA,zB]at h;obtain⟨rfl,rfl⟩:=h;refine⟨?_,rfl⟩;obtain⟨qW,YG⟩:=qn7 (P:=P) hv w;have HA:∀m',aK s.nx m m'->(KI es i fun e=>{ e with val:=x }).map (eM m')=(es.map (eM m)).modify i fun e=>{ e with key:=k,val:=cx }:=fun m' ha=>by rw[ml,<-c8 m' ha];apply List.ext_getElem?;intro j;simp only[List.getElem?_map,List.getElem?_modify];by_cases mO:i=j;subst mO;simp[hei,eM,hx m' ha,YG,yS m' k nF];cases es[j]? <;> simp[mO]
    obtain⟨w₁,h1,h2⟩:=V0 (P:=P) hf hr (cl':=cl) HA;refine⟨m,w₁,?_,h2⟩;have qZ:(es.map (eM m)).toArray[i]? = some (eM m e):=by simp[hei]
    have tH:(eM m e).key=k:=by simp[eM,YG,yS m k nF]
    rw[YG]at qW;rw[F3,eck];simp only[Instr.mapUpdate,zK,gR hT w hd,zJ,JN hb,DC,tI,zM,qZ,Option.getD_some,tH,qW];rw[<-h1];simp
  |_=>simp[hd]at h
 |_=>simp[hd]at h
theorem z07{v:Value}(hm:eN m s.nx mv cm)(hk:eN m s.nx k ck)(h:Bz T s t mv k=some (v,bE)):Eff P m s w (Instr.mapEntry t cm ck) v bE:=by
 unfold Bz at h;rcases hd:T.und t with _|dd;simp[hd]at h;cases dd with
 |map kt et=>
  cases mv with
  |map r=>
   rcases r with _|r;simp[hd]at h;simp only[hd]at h;rcases qV:o6 T 50 kt k with _|_;simp[qV]at h;simp only[qV,zC]at h;obtain⟨ty,tC⟩:=Xe qV;rcases nF:plain k with _|_;simp[nF]at h;simp only[nF,zC]at h;rcases hr:AV s r with _|q;simp[hr]at h;obtain⟨es,cl⟩:=q;simp only[hr]at h;have hb:w.heap[m.blk r]? = some (.map (es.map (eM m)).toArray cl):=(hf.fits).ok r _ (Db hr);have F3:cm=.map (some (m.blk r)):=by rw[<-hm.at];simp[aH]
   have eck:ck=k:=by rw[<-hk.at];exact yS m k nF
   have DC:=Ir hT m false 50 9950 w qV;rw[yS m k nF]at DC;have c8:=Yb hf hr;rcases hfx:pM T kt k es 0 with _|fr;simp[hfx]at h;have tI:=LH hT m w tC hfx;rw[yS m k nF]at tI;cases fr with
   |none=>
    simp only[hfx]at h;rcases hi:T.inf et with _|y;simp[hi]at h;obtain⟨y1,y2,z⟩:=y;have hz:=fun m'=>G4 hT m' w hi
    simp only at hz;simp only[hi,zA,zB]at h;obtain⟨rfl,rfl⟩:=h;obtain⟨w₁,h1,h2⟩:=V0 (P:=P) hf hr (es':=es++[{ key:=k,val:=z,born:=cl }]) (cl':=cl+1) (ces:=es.map (eM m)++[{ key:=k,val:=z,born:=cl }]) (fun m' ha=>by simp[eM,yS m' k nF,(hz m').2];have:=c8 m' ha;simpa[eM]using this);refine⟨m,w₁,.tuple #[z,.int .i64 cl],?_,h2,fun m' _=>by simp[aH,aI,(hz m').2]⟩;rw[F3,eck];have vR:(setObj (m.blk r) (.map ((es.map (eM m)).toArray.push { key:=k,val:=z,born:=cl }) (cl+1))).run P w=.ok () w₁:=by rw[<-h1];simp
    simp only[Instr.mapEntry,zK,gR hT w hd,zJ,JN hb,DC,tI,Option.map_none,(hz m).1,vR,zL,goInt]
   |some p=>
    obtain⟨i,pv⟩:=p;obtain⟨_,e0,Rg,hpv⟩:=z3j es 0 hfx;simp only[Nat.sub_zero]at Rg;simp only[hfx,iQ,Rg]at h;rcases hv:xF 50 e0.key k with _|_;simp[hv]at h;simp only[hv,zC,zA,zB]at h;obtain⟨rfl,rfl⟩:=h;obtain⟨qW,YG⟩:=qn7 (P:=P) hv w;obtain⟨w₁,h1,h2⟩:=V0 (P:=P) hf hr (es':=es) (cl':=cl) c8;have qZ:(es.map (eM m)).toArray[i]? = some (eM m e0):=by simp[Rg]
    have tH:(eM m e0).key=k:=by simp[eM,YG,yS m k nF]
    have Rs:(eM m e0).born=e0.born:=rfl;rw[YG]at qW;have HA:(es.map (eM m)).toArray.modify i (fun e=>{ e with key:=k })=(es.map (eM m)).toArray:=by apply Array.ext';simp only[Array.toList_modify];apply List.ext_getElem?;intro j;simp only[List.getElem?_modify];by_cases mO:i=j;subst mO;simp[Rg,eM,YG,yS m k nF];cases ((es.map (eM m)).toArray.toList)[j]? <;> simp[mO]
    refine⟨m,w₁,.tuple #[aH m pv,.int .i64 e0.born],?_,h2,fun m' ha=>?_⟩;rw[F3,eck];simp only[Instr.mapEntry,zK,gR hT w hd,zJ,JN hb,DC,tI,zM,qZ,Option.getD_some,tH,qW,HA,h1,zL,goInt,Rs];have:=c8 m' ha;have h3:(eM m' e0)=eM m e0:=by have:=congrArg (fun l=>l[i]?) this;simpa[Rg]using this
    have h4:aH m' pv=aH m pv:=by have:=congrArg MapEntry.val h3;simpa[eM,hpv]using this
    simp[aH,aI,h4]
  |_=>simp[hd]at h
 |_=>simp[hd]at h
omit hT in
theorem z3d{t:TypeId}{mv st x cm cst cx u:Value}{bE:S}(hm:eN m s.nx mv cm)(hs:eN m s.nx st cst)(hx:eN m s.nx x cx)(h:Iw s mv st x=some (u,bE)):
  O2 P m s w (Instr.entryStore t cm cst cx) bE/\u=undef:=by
 unfold Iw at h;cases mv with
 |map r=>
  rcases r with _|r;simp at h;cases st with
  |int k b=>
   simp only at h;rcases hr:AV s r with _|q;simp[hr]at h;obtain⟨es,cl⟩:=q;simp only[hr]at h;rcases Rs:OW b es 0 with _|i;simp[Rs]at h;simp only[Rs,zA,zB]at h;obtain⟨rfl,rfl⟩:=h;refine⟨?_,rfl⟩;have hb:w.heap[m.blk r]? = some (.map (es.map (eM m)).toArray cl):=(hf.fits).ok r _ (Db hr);have F3:cm=.map (some (m.blk r)):=by rw[<-hm.at];simp[aH]
   have ecs:cst=.int k b:=by rw[<-hs.at];simp[aH]
   have c8:=Yb hf hr;have Rc:∀(l:List MapEntry)(n i:Nat),OW b l n=some i->n<=i/\(l.map (eM m)).findIdx? (fun e=>(e.born:Int)==b)=some (i-n):=by
    intro l;induction l with
    |nil=>intro n i hh;simp[OW]at hh|cons e l ih=>
     intro n i hh;simp only[OW]at hh;by_cases he:(e.born:Int)=b;simp[he]at hh;subst hh;have cQ:(((eM m e).born:Int)==b)=true:=by simpa[eM]using he
     refine⟨zF _,?_⟩;rw[zQ,List.findIdx?_cons,cQ];simp;simp only[he,yB,zD]at hh;obtain⟨h1,h2⟩:=ih (n+1) i hh;have cQ:(((eM m e).born:Int)==b)=false:=by simpa[eM]using he
     refine⟨by omega,?_⟩;rw[zQ,List.findIdx?_cons,cQ,h2];simp;omega
   obtain⟨_,tI⟩:=Rc es 0 i Rs;have HA:∀m',aK s.nx m m'->(KI es i fun e=>{ e with val:=x }).map (eM m')=(es.map (eM m)).modify i fun e=>{ e with val:=cx }:=fun m' ha=>by rw[ml,<-c8 m' ha];apply List.ext_getElem?;intro j;simp only[List.getElem?_map,List.getElem?_modify];by_cases mO:i=j;subst mO;cases es[i]? <;> simp[eM,hx m' ha];cases es[j]? <;> simp[mO]
   obtain⟨w₁,h1,h2⟩:=V0 (P:=P) hf hr (cl':=cl) HA;refine⟨m,w₁,?_,h2⟩;rw[F3,ecs];have Rd:(es.map (eM m)).toArray.findIdx? (fun e=>(e.born:Int)==b)=some i:=by rw[List.findIdx?_toArray,tI];simp
   simp only[Instr.entryStore,zK,JN hb,zJ,asInt,asIntOf,zL,Rd];rw[<-h1];simp
  |_=>simp at h
 |_=>simp at h
theorem ZO{ty:TypeId}{ts:List TypeId}{v:Value}(hm:eN m s.nx mv cm)(hk:eN m s.nx k ck)(h:DM T s t mv k=some (v,bE)):Eff P m s w (Builtin.delete_ (t::ts).toArray ty #[cm,ck]) v bE:=by
 unfold DM at h;rcases hd:T.und t with _|dd;simp[hd]at h;cases dd with
 |map kt et=>
  cases mv with
  |map r=>
   cases r with
   |none=>
    simp only[hd]at h;rcases qV:o6 T 50 kt k with _|_;simp[qV]at h;simp only[qV,zC,zA,zB]at h;obtain⟨rfl,rfl⟩:=h;have F3:cm=.map none:=by rw[<-hm.at];simp[aH]
    have DC:=Ir hT m true 50 9950 w qV;rw[hk.at]at DC;refine⟨m,w,undef,?_,bP.refl hf,yT fun _=>by simp[undef,aH,aI]⟩;rw[F3];have N9:(Instr.checkKey true 10000 kt ck).run P w=.ok () w:=DC;simp[Builtin.delete_,gR hT w hd,N9,undef]
   |some r=>
    simp only[hd]at h;rcases qV:o6 T 50 kt k with _|_;simp[qV]at h;simp only[qV,zC]at h;obtain⟨ty,tC⟩:=Xe qV;rcases hr:AV s r with _|q;simp[hr]at h;obtain⟨es,cl⟩:=q;simp only[hr]at h;have hb:w.heap[m.blk r]? = some (.map (es.map (eM m)).toArray cl):=(hf.fits).ok r _ (Db hr);have F3:cm=.map (some (m.blk r)):=by rw[<-hm.at];simp[aH]
    have DC:=Ir hT m (es.map (eM m)).toArray.isEmpty 50 9950 w qV;rw[hk.at]at DC;have N9:(Instr.checkKey (es.map (eM m)).toArray.isEmpty 10000 kt ck).run P w=.ok () w:=DC;have c8:=Yb hf hr;rcases hfx:pM T kt k es 0 with _|fr;simp[hfx]at h;have tI:=LH hT m w tC hfx;rw[hk.at]at tI;cases fr with
    |none=>simp only[hfx,zA,zB]at h;obtain⟨rfl,rfl⟩:=h;obtain⟨w₁,h1,h2⟩:=V0 (P:=P) hf hr (es':=es) (cl':=cl) c8;refine⟨m,w₁,undef,?_,h2,yT fun _=>by simp[undef,aH,aI]⟩;rw[F3];simp only[Builtin.delete_,List.getElem?_toArray,List.getElem?_cons_zero,zH,zK,gR hT w hd,zJ,JN hb,N9,tI,Option.map_none,h1,zL,undef]
    |some p=>
     obtain⟨i,pv⟩:=p;simp only[hfx,zA,zB]at h;obtain⟨rfl,rfl⟩:=h;obtain⟨w₁,h1,h2⟩:=V0 (P:=P) hf hr (es':=UX es i) (cl':=cl) (ces:=(es.map (eM m)).eraseIdx i) (fun m' ha=>by rw[qrx,<-c8 m' ha,tK]);refine⟨m,w₁,undef,?_,h2,yT fun _=>by simp[undef,aH,aI]⟩;have vR:(setObj (m.blk r) (.map ((es.map (eM m)).toArray.eraseIdxIfInBounds i) cl)).run P w=.ok () w₁:=by rw[<-h1];simp
     rw[F3];simp only[Builtin.delete_,List.getElem?_toArray,List.getElem?_cons_zero,zH,zK,gR hT w hd,zJ,JN hb,N9,tI,zM,vR,zL,undef]
  |_=>simp[hd]at h
 |_=>simp[hd]at h
end
def vF(m:Nm)(n:Nat)(tm:List Value)(a:Act):Prop:=∀m',aK n m m'->a.tmps=⟨aI m' tm⟩
variable{m:Nm}
variable{n:Nat}
variable{tm:List Value}
variable{a:Act}
theorem vF.ext{m':Nm}{n':Nat}(h:vF m n tm a)(ha:aK n m m')(hn:n<=n'):vF m' n' tm a:=fun k hk=>h k (ha.trans hk hn)
variable{v:Value}
theorem vF.evalO(h:vF m n tm a){x:Operand}(hx:evalO tm x=some v):eN m n v (a.eval x):=fun m' ha=>(k7 (h m' ha) hx).symm
theorem z4j(m:Nm)(tm:List Value)(d:Nat)(v:Value):aI m (tm.set d v)=(aI m tm).set d (aH m v):=by simp[m4,List.map_set]
theorem vF.put{m:Nm}{n:Nat}{tm:List Value}{a:Act}(h:vF m n tm a){v cv:Value}(hv:eN m n v cv)(d:Option Tmp):vF m n (KG tm d v) (a.put d cv):=fun m' ha=>by
 rcases d with _|d;exact h m' ha;simp only[Act.put,KG,h m' ha,z4j,hv m' ha,List.setIfInBounds_toArray]
section
variable{P:Program}{T:Tb}(hT:kS P T){m:Nm}{s:S}{w:World}(hf:gE m s w)
include hT hf
theorem ZM(ha:vF m s.nx tm a)(o:Oper){bE:S}(h:rX T tm s o.op=some (v,bE)):
  ∃aJ w₁ cv nxt,(execOp a.eval o).run P w=.ok nxt w₁/\(nxt=.value cv\/(nxt=.skip/\cv=undef))/\bP m s w aJ bE w₁/\eN aJ bE.nx v cv:=by
 obtain⟨dst,op,type,pos,after,guard⟩:=o;simp only at h;have eC:∀{x:Sem Value},Eff P m s w x v bE->∃aJ w₁ cv nxt,(do let y <-x;pure (Next.value y):Sem Next).run P w=.ok nxt w₁/\(nxt=.value cv\/(nxt=.skip/\cv=undef))/\bP m s w aJ bE w₁/\eN aJ bE.nx v cv:=by rintro x ⟨aJ,w₁,cv,h1,h2,h3⟩;exact⟨aJ,w₁,cv,_,by simp only[zK,h1,zJ,zL],.inl rfl,h2,h3⟩
 have B6:∀{x:Sem Unit},O2 P m s w x bE/\v=undef->∃aJ w₁ cv nxt,(do x;pure Next.skip:Sem Next).run P w=.ok nxt w₁/\(nxt=.value cv\/(nxt=.skip/\cv=undef))/\bP m s w aJ bE w₁/\eN aJ bE.nx v cv:=by rintro x ⟨⟨aJ,w₁,h1,h2⟩,rfl⟩;exact⟨aJ,w₁,undef,_,by simp only[zK,h1,zJ,zL],.inr ⟨rfl,rfl⟩,h2,yT fun _=>by simp[undef,aH,aI]⟩
 unfold rX at h;cases op with
 |alloc e=>simp only at h;rcases hi:T.inf e with _|x;simp[hi]at h;obtain⟨x1,x2,z⟩:=x;simp only[hi,zA,zB]at h;obtain⟨rfl,rfl⟩:=h;have hz:=(G4 hT m w hi).1;have tY:=Cs hT hi;simp only at hz tY;refine eC ⟨_,_,.pointer (some ⟨w.heap.size,0,none⟩),?_,Wt hf (Xw tY) e 0,qwr _ _ _ _ (zN _)⟩;simp[Instr.alloc,hz,newVar,Go.newRow]
 |box e x=>simp only at h;rcases hx:evalO tm x with _|u;simp[hx]at h;simp only[hx,zA,zB]at h;obtain⟨rfl,rfl⟩:=h;refine eC ⟨_,_,.pointer (some ⟨w.heap.size,0,none⟩),?_,Wt hf (ha.evalO hx).cells e 0,qwr _ _ _ _ (zN _)⟩;simp[Instr.box,newVar,Go.newRow]
 |store t p x=>simp only at h;rcases hp:evalO tm p with _|u;simp[hp]at h;rcases hx:evalO tm x with _|u';simp[hp,hx]at h;simp only[hp,hx]at h;exact B6 (z4n hT hf (ha.evalO hp) (ha.evalO hx) h)
 |buildSlice t n ps=>
  simp only at h;rcases hp:FY tm ps.toList with _|qs;simp[hp]at h;simp only[hp]at h;have e1:(ps.map fun(i,x)=>(i,a.eval x))=(ps.toList.map fun p=>(p.1,a.eval p.2)).toArray:=by cases ps;simp
  have:=quc hT hf (cps:=ps.toList.map fun p=>(p.1,a.eval p.2)) (fun m' eG=>(sd (ha m' eG) hp).symm) h;simp only[execOp];rw[e1];exact eC this
 |makeSlice t l c=>simp only at h;rcases hp:evalO tm l with _|u;simp[hp]at h;rcases hx:evalO tm c with _|u';simp[hp,hx]at h;simp only[hp,hx]at h;exact eC (z76 hT hf (ha.evalO hp) (ha.evalO hx) h)
 |makeMap t r=>cases r with|some r=>simp at h|none=>simp only[zA,zB]at h;obtain⟨rfl,rfl⟩:=h;refine eC ⟨_,_,.map (some w.heap.size),?_,bP.alloc hf (.map #[] 0) (.inr ([],0)) 0 ?_,fun m' eG=>?_⟩;simp[Instr.makeMap];intro m' eG;have e1:=(eG s.nx (zN _)).1;simp only[wB,e1,(AY m s.nx w.heap.size 0 0).1];show(w.heap.push _)[w.heap.size]? = _;simp;have e1:=(eG s.nx (zN _)).1;simp only[aH,e1,(AY m s.nx w.heap.size 0 0).1]
 |slice t x lo hi mx=>simp only at h;rcases hx:evalO tm x with _|u;simp[hx]at h;rcases h1:pY tm lo with _|l;simp[hx,h1]at h;rcases h2:pY tm hi with _|hh;simp[hx,h1,h2]at h;rcases h3:pY tm mx with _|mm;simp[hx,h1,h2,h3]at h;simp only[hx,h1,h2,h3]at h;exact eC (z1m hT hf (ha.evalO hx) (fun m' eG=>(LL (ha m' eG) h1).symm) (fun m' eG=>(LL (ha m' eG) h2).symm) (fun m' eG=>(LL (ha m' eG) h3).symm) h)
 |mapUpdate t q k x=>simp only at h;rcases h1:evalO tm q with _|u1;simp[h1]at h;rcases h2:evalO tm k with _|u2;simp[h1,h2]at h;rcases h3:evalO tm x with _|u3;simp[h1,h2,h3]at h;simp only[h1,h2,h3]at h;exact B6 (qw5 hT hf (ha.evalO h1) (ha.evalO h2) (ha.evalO h3) h)
 |insert t q k x=>simp only at h;rcases h1:evalO tm q with _|u1;simp[h1]at h;rcases h2:evalO tm k with _|u2;simp[h1,h2]at h;rcases h3:evalO tm x with _|u3;simp[h1,h2,h3]at h;simp only[h1,h2,h3]at h;exact B6 (qw5 hT hf (ha.evalO h1) (ha.evalO h2) (ha.evalO h3) h)
 |mapEntry t q k=>simp only at h;rcases h1:evalO tm q with _|u1;simp[h1]at h;rcases h2:evalO tm k with _|u2;simp[h1,h2]at h;simp only[h1,h2]at h;exact eC (z07 hT hf (ha.evalO h1) (ha.evalO h2) h)
 |entryStore t q k x=>simp only at h;rcases h1:evalO tm q with _|u1;simp[h1]at h;rcases h2:evalO tm k with _|u2;simp[h1,h2]at h;rcases h3:evalO tm x with _|u3;simp[h1,h2,h3]at h;simp only[h1,h2,h3]at h;exact B6 (z3d hf (ha.evalO h1) (ha.evalO h2) (ha.evalO h3) h)
 |call c=>
  obtain⟨callee,args,ats⟩:=c;simp only at h;cases callee with
  |builtin b=>
   cases b with
   |append=>
    simp only at h;rcases hx:jK tm args.toList with _|vs;simp[hx]at h;rcases vs with _ |⟨x,_ |⟨y,_ |⟨z,l⟩⟩⟩;simp[hx]at h;simp[hx]at h;obtain⟨ats⟩:=ats;rcases ats with _ |⟨t,_ |⟨xt,_ |⟨q,r⟩⟩⟩;simp[hx]at h;simp[hx]at h;simp only[hx]at h;have e0:=sC (ha m (aK.refl _ _)) hx;simp only[aI]at e0;have r1:eN m s.nx x (aH m x):=fun m' eG=>by have e1:=sC (ha m' eG) hx;rw[e0]at e1;simp only[aI]at e1;simp at e1;exact e1.1.symm
    have r2:eN m s.nx y (aH m y):=fun m' eG=>by have e1:=sC (ha m' eG) hx;rw[e0]at e1;simp only[aI]at e1;simp at e1;exact e1.2.symm
    obtain⟨aJ,w₁,cv,g1,g2,g3⟩:=qxa hT hf (ty:=type) r1 r2 h;refine⟨aJ,w₁,cv,.value cv,?_,.inl rfl,g2,g3⟩;simp only[execOp,zK,resolve,zL,zJ,invoke,builtin,e0];rw[g1];rfl;simp[hx]at h;simp[hx]at h
   |copy=>
    simp only at h;rcases hx:jK tm args.toList with _|vs;simp[hx]at h;rcases vs with _ |⟨x,_ |⟨y,_ |⟨z,l⟩⟩⟩;simp[hx]at h;simp[hx]at h;obtain⟨ats⟩:=ats;rcases ats with _ |⟨t,ts⟩;simp[hx]at h;simp only[hx]at h;have e0:=sC (ha m (aK.refl _ _)) hx;simp only[aI]at e0;have r1:eN m s.nx x (aH m x):=fun m' eG=>by have e1:=sC (ha m' eG) hx;rw[e0]at e1;simp only[aI]at e1;simp at e1;exact e1.1.symm
    have r2:eN m s.nx y (aH m y):=fun m' eG=>by have e1:=sC (ha m' eG) hx;rw[e0]at e1;simp only[aI]at e1;simp at e1;exact e1.2.symm
    obtain⟨aJ,w₁,cv,g1,g2,g3⟩:=z6s hT hf (ty:=type) (ts:=ts) r1 r2 h;refine⟨aJ,w₁,cv,.value cv,?_,.inl rfl,g2,g3⟩;simp only[execOp,zK,resolve,zL,zJ,invoke,builtin,e0];rw[g1];rfl;simp[hx]at h
   |delete=>
    simp only at h;rcases hx:jK tm args.toList with _|vs;simp[hx]at h;rcases vs with _ |⟨x,_ |⟨y,_ |⟨z,l⟩⟩⟩;simp[hx]at h;simp[hx]at h;obtain⟨ats⟩:=ats;rcases ats with _ |⟨t,ts⟩;simp[hx]at h;simp only[hx]at h;have e0:=sC (ha m (aK.refl _ _)) hx;simp only[aI]at e0;have r1:eN m s.nx x (aH m x):=fun m' eG=>by have e1:=sC (ha m' eG) hx;rw[e0]at e1;simp only[aI]at e1;simp at e1;exact e1.1.symm
    have r2:eN m s.nx y (aH m y):=fun m' eG=>by have e1:=sC (ha m' eG) hx;rw[e0]at e1;simp only[aI]at e1;simp at e1;exact e1.2.symm
    obtain⟨aJ,w₁,cv,g1,g2,g3⟩:=ZO hT hf (ty:=type) (ts:=ts) r1 r2 h;refine⟨aJ,w₁,cv,.value cv,?_,.inl rfl,g2,g3⟩;simp only[execOp,zK,resolve,zL,zJ,invoke,builtin,e0];rw[g1];rfl;simp[hx]at h
   |clear=>
    simp only at h;rcases hx:jK tm args.toList with _|vs;simp[hx]at h;rcases vs with _ |⟨x,_ |⟨y,l⟩⟩;simp[hx]at h;obtain⟨ats⟩:=ats;rcases ats with _ |⟨t,ts⟩;simp[hx]at h;simp only[hx]at h;have e0:=sC (ha m (aK.refl _ _)) hx;simp only[aI]at e0;have r1:eN m s.nx x (aH m x):=fun m' eG=>by have e1:=sC (ha m' eG) hx;rw[e0]at e1;simp only[aI]at e1;simp at e1;exact e1.symm
    obtain⟨aJ,w₁,cv,g1,g2,g3⟩:=z36 hT hf (ty:=type) (ts:=ts) r1 h;refine⟨aJ,w₁,cv,.value cv,?_,.inl rfl,g2,g3⟩;simp only[execOp,zK,resolve,zL,zJ,invoke,builtin,e0];rw[g1];rfl;simp[hx]at h
   |_=>simp at h
  |_=>simp at h
 |_=>simp at h
end
def Bu(P:Program)(call:EF):Prop :=
 ∀f args s v bE,call f args s=some (v,bE)->∀m w bH,gE m s w->mW m s.nx args bH->
  Calls P f bH.toArray w fun e w₁=>∃aJ cv,e=.returned cv/\bP m s w aJ bE w₁/\eN aJ bE.nx v cv
section
variable{P:Program}{T:Tb}(hT:kS P T){call:EF}(hC:Bu P call)
include hT
theorem qrm(ha:vF m n tm a)(o:Oper)(w:World){f:FuncId}{args:List Value}(h:callOf T tm o.op=some (f,args)):
  ∃bH,(execOp a.eval o).run P w=.ok (.enter f bH.toArray) w/\mW m n args bH:=by
 obtain⟨dst,op,type,pos,after,guard⟩:=o;simp only at h;unfold callOf at h;cases op with
 |call c=>
  obtain⟨callee,a7,ats⟩:=c;simp only at h;cases callee with
  |value g=>
   simp only at h;rcases hg:evalO tm g with _|u;simp[hg]at h;cases u with
   |func fn first cap=>
    cases fn with
    |func k=>
     simp only[hg]at h;rcases hk:T.fn k with _|fn;simp[hk]at h;simp only[hk]at h;rcases hb:fn.body.isSome with _|_;simp[hb]at h;simp only[hb,zC]at h;rcases hl:jK tm a7.toList with _|vs;simp[hl]at h;simp only[hl,zA,zB]at h;obtain⟨rfl,rfl⟩:=h;obtain⟨jn,H9⟩:=hT.fn k fn hk;obtain⟨first⟩:=first
     obtain⟨cap⟩:=cap;have e0:=k7 (ha m (aK.refl _ _)) hg;have e1:=sC (ha m (aK.refl _ _)) hl;refine⟨aI m first++aI m vs++aI m cap,?_,fun m' eG=>?_⟩;have ak:fn.body.isNone=false:=by cases hbb:fn.body<;>simp_all
     simp only[aH,gP]at e0;simp only[execOp,zK,resolve,e0,e1,Deferred.ofValue,zL,zJ,invoke,callFunc,run_program,jn,H9 hb,ak,Bool.false_eq_true,if_false];simp;have NU:=k7 (ha m' eG) hg;have NT:=sC (ha m' eG) hl;rw[e0]at NU;rw[e1]at NT;simp only[aH,gP]at NU;simp at NU NT;rw[wG,wG,NU.1,NU.2,NT]
    |_=>simp[hg]at h
   |_=>simp[hg]at h
  |_=>simp at h
 |_=>simp at h
include hC
theorem QD{s:S}{w:World}(hf:gE m s w)(ha:vF m s.nx tm a)(o:Oper){bE:S}(h:xU T call tm s o.op=some (v,bE))
  {next:Act->World->Prop} {Q:Exit->Act->World->Prop} (hn:∀aJ w₁ cv,bP m s w aJ bE w₁->eN aJ bE.nx v cv->next (a.put o.dst cv) w₁):o.wp P a w next Q:=by
 unfold xU at h;unfold Oper.wp;cases h1:hH T tm o.op with
 |some u=>simp only[h1,zA,zB]at h;obtain⟨rfl,rfl⟩:=h;have cR:=fun m' eG=>z7g hT m' w (ha m' eG) o h1;rw[cR m (aK.refl _ _)];refine hn m w _ (bP.refl hf) fun m' eG=>?_;have e1:=cR m' eG;rw[cR m (aK.refl _ _)]at e1;simp at e1;exact e1.symm
 |none=>
  simp only[h1]at h;cases h2:mX T tm s o.op with
  |some u=>simp only[h2,zA,zB]at h;obtain⟨rfl,rfl⟩:=h;have cR:=fun m' eG=>mc hT m' w (hf m' eG) (ha m' eG) o h2;rw[cR m (aK.refl _ _)];refine hn m w _ (bP.refl hf) fun m' eG=>?_;have e1:=cR m' eG;rw[cR m (aK.refl _ _)]at e1;simp at e1;exact e1.symm
  |none=>
   simp only[h2]at h;cases h3:rX T tm s o.op with
   |some r=>simp only[h3,zA]at h;subst h;obtain⟨aJ,w₁,cv,nxt,g1,g2,g3,g4⟩:=ZM hT hf ha o h3;rw[g1];rcases g2 with rfl |⟨rfl,rfl⟩;exact hn aJ w₁ cv g3 g4;exact hn aJ w₁ undef g3 g4
   |none=>simp only[h3]at h;rcases h4:callOf T tm o.op with _|q;simp[h4]at h;obtain⟨f,args⟩:=q;simp only[h4]at h;obtain⟨bH,g1,g2⟩:=qrm hT ha o w h4;rw[g1];show Calls P f _ w _;refine(hC f args s v bE h m w bH hf g2).mono ?_;rintro e w₁ ⟨aJ,cv,rfl,g3,g4⟩;exact hn aJ w₁ cv g3 g4
omit hC hT in
theorem sr{m:Nm}{tm:List Value}{a:Act}(ha:a.tmps=⟨aI m tm⟩)(aA:Array Oper)(o:Oper):Region.wanted o (yielded aA a.tmps)=Jc aA.toList tm o:=by
 unfold Region.wanted Jc;rcases o.guard with _|g;rfl;obtain⟨j,want⟩:=g;simp only[yielded,yO,iQ,ha];have hj:aA.toList[j]? = aA[j]?:=by simp
 rw[hj];rcases aA[j]? with _|q;simp;simp only[Option.bind_some];rcases hd:q.dst with _|d;simp;simp only[Option.bind_some,List.getElem?_toArray,m4,List.getElem?_map];rcases tm[d]? with _|v;simp;simp only[zM];cases v with
 |pointer p=>cases p<;>simp[aH]|slice p n c=>cases p<;>simp[aH]
 |map r=>cases r<;>simp[aH]|chan r=>cases r<;>simp[aH]
 |bool b=>simp[aH]|_=>simp[aH]
end
theorem JK{b c:Bool}(h:cond b c false=true):b=true/\c=true:=by cases b<;>simp_all
theorem qxt{l:List Operand}{t:Tmp}(h : .tmp t∈l):t∈tmpsOf l:=by
 induction l with|nil=>simp at h|cons x l ih=>rcases zI.1 h with rfl |h2;simp[tmpsOf];cases x<;>simp[tmpsOf,ih h2]
section
variable{T:Tb}{tm tm':List Value}{op:Op}
end
variable{k:Nat}
theorem z08{aY:List Nat}{es:List Edge}(h:(L3 aY es).testBit k=true):∃e∈es,Region.binds .any e=true/\(k=e.on\/∃x,aY[e.on]? = some x/\x.testBit k=true):=by
 induction es with
 |nil=>simp[L3]at h|cons e es ih=>
  simp only[L3,iQ]at h;cases hb:Region.binds .any e with
  |false=>simp only[hb,zD]at h;obtain⟨e',h1,h2⟩:=ih h;exact⟨e',by simp[h1],h2⟩
  |true=>simp only[hb,zC,Nat.testBit_or,Bool.or_eq_true]at h;rcases h with(h |h)|h;refine⟨e,by simp,hb,.inl ?_⟩;rw[Nat.testBit_two_pow]at h;simpa using(of_decide_eq_true h).symm;refine⟨e,by simp,hb,.inr ?_⟩;rcases hx:aY[e.on]? with _|x;simp[hx]at h;simp only[hx]at h;exact⟨x,rfl,h⟩;obtain⟨e',h1,h2⟩:=ih h;exact⟨e',by simp[h1],h2⟩
theorem pc:∀(l:List Oper)(aY:List Nat),(eA l aY).length=aY.length+l.length/\(eA l aY).take aY.length=aY/\
  ∀i o,l[i]? = some o->(eA l aY)[aY.length+i]? = some (L3 ((eA l aY).take (aY.length+i)) o.after.toList)
 |[],aY=>by simp[eA]
 |o::l,aY=>by
  obtain⟨h1,h2,h3⟩:=pc l (aY++[L3 aY o.after.toList]);simp only[eA];refine⟨by rw[h1];simp;omega,?_,fun i q hq=>?_⟩;have:=congrArg (List.take aY.length) h2;rw[List.take_take]at this;simpa using this;cases i with
  |zero=>
   simp only[List.getElem?_cons_zero,zA]at hq;subst hq;have e1:(eA l (aY++[L3 aY o.after.toList])).take aY.length=aY:=by have:=congrArg (List.take aY.length) h2;rw[List.take_take]at this;simpa using this
   rw[Nat.add_zero,e1];have:=congrArg (fun z=>z[aY.length]?) h2;simp only[List.getElem?_take]at this;simpa using this
  |succ i=>simp only[zH]at hq;have:=h3 i q hq;simp only[zU,zO,zS]at this;rw[show aY.length+(i+1)=aY.length+(0+1)+i by omega];exact this
section
variable(aA:List Oper)
def Pre(i k:Nat):Prop:=∃x,(eA aA [])[i]? = some x/\x.testBit k=true
variable{i:Nat}
theorem mh(h:Pre aA i k):∃o e,aA[i]? = some o/\e∈o.after.toList/\Region.binds .any e=true/\(k=e.on\/Pre aA e.on k):=by
 obtain⟨x,h1,h2⟩:=h;obtain⟨g1,_,g3⟩:=pc aA [];have hi:i<aA.length:=by have:=(zG.1 h1).1;simp at g1;omega
 have ho:aA[i]? = some aA[i]:=by simp[hi]
 have:=g3 i _ ho;simp only[zS,Nat.zero_add]at this;rw[h1]at this;simp only[zA]at this;rw[this]at h2;obtain⟨e,he,hb,hk⟩:=z08 h2;refine⟨_,e,ho,he,hb,?_⟩;rcases hk with hk |⟨y,hy,hyk⟩;exact .inl hk;refine .inr ⟨y,?_,hyk⟩;rw[List.getElem?_take]at hy;split at hy;exact hy;cases hy
theorem z44{es:List Edge}(h:CU i es=true):∀e∈es,Region.binds .any e=true->e.on<i:=by
 induction es with
 |nil=>simp|cons e es ih=>
  simp only[CU]at h;intro e' K7 cQ;cases hb:Region.binds .any e with
  |false=>simp only[hb,zD]at h;rcases zI.1 K7 with rfl |K7;rw[hb]at cQ;cases cQ;exact ih h e' K7 cQ
  |true=>simp only[hb,zC]at h;obtain⟨h1,h2⟩:=JK h;rcases zI.1 K7 with rfl |K7;exact G6 h1;exact ih h2 e' K7 cQ
theorem qtb{lk:List Tmp}{di:Option Tmp}{i mi:Nat}:∀(l:List Oper)(ms:List Nat)(b:Nat),rowOk lk di i mi l ms b=true->∀j o,l[j]? = some o->∃mk,ms[j]? = some mk/\vt lk di i mi (b+j) mk o.dst=true
 |[],_,_,_=>fun j o h=>by simp at h
 |o::l,[],b,h=>by simp[rowOk]at h
 |o::l,mk::ms,b,h=>fun j q hq=>by
  simp only[rowOk]at h;obtain⟨h1,h2⟩:=JK h;cases j with
  |zero=>simp at hq;subst hq;exact⟨mk,rfl,h1⟩|succ j=>simp only[zH]at hq;obtain⟨mk',g1,g2⟩:=qtb l ms (b+1) h2 j q hq;exact⟨mk',by simpa using g1,by rw[show b+(j+1)=b+1+j by omega];exact g2⟩
theorem pu{ms:List Nat}:∀(l:List Oper)(mr:List Nat)(b:Nat),Ih aA ms l mr b=true->∀j o,l[j]? = some o->∃mi,mr[j]? = some mi/\CU (b+j) o.after.toList=true/\rowOk (L7 aA o) o.dst (b+j) mi aA ms 0=true
 |[],_,_,_=>fun j o h=>by simp at h
 |o::l,[],b,h=>by simp[Ih]at h
 |o::l,mi::mr,b,h=>fun j q hq=>by
  simp only[Ih]at h;obtain⟨h1,h2⟩:=JK h;obtain⟨h2,h3⟩:=JK h2;cases j with
  |zero=>simp at hq;subst hq;exact⟨mi,rfl,h1,h2⟩|succ j=>simp only[zH]at hq;obtain⟨mi',g1,g2,g3⟩:=pu l mr (b+1) h3 j q hq;refine⟨mi',by simpa using g1,?_,?_⟩;rw[show b+(j+1)=b+1+j by omega];exact g2;rw[show b+(j+1)=b+1+j by omega];exact g3
variable{aA}(c8:VJ aA=true)
include c8
theorem vf{o:Oper}(ho:aA[i]? = some o):∀e∈o.after.toList,Region.binds .any e=true->e.on<i:=by
 obtain⟨_,_,h2,_⟩:=pu aA aA _ 0 c8 i o ho;rw[Nat.zero_add]at h2;exact z44 h2
theorem X_{o q:Oper}(ho:aA[i]? = some o)(hq:aA[k]? = some q)(D9:i≠k){d:Tmp}(hd:q.dst=some d):o.dst≠some d/\(d∈L7 aA o->Pre aA i k\/Pre aA k i):=by
 obtain⟨mi,h1,_,h3⟩:=pu aA aA _ 0 c8 i o ho;obtain⟨mk,h4,h5⟩:=qtb aA _ 0 h3 k q hq;simp only[Nat.zero_add,vt,hd,beq_eq,D9,yB,zD]at h5;have tail:(cond ((L7 aA o).any (Nat.beq d)) (cond (mi.testBit k) true (mk.testBit i)) true=true)->d∈L7 aA o->Pre aA i k\/Pre aA k i:=fun h6 hl=>by have ft:(L7 aA o).any (Nat.beq d)=true:=List.any_eq_true.2 ⟨d,hl,by simp⟩;rw[ft]at h6;simp only[zC]at h6;rcases hb:mi.testBit k with _|_;simp only[hb,zD]at h6;exact .inr ⟨mk,h4,h6⟩;exact .inl ⟨mi,h1,hb⟩
 cases hod:o.dst with|none=>simp only[hod,zD]at h5;exact⟨by simp,tail h5⟩|some d'=>simp only[hod]at h5;by_cases e:d=d';simp[e]at h5;simp only[e,yB,zD]at h5;exact⟨by simpa using fun x=>e x.symm,tail h5⟩
theorem e_:∀(i k:Nat),Pre aA i k->k<i:=by
 intro i;induction i using Nat.strongRecOn with
 |_ i ih=>intro k h;obtain⟨o,e,h1,h2,h3,h4⟩:=mh aA h;have aG:=vf c8 h1 e h2 h3;rcases h4 with rfl |h4;exact aG;exact Nat.lt_trans (ih e.on aG k h4) aG
def Closed(aA:List Oper)(L:Nat->Prop):Prop:=∀i o,L i->aA[i]? = some o->∀e∈o.after.toList,Region.binds .any e=true->L e.on
theorem gi{L:Nat->Prop}(hL:Closed aA L):∀(i k:Nat),L i->Pre aA i k->L k:=by
 intro i;induction i using Nat.strongRecOn with
 |_ i ih=>intro k hi h;obtain⟨o,e,h1,h2,h3,h4⟩:=mh aA h;have aG:=vf c8 h1 e h2 h3;have he:=hL i o hi h1 e h2 h3;rcases h4 with rfl |h4;exact he;exact ih e.on aG k he h4
theorem Xp{L:Nat->Prop}(hL:Closed aA L)(hi:∀o,aA[i]? = some o->∀e∈o.after.toList,Region.binds .any e=true->L e.on)(h:Pre aA i k):L k:=by
 obtain⟨o,e,h1,h2,h3,h4⟩:=mh aA h;have he:=hi o h1 e h2 h3;rcases h4 with rfl |h4;exact he;exact gi c8 hL e.on k he h4
end
section
variable{P:Program}{T:Tb}(hT:kS P T){call:EF}(hC:Bu P call)(aA:Array Oper){tm₀:List Value}{yt:S}{rs:List Rec}{tm':List Value}{s':S}
 (iY:rk T call aA.toList aA.toList tm₀ yt=some (rs,tm',s')) (c8:VJ aA.toList=true) (hrs:c_ T rs (eA aA.toList []) rs (eA aA.toList []) 0=true)
include iY c8
include hT hC hrs
end
section
variable{P:Program}{T:Tb}(hT:kS P T){call:EF}(hC:Bu P call)
include hT hC
end
theorem vz(n:Nat)(l:List Value):pad n l=l++List.replicate (n-l.length) undef:=by
 induction n generalizing l with|zero=>simp[pad]|succ n ih=>rcases l with _|⟨v,l⟩;simp[pad,ih,List.replicate_succ];simp[pad,ih]
section
variable{P:Program}{T:Tb}(hT:kS P T)
include hT
theorem vq{m:Nm}{s:S}{w:World}(hf:Fits m s w){tm:List Value}(F:ResultVar->Sem Value)(Sb:∀t,F (.tmp t)=pure ((⟨aI m tm⟩:Array Value).getD t undef))
  (Sa:∀a t,F (.cell a t)=(do loadVar t (<-asAddr ((⟨aI m tm⟩:Array Value).getD a undef)))):∀(rs:List ResultVar)(vs:List Value),E5 T tm s rs=some vs->(rs.mapM F).run P w=.ok (aI m vs) w
 |[],vs,h=>by simp[E5]at h;subst h;simp[aI]
 |.tmp t::rs,vs,h=>by
  simp only[E5,iQ]at h;rcases ht:tm[t]? with _|v;simp[ht]at h;simp only[ht]at h;rcases hr:E5 T tm s rs with _|l;simp[hr]at h;simp only[hr,zA]at h;subst h;have ih:=vq hf F Sb Sa rs l hr;have e1:(⟨aI m tm⟩:Array Value).getD t undef=aH m v:=by simp[m4,ht]
  simp only[List.mapM_cons,zK,Sb,zL,zJ,ih,e1,aI]
 |.cell a t::rs,vs,h=>by
  simp only[E5]at h;rcases ht:mX T tm s (.load t (.tmp a))with _|v;simp[ht]at h;simp only[ht]at h;rcases hr:E5 T tm s rs with _|l;simp[hr]at h;simp only[hr,zA]at h;subst h;have ih:=vq hf F Sb Sa rs l hr;simp only[mX,evalO]at ht;rcases QX:nth tm a with _|u;simp[QX]at ht;cases u with
  |pointer p=>
   rcases p with _|q;simp[QX]at ht;simp only[QX]at ht;rcases hl:lk s.h q.block with _|blk;simp[hl]at ht;rcases blk with⟨l',e,md⟩|x;simp only[hl]at ht;have Qm:=Wv hT m w hf hl ht;rw[iQ]at QX;have e1:(⟨aI m tm⟩:Array Value).getD a undef=.pointer (some ⟨m.blk q.block,m.sh q.block+q.off,none⟩):=by simp[m4,QX,aH]
   simp only[List.mapM_cons,zK,Sa,e1,asAddr,zL,zJ,Qm,ih,aI];simp[hl]at ht
  |_=>simp[QX]at ht
theorem pz{m:Nm}{s:S}{w:World}(hf:Fits m s w){tm:List Value}{fn:Func}{vs:List Value}(h:E5 T tm s fn.results.toList=some vs):
  (results fn ⟨aI m tm⟩).run P w=.ok (aH m (vD vs)) w:=by
 unfold results;rw[zK,Array.mapM_eq_mapM_toList,Sem.run_map,vq hT hf _ (fun t=>rfl) (fun a t=>rfl) fn.results.toList vs h];simp only[zJ,zL];congr 1;rcases vs with _ |⟨v,_ |⟨u,l⟩⟩;simp[aI,vD,aH];simp[aI,vD];simp[aI,vD,aH]
end
theorem mq(P:Program)(t:TypeId):P.info? t=P.types[t]? \/P.types[t]? = none:=by
 by_cases h:t<P.types.size;exact .inl (by unfold Tables.info?;rw[if_pos h]);exact .inr (Array.getElem?_eq_none (Nat.le_of_not_lt h))
theorem z7s (P : Program) (eqs : List TypeId) (hm : P.follows .mixedOrders = true) (hn : ∀ f ∈ P.funcs.toList, f.body.isSome = true → (f.name == "runtime.NumGoroutine") = false)
  (he:∀t∈eqs,P.stoodInHeld t=false/\P.eqGuardType P.depth t=false):kS P (C3 P eqs) where
 und t d h:=by
  simp only[C3,iQ]at h;rcases ht:P.types.toList[t]? with _|i;simp[ht]at h;have hi:P.info? t=some i:=by
   have tD:P.types[t]? = some i:=by simpa using ht
   rcases mq P t with h1 |h1;rw[h1,tD];rw[h1]at tD;cases tD
  simp only[ht]at h;unfold Program.underlying;rw[hi];obtain⟨desc,s1,s2,s3,s4,s5,s6,s7,s8,s9⟩:=i;cases desc with
  |named nm u=>
   simp only at h ⊢;rcases hu:P.types.toList[u]? with _|j;simp[hu]at h;have hj:P.info? u=some j:=by
    have EV:P.types[u]? = some j:=by simpa using hu
    rcases mq P u with h1 |h1;rw[h1,EV];rw[h1]at EV;cases EV
   simp only[hu,zA]at h;rw[hj];simp[h]
  |_=>simpa using h
 inf t a b z h:=by
  simp only[C3,iQ]at h;rcases ht:P.types.toList[t]? with _|i;simp[ht]at h;have hi:P.info? t=some i:=by
   have tD:P.types[t]? = some i:=by simpa using ht
   rcases mq P t with h1 |h1;rw[h1,tD];rw[h1]at tD;cases tD
  simp only[ht]at h;rcases hz:i.zero with _|z';simp[hz]at h;simp only[hz]at h;rcases hp:plain z' with _|_;simp[hp]at h;simp only[hp,zC,zA,zB]at h;obtain⟨rfl,rfl,rfl⟩:=h;exact⟨hp,i,hi,rfl,rfl,hz⟩
 fn f g h:=by
  simp only[C3,iQ]at h;have h':P.funcs[f]? = some g:=by simpa using h
  exact⟨h',hn g (zX h)⟩
 eqs t h:=by
  simp only[C3]at h;obtain⟨u,hu,e⟩:=List.any_eq_true.1 h;have:t=u:=by simpa[beq_eq]using e
  subst this;exact he t hu
 mixed:=hm
end Go.Rx
