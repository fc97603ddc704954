import Derived.Laws.Append
import Derived.Test.YtldlchbgolpkaaaGreatP3
set_option linter.all false
namespace Go.Rx
open Go
def Eff(P:Program)(m:Nm)(s:S)(w:World)(x:Sem Value)(v:Value)(bJ:S):Prop :=
 ∃aH w₁ cv,x.run P w=.ok cv w₁/\bP m s w aH bJ w₁/\eZ aH bJ.nx v cv
def QY(P:Program)(m:Nm)(s:S)(w:World)(x:Sem Unit)(bJ:S):Prop :=
 ∃aH w₁,x.run P w=.ok () w₁/\bP m s w aH bJ w₁
theorem eZ.cells{m:Nm}{n:Nat}{v cv:Value}(h:eZ m n v cv):nQ m n v.cells.toList cv.cells.toList:=fun m' ha=>by
 rw[<-h m' ha,jg,lM]
variable{m:Nm}
variable{n:Nat}
variable{l:List Value}
theorem jm(h:∀m',aJ m' l=l):nQ m n l l:=fun m' _=>h m'
variable{v:Value}
theorem BR(h:∀m',aI m' v=v):eZ m n v v:=fun m' _=>h m'
theorem nQ.append{a b ca cb:List Value}(h:nQ m n a ca)(h':nQ m n b cb):nQ m n (a++b) (ca++cb):=fun m' ha=>by
 rw[yS,h m' ha,h' m' ha]
theorem D9(m:Nm)(i b sh cp:Nat):(m.set i b sh cp).blk i=b/\(m.set i b sh cp).sh i=sh/\(m.set i b sh cp).cp i=cp:=by simp[Nm.set]
variable{s:S}
theorem qz9(b sh cp n:Nat)(hn:s.nx<n):eZ (m.set s.nx b sh cp) n (.pointer (some ⟨s.nx,0,none⟩)) (.pointer (some ⟨b,sh,none⟩)):=fun m' ha=>by
 obtain⟨h1,h2,_⟩:=ha s.nx hn;obtain⟨e1,e2,_⟩:=D9 m s.nx b sh cp;simp[aI,h1,h2,e1,e2]
variable{w:World}
theorem xa(hf:i4 m s w){cl:List Value}(hl:nQ m s.nx l cl)(e:TypeId)(cp:Nat):
  bP m s w (m.set s.nx w.heap.size 0 cp) (newRow s l e 0) (w.alloc (.cells ⟨cl⟩ e)):=by
 refine bP.alloc hf _ _ cp fun m' ha=>?_;have tM:aM s.nx m m':=(Nm.agree_set m s.nx w.heap.size 0 cp).trans ha (Nat.le_succ _);obtain⟨h1,h2,_⟩:=ha s.nx (zN _);obtain⟨e1,e2,_⟩:=D9 m s.nx w.heap.size 0 cp;refine⟨by rw[h2,e2],?_⟩;rw[h1,e1,hl m' tM];show(w.heap.push _)[w.heap.size]? = _;simp
theorem vh(hf:i4 m s w){cl rest:List Value}(hl:nQ m s.nx l cl)(e:TypeId)(cp sz:Nat)(b7:l.length+rest.length=cp*sz):
  bP m s w (m.set s.nx w.heap.size 0 cp) (newRow s l e (sz+2)) (w.alloc (.cells ⟨cl++rest⟩ e)):=by
 refine bP.alloc hf _ _ cp fun m' ha=>?_;have tM:aM s.nx m m':=(Nm.agree_set m s.nx w.heap.size 0 cp).trans ha (Nat.le_succ _);obtain⟨h1,h2,h3⟩:=ha s.nx (zN _);obtain⟨e1,e2,e3⟩:=D9 m s.nx w.heap.size 0 cp;refine⟨[],rest,?_,by simp[h2,e2],by rw[h3,e3,b7]⟩;rw[h1,e1,hl m' tM];show(w.heap.push _)[w.heap.size]? = _;simp
theorem io{e:TypeId}{md:Nat}(h:md≠1):Own (.inl (l,e,md))=true:=by
 rcases md with _ |_ |n<;>simp_all[Own]
theorem xy{P:Program}(hf:i4 m s w){i off:Nat}{l' vs mY:List Value}{e:TypeId}{md:Nat}(hr:cV s i=some (l,e,md))(hp:tZ l off vs=some l')
  (hv:nQ m s.nx vs mY) (h1:sW vs=true):
  ∃w₁,(storeCells ⟨m.blk i,m.sh i+off,none⟩ mY 0).run P w=.ok () w₁/\bP m s w m ⟨up s.h i (.inl (l',e,md)),s.nx⟩ w₁:=by
 obtain⟨hl,qE⟩:=kq hr;obtain⟨b7,G4⟩:=qv9 hp;have G0:∀v∈mY,v.oneCell'=true:=by rw[<-hv.at];exact qqt h1
 have eR:mY.length=vs.length:=by rw[<-hv.at];simp
 rcases md with _ |_ |n;have h0:∀m',aM s.nx m m'->m'.sh i=0/\w.heap[m'.blk i]? = some (.cells (aJ m' l).toArray e (0,0)):=fun m' ha=>(hf m' ha).ok i _ hl
 obtain⟨gc,hb⟩:=h0 m (aM.refl _ _);have bY:=run_storeCells_at P (m.blk i) off e mY 0 _ w hb (by simp;omega) G0;simp only[Nat.add_zero]at bY;rw[gc,Nat.zero_add];refine⟨_,bY,bP.write hf hl (io qE) (fun k hk=>setRow_other w _ k _ hk) (by simp) rfl rfl rfl (zF _) fun m' ha=>?_⟩;obtain⟨d?,cU⟩:=h0 m' ha;have AA:m'.blk i=m.blk i:=(ha i ((hf.fits).bd i _ hl)).1;refine⟨d?,?_⟩;rw[AA,setRow_heap w _ _ _ e (0,0) hb];rw[AA]at cU;have B5:aJ m' l=aJ m l:=by have:=hb.symm.trans cU;simp at this;exact this.symm
 rw[G4,yS,yS,hv m' ha];have e1:aJ m' (l.take off)=(aJ m l).take off:=by rw[<-B5];simp[mR,List.map_take]
 have e2:aJ m' (l.drop (off+vs.length))=(aJ m l).drop (off+mY.length):=by rw[<-B5,eR];simp[mR,List.map_drop]
 rw[e1,e2];exact absurd rfl qE;have h0:∀m',aM s.nx m m'->∃pr rest,w.heap[m'.blk i]? = some (.cells (pr++aJ m' l++rest).toArray e (0,0))/\pr.length=m'.sh i/\l.length+rest.length=m'.cp i*n:=fun m' ha=>(hf m' ha).ok i _ hl;obtain⟨pr,rest,hb,v6,DI⟩:=h0 m (aM.refl _ _);have bY:=run_storeCells_at P (m.blk i) (m.sh i+off) e mY 0 _ w hb (by simp;omega) G0;simp only[Nat.add_zero]at bY;refine⟨_,bY,bP.write hf hl (io qE) (fun k hk=>setRow_other w _ k _ hk) (by simp) rfl rfl rfl (zF _) fun m' ha=>?_⟩;obtain⟨pr',RX,cU,j?,f?⟩:=h0 m' ha;obtain⟨AA,U9,gm⟩:=ha i ((hf.fits).bd i _ hl);rw[AA]at cU;have cP:pr'++aJ m' l++RX=pr++aJ m l++rest:=by have:=hb.symm.trans cU;simp at this;simpa using this.symm
 have Vm:pr'=pr/\aJ m' l=aJ m l/\RX=rest:=by rw[zT,zT]at cP;obtain⟨e1,e2⟩:=List.append_inj cP (by rw[j?,v6,U9]);obtain⟨e3,e4⟩:=List.append_inj e2 (by simp);exact⟨e1,e3,e4⟩
 refine⟨pr,rest,?_,by rw[U9,v6],?_⟩;rw[AA,setRow_heap w _ _ _ e (0,0) hb];rw[G4,yS,yS,hv m' ha];have e1:aJ m' (l.take off)=(aJ m l).take off:=by rw[<-Vm.2.1];simp[mR,List.map_take]
 have e2:aJ m' (l.drop (off+vs.length))=(aJ m l).drop (off+mY.length):=by rw[<-Vm.2.1,eR];simp[mR,List.map_drop]
 rw[e1,e2];congr 2;simp only[zT];rw[<-v6,List.take_append,zW (by omega),Nat.add_sub_cancel_left,List.take_append_of_le_length (by simp;omega)];rw[List.drop_append,List.drop_of_length_le (by omega),List.nil_append,show pr.length+off+mY.length-pr.length=off+mY.length by omega,List.drop_append_of_le_length (by simp;omega)];simp;rw[gm,<-DI,G4];simp;omega
section
variable{P:Program}{T:Tb}(hT:lF P T){m:Nm}{s:S}{w:World}(hf:i4 m s w)
include hT hf
theorem z8m{t:TypeId}{p cp cv u:Value}{bJ:S}(hp:eZ m s.nx p cp)(hv:eZ m s.nx v cv)(h:Fl T s t p v=some (u,bJ)):
  QY P m s w (Instr.storeAt t cp cv) bJ/\u=undef:=by
 unfold Fl at h;cases p with
 |pointer q=>
  rcases q with _|a;simp at h;simp only[beq_eq]at h;rcases hs:cN T t with _|n;simp[hs]at h;simp only[hs]at h;by_cases hn:v.cells.toList.length=n;simp only[hn,yC,zC]at h;rcases h1:sW v.cells.toList with _|_;simp[h1]at h;simp only[h1,zC]at h;rcases hr:cV s a.block with _|r;simp[hr]at h;obtain⟨l,e,md⟩:=r;simp only[hr]at h;rcases hq:tZ l a.off v.cells.toList with _|l';simp[hq]at h;simp only[hq,zA,zB]at h;obtain⟨rfl,rfl⟩:=h;refine⟨?_,rfl⟩;obtain⟨w₁,cW,aT⟩:=xy (P:=P) hf hr hq hv.cells h1;refine⟨m,w₁,?_,aT⟩;have Wq:cp=.pointer (some ⟨m.blk a.block,m.sh a.block+a.off,none⟩):=by rw[<-hp.at];simp[aI]
  have dR:cv.cells.size=n:=by
   have:cv.cells.toList.length=n:=by rw[<-hv.cells.at];simpa using hn
   simpa using this
  subst Wq;simp[Instr.storeAt,Instr.sureAddr,storeVar,nU hT w hs,dR,cW];simp only[hn,yB,zD]at h;cases h
 |_=>simp at h
omit hT hf in
theorem Ok(z:Array Value)(n:Nat):(Array.range (n*z.size)).map (fun i=>z[i%z.size]!)=⟨cC z.toList n⟩:=by
 apply Array.ext';simp only[Array.toList_map,Array.toList_range];rcases Nat.eq_zero_or_pos z.size with h0 |fC;have hz:z= #[]:=by simpa using h0
 subst hz;induction n with
 |zero=>simp[cC]|succ n ih=>simp[cC]at ih ⊢;exact ih
 induction n with
 |zero=>simp[cC]|succ n ih=>
  have e:(n+1)*z.size=z.size+n*z.size:=by rw[Nat.add_mul];omega
  rw[e,List.range_add,List.map_append,cC,<-ih];congr 1;apply List.ext_getElem?;intro i;by_cases hi:i<z.size;simp[hi,Nat.mod_eq_of_lt hi];simp[hi];rw[List.map_map];apply List.map_congr_left;intro i _;simp
omit hT hf in
theorem xx(z:List Value)(n:Nat):(cC z n).length=n*z.length:=by
 induction n with|zero=>simp[cC]|succ n ih=>simp[cC,ih,Nat.add_mul];omega
omit hT hf in
theorem Pf{z:List Value}(h:∀m',aJ m' z=z)(n:Nat)(m':Nm):aJ m' (cC z n)=cC z n:=by
 induction n with|zero=>simp[cC,aJ]|succ n ih=>simp[cC,yS,ih,h]
omit hf in
theorem He{t:TypeId}{x:Nat×Nat×Value}(h:T.inf t=some x)(m':Nm):aJ m' x.2.2.cells.toList=x.2.2.cells.toList:=by
 have:=(J6 hT m' default h).2;rw[<-lM,<-jg,this]
omit hT hf in
theorem SP{b sh cp n len c c':Nat}(hn:s.nx<n)(hc:∀m',aM n (m.set s.nx b sh cp) m'->bW m' s.nx c=c'):
  eZ (m.set s.nx b sh cp) n (.slice (some ⟨s.nx,0,none⟩) len c) (.slice (some ⟨b,sh,none⟩) len c'):=fun m' ha=>by
 obtain⟨h1,h2,_⟩:=ha s.nx hn;obtain⟨e1,e2,_⟩:=D9 m s.nx b sh cp;simp[aI,h1,h2,e1,e2,hc m' ha]
theorem qwt{t:TypeId}{ps:List (Nat×Value)}{bJ:S}{cps:List (Nat×Value)}(Kg:∀m',aM s.nx m m'->ps.map (fun p=>(p.1,aI m' p.2))=cps)
  (h:Pj T s t n ps=some (v,bJ)):Eff P m s w (Instr.buildSlice t n cps.toArray) v bJ:=by
 unfold Pj at h;rcases hd:T.und t with _|d;simp[hd]at h;cases d with
 |slice e=>
  simp only[hd]at h;rcases hi:T.inf e with _|x;simp[hi]at h;obtain⟨sz,by_,z⟩:=x;have dR:cN T e=some sz:=by simp[cN,hi]
  have hz:=fun m'=>J6 hT m' w hi;have vX:=He hT hi;simp only at hz vX;simp only[hi,beq_eq]at h;rcases h1:Nat.ble (n*sz) 16777216 with _|_
  simp[h1]at h;simp only[h1,zC]at h;have y5:n*sz<=16777216:=by simpa[Nat.ble_eq]using h1
  by_cases h2:z.cells.toList.length=sz;simp only[h2,yC,zC]at h;rcases h3:EX (fun i=>some (i*sz,sz)) (cC z.cells.toList n) ps with _|cs;simp[h3]at h;rcases h4:Nat.blt n bX with _|_;simp[h3,h4]at h;have h4':n<bX:=by simpa[Nat.blt_eq]using h4
  simp only[h3,h4,zC,zA,zB]at h;obtain⟨rfl,rfl⟩:=h;have lT:∀m',aM s.nx m m'->Instr.fill (fun i=>some (i*sz,sz)) ⟨cC z.cells.toList n⟩ cps=some ⟨aJ m' cs⟩:=fun m' ha=>by have:=Oi m' _ ps _ _ h3;rw[Kg m' ha,Pf vX]at this;exact this
  obtain⟨cl,eR⟩:∃cl,nQ m s.nx cs cl:=⟨aJ m cs,fun m' ha=>by have e1:=lT m' ha;have e2:=lT m (aM.refl _ _);rw[e1]at e2;simpa using e2⟩;have i9:z.cells.size=sz:=by simpa using h2
  refine⟨_,_,.slice (some ⟨w.heap.size,0,none⟩) n n,?_,xa hf eR e 0,?_⟩;have fU:(Array.range (n*sz)).map (fun i=>(if n*sz=0 then(#[]:Array Value)else z.cells)[i%(if n*sz=0 then(#[]:Array Value)else z.cells).size]!)=⟨cC z.cells.toList n⟩:=by
   by_cases h0:n*sz=0;rw[h0];apply Array.ext';have:(cC z.cells.toList n).length=0:=by rw[xx,h2,h0]
   simp[List.length_eq_zero_iff.1 this];simp only[if_neg h0];have:=Ok z.cells n;rw[i9]at this;rw[<-this];simp[i9]
  have UM:=lT m (aM.refl _ _);rw[eR.at]at UM;have hnot:¬ n*sz>2^24:=by omega
  have PX:=(hz m).1;by_cases h0:n*sz=0;simp only[if_pos h0]at fU;simp only[Instr.buildSlice,zK,iG hT w hd,zJ,nU hT w dR,Sem.run_ite,if_neg hnot,zL,if_pos h0];rw[fU,UM];simp[Go.newRow];simp only[if_neg h0]at fU;simp only[Instr.buildSlice,zK,iG hT w hd,zJ,nU hT w dR,Sem.run_ite,if_neg hnot,zL,if_neg h0,PX];rw[fU,UM];simp[Go.newRow];refine SP (zN _) fun m' _=>?_;simp[bW,h4'];simp only[h2,yB,zD]at h;cases h
 |_=>simp[hd]at h
end
variable{n:Nat}
theorem z2e{m:Nm}{s:S}{w:World}(hf:i4 m s w){b:Option Addr}{cs:List Value}(h:pF s b n=some cs):
  cs.length=n/\∃ND,nQ m s.nx cs ND/\∀a,b=some a->∀j u,ND[j]? = some u->w.cell? ((⟨m.blk a.block,m.sh a.block+a.off,none⟩:Addr).add j)=some u:=by
 cases n with
 |zero=>simp[pF]at h;subst h;exact⟨rfl,[],fun _ _=>by simp[aJ],fun _ _ j u hu=>by simp at hu⟩|succ n=>
  simp only[pF]at h;rcases b with _|a;simp at h;simp only at h;rcases hl:lk s.h a.block with _|blk;simp[hl]at h;rcases blk with⟨l,e,md⟩|x;simp only[hl]at h;have hc:∀m',aM s.nx m m'->∀j v,cs[j]? = some v->w.cell? ⟨m.blk a.block,m.sh a.block+(a.off+j),none⟩=some (aI m' v):=fun m' ha j v hj=>by have hr:D7 m' a.block l e w md:=(hf m' ha).ok _ _ hl;have:=hr.cell (z5j h hj);obtain⟨e1,e2,_⟩:=ha a.block ((hf.fits).bd _ _ hl);rw[e1,e2]at this;exact this
  refine⟨aa h,aJ m cs,fun m' ha=>?_,?_⟩;rw[mR,mR];apply List.map_congr_left;intro v hv;obtain⟨j,hj⟩:=List.getElem?_of_mem hv;have e1:=hc m' ha j v hj;have e2:=hc m (aM.refl _ _) j v hj;rw[e1]at e2;simpa using e2;rintro _ ⟨rfl⟩ j u hu;rw[mR,List.getElem?_map]at hu;rcases hj:cs[j]? with _|v;simp[hj]at hu;simp[hj]at hu;subst hu;rw[yQ,Nat.add_assoc];exact hc m (aM.refl _ _) j v hj;simp[hl]at h
theorem z8n(x K d n k z:Nat):x+K*z-(x+d*z+n*z+k*z)=(K-(d+n+k))*z:=by
 rw[Nat.sub_mul,Nat.add_mul,Nat.add_mul];omega
theorem z6l(n k K d:Nat)(h:n+k<=K-d):n+k+(K-(d+n+k))=K-d:=by omega
def mN(m:Nm):Option Addr->Nat->Nat
 |none,c=>c|some a,c=>bW m a.block c
theorem bP.rename{m:Nm}{s:S}{w w':World}(h:i4 m s w){i:Nat}{b b':lK}(hb:lk s.h i=some b)(N3:Own b=true)(sh' cp':Nat)
  (hw:∀k,k≠m.blk i->w'.heap[k]? = w.heap[k]?) (dR:w'.heap.size=w.heap.size) (h1:w'.os=w.os) (h2:w'.tape=w.tape) (h3:w'.output=w.output) (_h4:w.drawn<=w'.drawn)
  (hc:∀m',aM (s.nx+1) (m.set s.nx (m.blk i) sh' cp') m'->yP m' s.nx w' b'):
  bP m s w (m.set s.nx (m.blk i) sh' cp') ⟨(s.nx,b')::rm s.h i,s.nx+1⟩ w':=by
 have AA:i<s.nx:=(h.fits).bd i b hb;have key:∀j d,s.nx≠j->lk ((s.nx,b')::rm s.h i) j=some d->lk s.h j=some d/\i≠j:=fun j d hj hd=>by simp only[mS,hj,if_false,qu]at hd;by_cases e:i=j;simp[e]at hd;simp only[e,if_false]at hd;exact⟨hd,e⟩
 refine⟨Nm.agree_set m _ _ _ _,Nat.le_succ _,?_,?_,?_,by omega,h1,h2,h3⟩;intro m' ha;have tM:aM s.nx m m':=(Nm.agree_set m s.nx (m.blk i) sh' cp').trans ha (Nat.le_succ _);have hf:=h m' tM;have i7:m'.blk s.nx=m.blk i:=by have:=(ha s.nx (zN _)).1;simpa[Nm.set]using this
 have t?:m'.blk i=m.blk i:=(tM i AA).1;refine⟨fun j d hd=>?_,fun j k d d' hd bG nK ho=>?_,fun j d hd=>?_⟩;by_cases e:s.nx=j;subst e;simp only[mS,if_true,zA]at hd;subst hd;exact hc m' ha;obtain⟨bG,lS⟩:=key j d e hd;refine(hf.ok j d bG).world (hw _ ?_);rw[<-t?];exact fun x=>hf.inj i j b d hb bG lS N3 x.symm;by_cases e:s.nx=j;subst e;obtain⟨hk,G5⟩:=key k d' nK bG;rw[i7,<-t?];exact hf.inj i k b d' hb hk G5 N3;obtain⟨hj,lS⟩:=key j d e hd;by_cases e2:s.nx=k;subst e2;rw[i7,<-t?];exact fun x=>hf.inj i j b d hb hj lS N3 x.symm;obtain⟨hk,G5⟩:=key k d' e2 bG;exact hf.inj j k d d' hj hk nK ho;by_cases e:s.nx=j;subst e;exact zN _;exact Nat.lt_succ_of_lt (hf.bd j d (key j d e hd).1);rintro k ⟨j,d,hd,ho,rfl⟩;left;by_cases e:s.nx=j;subst e;exact⟨i,b,hb,N3,by simp[Nm.set]⟩;obtain⟨hj,_⟩:=key j d e hd;have:=(h.fits).bd j d hj;exact⟨j,d,hj,ho,by simp[Nm.set,show j≠s.nx by omega]⟩;intro k hk hn;exact hw k fun e=>hn ⟨i,b,hb,N3,e.symm⟩
theorem hJ(z:Array Value)(n:Nat):(Builtin.zeroCells z n).size=n*z.size:=by simp[Builtin.zeroCells]
theorem qrh{b:Nat}(h:yM n b=true):n*b<=140737488355328/\n<=140737488355328:=by
 unfold yM at h;rcases h1:Nat.ble (n*b) 140737488355328 with _|_;simp[h1]at h;simp only[h1,zC]at h;exact⟨by simpa[Nat.ble_eq]using h1,by simpa[Nat.ble_eq]using h⟩
theorem Hh(m:Nm)(i:Nat):bW m i bX=m.cp i:=by simp[bW,bQ]
section
variable{P:Program}{T:Tb}(hT:lF P T){m:Nm}{s:S}{w:World}(hf:i4 m s w)
include hT hf
variable{t:TypeId}
variable{v:Value}
variable{bJ:S}
theorem zb7{l c cl cc:Value}(hl:eZ m s.nx l cl)(hc:eZ m s.nx c cc)(h:Lb T s t l c=some (v,bJ)):Eff P m s w (Instr.makeSlice t cl cc) v bJ:=by
 unfold Lb at h;rcases hd:T.und t with _|d;simp[hd]at h;cases d with
 |slice e=>
  simp only[hd]at h;cases l with
  |int k1 a=>
   cases c with
   |int k2 b=>
    simp only at h;have e1:cl=.int k1 a:=by rw[<-hl.at];simp[aI]
    have e2:cc=.int k2 b:=by rw[<-hc.at];simp[aI]
    subst e1 e2;rcases hi:T.inf e with _|x;simp[hi]at h;obtain⟨sz,by_,z⟩:=x;have dR:cN T e=some sz:=by simp[cN,hi]
    have hz:=fun m'=>J6 hT m' w hi;have vX:=He hT hi;simp only at hz vX;obtain⟨_,i,UJ,N8,UI,hi4⟩:=hT.inf e _ _ _ hi;simp only[hi,beq_eq]at h;cases Ka:IntKind.i64.wrap a with
    |negSucc x=>simp[Ka]at h|ofNat n=>
     cases Vc:IntKind.i64.wrap b with
     |negSucc x=>simp[Ka,Vc]at h|ofNat k=>
      simp only[Ka,Vc]at h;rcases h1:Nat.ble n k with _|_;simp[h1]at h;rcases h2:Nat.ble (by_*k) 281474976710656 with _|_;simp[h1,h2]at h;by_cases h3:z.cells.toList.length=sz;rcases h4:Nat.blt k bX with _|_;simp only[h1,h2,h3,h4,zC,yC,zD]at h;cases h;simp only[h1,h2,h3,h4,zC,yC,zA,zB]at h;obtain⟨rfl,rfl⟩:=h;have y5:n<=k:=by simpa[Nat.ble_eq]using h1
      have HP:by_*k<=281474976710656:=zY h2;have h4':k<bX:=by simpa[Nat.blt_eq]using h4
      have i9:z.cells.size=sz:=by simpa using h3
      refine⟨_,_,.slice (some ⟨w.heap.size,0,none⟩) n k,?_,xa hf (jm (Pf vX k)) e 0,?_⟩;have Br:∀q:Nat,q<=k->(decide ((q:Int)<0)||decide ((i.bytes:Int)*(q:Int)>2^48))=false:=by intro q hq;have:by_*q<=281474976710656:=Nat.le_trans (Nat.mul_le_mul_left _ hq) HP;have h':((by_*q:Nat):Int)<=((281474976710656:Nat):Int):=Int.ofNat_le.2 this;simp only[Bool.or_eq_false_iff,decide_eq_false_iff_not,UI];refine⟨by omega,?_⟩;rw[Int.natCast_mul]at h';simp only[gt_iff_lt,Int.not_lt];exact h'
      have fU:(Array.range (k*sz)).map (fun i=>(if k*sz=0 then(#[]:Array Value)else z.cells)[i%(if k*sz=0 then(#[]:Array Value)else z.cells).size]!)=⟨cC z.cells.toList k⟩:=by
       by_cases h0:k*sz=0;rw[h0];apply Array.ext';have:(cC z.cells.toList k).length=0:=by rw[xx,h3,h0]
       simp[List.length_eq_zero_iff.1 this];simp only[if_neg h0];have:=Ok z.cells k;rw[i9]at this;rw[<-this];simp[i9]
      have eE:(((decide ((k:Int)<0)||decide ((i.bytes:Int)*(k:Int)>2^48))||decide ((n:Int)<0))||decide ((n:Int)>(k:Int)))=false:=by rw[Br k (zF _)];simp;omega
      have N_:IntKind.i64.wrap a=(n:Int):=Ka;have M_:IntKind.i64.wrap b=(k:Int):=Vc;have PX:=(hz m).1;simp only[Instr.makeSlice,zK,iG hT w hd,zJ,asInt,asIntOf,zL,typeInfo,run_program,UJ,N_,M_,Sem.run_ite,eE,Bool.false_eq_true,if_false,run_askRoom,zZ,nU hT w dR];by_cases h0:k*sz=0;simp only[if_pos h0]at fU;simp only[if_pos h0];rw[fU];simp[Go.newRow];simp only[if_neg h0]at fU;simp only[if_neg h0,PX,zJ];rw[fU];simp[Go.newRow];refine SP (zN _) fun m' _=>?_;simp[bW,h4'];simp only[h1,h2,h3,zC,yB,zD]at h;cases h
   |_=>simp at h
  |_=>simp at h
 |_=>simp[hd]at h
omit hf in
theorem Ra{t xt ty e e2:TypeId}{size:Nat}(ht:T.und t=some (.slice e))(hx:T.und xt=some (.slice e2))(hs:cN T e=some size){base xb:Option Addr}{n C k xc:Nat}{cnew:Array Value}{w₁:World}
  (i7:(Builtin.firstCells size k (.slice xb k xc)).run P w=.ok cnew w) (bN:n+k<=C)
  (bY:∀a,base=some a->(storeCells (a.add (n*size)) cnew.toList).run P w=.ok () w₁) (eE:base=none->w₁=w):
  (Builtin.append_ #[t,xt] ty #[.slice base n C,.slice xb k xc]).run P w=.ok (.slice base (n+k) C) w₁:=by
 cases base with|none=>rw[eE rfl];simp[Builtin.append_,iG hT w ht,iG hT w hx,nU hT w hs,Builtin.lenOf,bN,i7]|some a=>simp[Builtin.append_,iG hT w ht,iG hT w hx,nU hT w hs,Builtin.lenOf,bN,i7,bY a rfl]
omit hf in
theorem jI{t xt ty e e2:TypeId}{size by_:Nat}{z:Value}(ht:T.und t=some (.slice e))(hx:T.und xt=some (.slice e2))(hi:T.inf e=some (size,by_,z)){base xb:Option Addr}{n C k xc:Nat}{cnew cold:Array Value}
  (i7:∀w',w'.heap=w.heap->(Builtin.firstCells size k (.slice xb k xc)).run P w'=.ok cnew w') (kZ:∀w',w'.heap=w.heap->(Builtin.firstCells size n (.slice base n C)).run P w'=.ok cold w')
  (bN:C<n+k) (hr:yM (n+k) by_=true):
  (Builtin.append_ #[t,xt] ty #[.slice base n C,.slice xb k xc]).run P w=
   .ok (.slice (some ⟨w.heap.size,0,none⟩) (n+k) ((Question.appendCap (n+k) C e).cut (w.tape w.drawn (.appendCap (n+k) C e)))) ((w.drew).alloc (.cells (cold++cnew++Builtin.zeroCells z.cells (((Question.appendCap (n+k) C e).cut (w.tape w.drawn (.appendCap (n+k) C e)))-(n+k))) e)):=by
 obtain⟨r1,r2⟩:=qrh hr;obtain⟨_,i,UJ,N8,UI,hi4⟩:=hT.inf e _ _ _ hi;have hs:cN T e=some size:=by simp[cN,hi]
 have g1:¬ n+k<=C:=by omega
 have g2:¬ (((n+k:Nat):Int)>IntKind.i64.max/\(False\/i.bytes=0)):=by rw[IntKind.max_i64];omega
 have g3:¬ Builtin.nextslicecap (n+k) C*i.bytes>2^48:=by have:=growslice_fits (bytes:=i.bytes) bN (by rw[UI];exact r1);omega
 have hn:=i7 w.drew rfl;have ho:=kZ w.drew rfl;have HK:({ w with drawn:=w.drawn+1 }:World)=w.drew:=rfl;have hz:(zeroValue e).run P w.drew=.ok z w.drew:=(J6 hT (⟨id,id,id⟩:Nm) w.drew hi).1;simp[Builtin.append_,iG hT w ht,iG hT w hx,nU hT w hs,Builtin.lenOf,if_neg g1,typeInfo,UJ];have g2':¬ (9223372036854775807<(n:Int)+(k:Int)/\i.bytes=0):=by omega
 have g3':¬ 281474976710656<Builtin.nextslicecap (n+k) C*i.bytes:=g3;have hff:(Question.appendCap (n+k) C e).forced=false:=rfl;simp only[if_neg g2',if_neg g3',hff,Bool.false_eq_true,if_false,ho,hn,hz,zJ];simp[Go.newRow];rfl
omit hf in
theorem qnr{t xt ty e e2:TypeId}{size by_:Nat}{z:Value}(ht:T.und t=some (.slice e))(hx:T.und xt=some (.slice e2))(hi:T.inf e=some (size,by_,z)){base xb:Option Addr}{n C k xc:Nat}{cnew cold:Array Value}
  (i7:∀w',w'.heap=w.heap->(Builtin.firstCells size k (.slice xb k xc)).run P w'=.ok cnew w') (kZ:∀w',w'.heap=w.heap->(Builtin.firstCells size n (.slice base n C)).run P w'=.ok cold w')
  (bN:C<n+k) (hr:yM (n+k) by_=true):
  ∃nc,n+k<=nc/\(Builtin.append_ #[t,xt] ty #[.slice base n C,.slice xb k xc]).run P w=
   .ok (.slice (some ⟨w.heap.size,0,none⟩) (n+k) nc) ((w.drew).alloc (.cells (cold++cnew++Builtin.zeroCells z.cells (nc-(n+k))) e)):=
 ⟨_,by simp[Question.cut],jI hT ht hx hi i7 kZ bN hr⟩
omit hT in
theorem Oy{b:Option Addr}{n size:Nat}{cs:List Value}(h:pF s b (n*size)=some cs):
  ∃ND,nQ m s.nx cs ND/\cs.length=n*size/\∀w',w'.heap=w.heap->∀len cap,(Builtin.firstCells size n (.slice (b.map fun a=>⟨m.blk a.block,m.sh a.block+a.off,none⟩) len cap)).run P w'=.ok ⟨ND⟩ w':=by
 obtain⟨h1,ND,h2,h3⟩:=z2e hf h;refine⟨ND,h2,h1,fun w' hw len cap=>?_⟩;have hl:ND.length=n*size:=by rw[<-h2.at];simp[h1]
 cases b with
 |none=>
  have:n*size=0:=by cases hz:n*size with|zero=>rfl|succ k=>rw[hz]at h;simp[pF]at h
  have:ND=[]:=List.length_eq_zero_iff.1 (by omega);subst this;simp[Builtin.firstCells]
 |some a=>exact run_firstCells_some w' size n _ len cap ND hl (fun j u hu=>by have:=h3 a rfl j u hu;rw[<-this];simp[World.cell?,hw])
omit hT in
theorem zbv{i c sz:Nat}{l:List Value}{e:TypeId}(hl:lk s.h i=some (.inl (l,e,sz+1+2))){off n:Nat}(ho:off=bQ c*(sz+1))(hn:off+n*(sz+1)<=l.length):n+bQ c<=m.cp i:=by
 obtain⟨pr,rest,_,_,h3⟩:=(hf.fits).ok i _ hl;have:(n+bQ c)*(sz+1)<=m.cp i*(sz+1):=by rw[Nat.add_mul];omega
 exact Nat.le_of_mul_le_mul_right this (by omega)
variable{xt:TypeId}
variable{ty:TypeId}
variable{tR:Value}
theorem qzy{e e2:TypeId}{sz by_:Nat}{z:Value}(hd:T.und t=some (.slice e))(dK:T.und xt=some (.slice e2))(hi:T.inf e=some (sz+1,by_,z)){a:Addr}{l p new cnew:List Value}{c k:Nat}{xb:Option Addr}{xc:Nat}
  (hr:cV s a.block=some (l,e,sz+1+2)) (eH:a.off=bQ c*(sz+1)) (hc:¬ c<bX) (bN:yM (n+(k+1)) by_=true) (xX:z.cells.toList.length=sz+1)
  (hg:xK l a.off (n*(sz+1))=some p) (G6:nQ m s.nx new cnew) (y4:new.length=(k+1)*(sz+1)) (h1:sW new=true)
  (i8:∀w',w'.heap=w.heap->∀len cap,(Builtin.firstCells (sz+1) (k+1) (.slice (xb.map fun a=>⟨m.blk a.block,m.sh a.block+a.off,none⟩) len cap)).run P w'=.ok ⟨cnew⟩ w')
  {cx:Value} (uK:cx=.slice (xb.map fun a=>⟨m.blk a.block,m.sh a.block+a.off,none⟩) (k+1) (mN m xb xc)) (ecs:tR=.slice ((some a).map fun a=>⟨m.blk a.block,m.sh a.block+a.off,none⟩) n (mN m (some a) c)):
  Eff P m s w (Builtin.append_ #[t,xt] ty #[tR,cx]) (.slice (some ⟨s.nx,0,none⟩) (n+(k+1)) bX) ⟨(s.nx,.inl (p++new,e,sz+1+2))::rm s.h a.block,s.nx+1⟩:=by
 have dR:cN T e=some (sz+1):=by simp[cN,hi]
 obtain⟨hl,qE⟩:=kq hr;obtain⟨HI,B6⟩:=Ol hg;have nI:=aa hg;have gW:mN m (some a) c=m.cp a.block-bQ c:=by simp[mN,bW,hc]
 have gO:=(hf.fits).bd _ _ hl;have DS:pF s (some a) (n*(sz+1))=some p:=by cases hn:n*(sz+1)with|zero=>rw[hn]at nI;simp[pF,List.length_eq_zero_iff.1 nI]|succ q=>rw[hn]at hg;simp[pF,hl,hg]
 obtain⟨cold,A6,_,wY⟩:=Oy (P:=P) hf DS;have eR:cnew.length=(k+1)*(sz+1):=by rw[<-G6.at];simp[y4]
 rw[gW]at ecs;by_cases rY:n+(k+1)<=m.cp a.block-bQ c
 ·-- eK is room
  obtain⟨pr,rest,hb,v6,DI⟩:=(hf.fits).ok _ _ hl;have Ve:a.off+n*(sz+1)+cnew.length<=l.length+rest.length:=by rw[DI,eH,eR,<-Nat.add_mul,<-Nat.add_mul];exact Nat.mul_le_mul_right _ (by omega)
  have G0:∀v∈cnew,v.oneCell'=true:=by rw[<-G6.at];exact qqt h1
  have L_:(pr++aJ m l++rest).length=m.sh a.block+(l.length+rest.length):=by simp[v6]
  have bY:=run_storeCells_at P (m.blk a.block) (m.sh a.block+a.off+n*(sz+1)) e cnew 0 _ w hb (by simp only[List.size_toArray,L_];omega) G0;simp only[Nat.add_zero]at bY;refine⟨_,_,.slice (some ⟨m.blk a.block,m.sh a.block+a.off,none⟩) (n+(k+1)) (m.cp a.block-bQ c),?_,bP.rename (w':=w.setRow (m.blk a.block) ((pr++aJ m l++rest).take (m.sh a.block+a.off+n*(sz+1))++cnew++(pr++aJ m l++rest).drop (m.sh a.block+a.off+n*(sz+1)+cnew.length)).toArray) hf hl (io qE) (m.sh a.block+a.off) (m.cp a.block-bQ c) (fun k hk=>setRow_other w _ k _ hk) (by simp) rfl rfl rfl (zF _) ?_,?_⟩;rw[uK,ecs];exact Ra (P:=P) hT (w:=w) (ty:=ty) hd dK dR (i8 w rfl _ _) rY (fun a' tM=>by simp only[zM,zA]at tM;subst tM;rw[yQ];exact bY) (fun eE=>by simp at eE);intro m' ha;obtain⟨y5,HP,Cm⟩:=ha s.nx (zN _);obtain⟨e1,e2,e3⟩:=D9 m s.nx (m.blk a.block) (m.sh a.block+a.off) (m.cp a.block-bQ c);have tM:aM s.nx m m':=(Nm.agree_set m s.nx _ _ _).trans ha (Nat.le_succ _);refine⟨(pr++aJ m l++rest).take (m.sh a.block+a.off),(pr++aJ m l++rest).drop (m.sh a.block+a.off+n*(sz+1)+cnew.length),?_,?_,?_⟩;rw[y5,e1,setRow_heap w _ _ _ e (0,0) hb,yS,G6 m' tM,A6 m' tM];have Bo:((pr++aJ m l++rest).drop (m.sh a.block+a.off)).take (n*(sz+1))=cold:=by rw[<-A6.at,HI];rcases Nat.eq_zero_or_pos (n*(sz+1))with h0 |fC;rw[h0];simp[aJ];rw[<-v6,zT,List.drop_append,List.drop_of_length_le (by omega),List.nil_append,Nat.add_sub_cancel_left,List.drop_append_of_le_length (by simp;omega),List.take_append_of_le_length (by simp;omega)];simp[mR,List.map_drop,List.map_take]
  have Kc:(pr++aJ m l++rest).take (m.sh a.block+a.off+n*(sz+1))=(pr++aJ m l++rest).take (m.sh a.block+a.off)++cold:=by rw[List.take_add,Bo]
  rw[Kc];congr 2;simp only[zT];rw[HP,e2,List.length_take,L_];omega;rw[Cm,e3,zU,nI,y4,List.length_drop,L_];rw[DI,eR,eH,<-Nat.add_mul];have e4:=z8n (m.sh a.block) (m.cp a.block) (bQ c) n (k+1) (sz+1);rw[e4,<-Nat.add_mul,z6l _ _ _ _ rY];refine SP (zN _) fun m' ha=>?_;rw[Hh];obtain⟨_,_,e3⟩:=D9 m s.nx (m.blk a.block) (m.sh a.block+a.off) (m.cp a.block-bQ c);exact(ha s.nx (zN _)).2.2.trans e3
 have aE:m.cp a.block-bQ c<n+(k+1):=by omega
 obtain⟨nc,q?,cW⟩:=qnr (P:=P) hT (w:=w) (ty:=ty) hd dK hi (n:=n) (k:=k+1) (C:=m.cp a.block-bQ c) (base:=(some a).map fun a=>⟨m.blk a.block,m.sh a.block+a.off,none⟩) (fun w' hw=>i8 w' hw (k+1) (mN m xb xc)) (fun w' hw=>wY w' hw n _) aE bN;have Bw:i4 m s w.drew:=jv _ hf;have aT:=vh Bw (rest:=(Builtin.zeroCells z.cells (nc-(n+(k+1)))).toList) (A6.append G6) e nc (sz+1) (by
  have U6:z.cells.size=sz+1:=by simpa using xX
  rw[zU,nI,y4,Array.length_toList,hJ,U6,<-Nat.add_mul,<-Nat.add_mul];congr 1;omega)
 have cP:=((bP.draw (w.drawn+1) hf).trans aT).trans (bP.forget aT.fits a.block);have bY:(⟨rm (newRow s (p++new) e (sz+1+2)).h a.block,(newRow s (p++new) e (sz+1+2)).nx⟩:S)=⟨(s.nx,.inl (p++new,e,sz+1+2))::rm s.h a.block,s.nx+1⟩:=by simp[newRow,rm,beq_eq,show s.nx≠a.block by omega]
 rw[bY]at cP;refine⟨_,_,.slice (some ⟨w.heap.size,0,none⟩) (n+(k+1)) nc,?_,cP,?_⟩;rw[uK,ecs,cW];congr 3;simp;have hw:w.drew.heap.size=w.heap.size:=rfl;rw[hw];refine SP (zN _) fun m' ha=>?_;rw[Hh];obtain⟨_,_,e3⟩:=D9 m s.nx w.heap.size 0 nc;exact(ha s.nx (zN _)).2.2.trans e3
omit hT in
theorem ig {base : Option Addr} {n c sz : Nat} {v : Value} {bJ : S} (h : (cond (Nat.blt c bX) (cond (Nat.ble n c) (some (Value.slice base n c, s)) none)
            (match base with
              |some a=> match cV s a.block with
                |some (l,_,md)=> cond (Nat.beq md (sz+3)) (cond (Nat.beq a.off (bQ c*(sz+1))) (match xK l a.off (n*(sz+1))with
                  |some _=> some (Value.slice base n c,s)|none=> none) none) none
                |none=> none
              |none=> none))=some (v,bJ)):v=.slice base n c/\bJ=s/\n<=mN m base c:=by
  simp only[beq_eq]at h;cases hc:Nat.blt c bX with
  |true=>simp only[hc,zC]at h;have mH:c<bX:=J8 hc;rcases v7:Nat.ble n c with _|_;simp only[v7,zD]at h;cases h;simp only[v7,zC,zA,zB]at h;refine⟨h.1.symm,h.2.symm, ?_⟩;have:n<=c:=zY v7;rcases base with _|a;exact this;simp only[mN,bW,if_pos mH];exact this
  |false=>have mH : ¬ c<bX:=Pq hc;simp only[hc,zD]at h;rcases base with _|a;simp at h;simp only at h;rcases hr:cV s a.block with _|r;simp[hr]at h;obtain⟨l,e',md⟩:=r;simp only[hr]at h;by_cases qE:md=sz+3;by_cases eH:a.off=bQ c*(sz+1);rw[decide_eq_true qE,decide_eq_true eH]at h;simp only[zC]at h;rcases hg:xK l a.off (n*(sz+1))with _|q;simp[hg]at h;simp only[hg,zA,zB]at h;refine⟨h.1.symm,h.2.symm, ?_⟩;obtain⟨_,rY⟩:=Ol hg;have hl:=(kq hr).1;subst qE;simp only[mN,bW,if_neg mH];rcases Nat.eq_zero_or_pos n with h0 |fC;rw[h0];exact Nat.zero_le _;have tF:0<n*(sz+1):=Nat.mul_pos fC (by omega);have:=zbv hf (c:=c) (n:=n) (off:=a.off) hl eH (by omega);omega;rw[decide_eq_true qE,decide_eq_false eH]at h;simp at h;rw[decide_eq_false qE]at h;simp at h
theorem qqv{sv x cx:Value}(hs:eZ m s.nx sv tR)(hx:eZ m s.nx x cx)(h:xU T s t xt sv x=some (v,bJ)):Eff P m s w (Builtin.append_ #[t,xt] ty #[tR,cx]) v bJ:=by
 unfold xU at h;rcases hd:T.und t with _|d;simp[hd]at h;cases d with
 |slice e=>
  rcases dK:T.und xt with _|d2;simp[hd,dK]at h;cases d2 with
  |slice e2=>
   cases sv with
   |slice base n c=>
    cases x with
    |slice xb k xc=>
     simp only[hd,dK]at h;rcases hi:T.inf e with _|y;simp[hi]at h;obtain⟨sz,by_,z⟩:=y;cases sz with
     |zero=>simp[hi]at h|succ sz=>
      have dR:cN T e=some (sz+1):=by simp[cN,hi]
      simp only[hi]at h;rcases hcx:pF s xb (k*(sz+1))with _|new;simp[hcx]at h;simp only[hcx]at h;rcases h1:sW new with _|_;simp[h1]at h;simp only[h1,zC]at h;obtain⟨cnew,G6,y4,i8⟩:=Oy (P:=P) hf hcx;have uK:cx=.slice (xb.map fun a=>⟨m.blk a.block,m.sh a.block+a.off,none⟩) k (mN m xb xc):=by rw[<-hx.at];cases xb<;>simp[aI,mN]
      have ecs:tR=.slice (base.map fun a=>⟨m.blk a.block,m.sh a.block+a.off,none⟩) n (mN m base c):=by rw[<-hs.at];cases base<;>simp[aI,mN]
      cases k with
      |zero=>
       have o?:cnew=[]:=List.length_eq_zero_iff.1 (by rw[<-G6.at];simp[y4]);subst o?;have fin:v=.slice base n c->bJ=s->n<=(mN m base c)->Eff P m s w (Builtin.append_ #[t,xt] ty #[tR,cx]) v bJ:=by rintro rfl rfl rY;refine⟨m,w,tR,?_,bP.refl hf,hs⟩;rw[uK,ecs];have:=Ra (P:=P) hT (w:=w) (ty:=ty) (w₁:=w) hd dK dR (base:=base.map fun a=>⟨m.blk a.block,m.sh a.block+a.off,none⟩) (n:=n) (i8 w rfl 0 (mN m xb xc)) (C:=(mN m base c)) (by simpa using rY) (fun a _=>by simp[storeCells]) (fun _=>rfl);simpa using this
       obtain⟨e1,e2,rY⟩:=ig hf h;exact fin e1 e2 rY
      |succ k=>
       simp only[XQ,beq_eq]at h;cases hc:Nat.blt c bX with
       |true=>
        simp only[hc,zC]at h;have mH:c<bX:=J8 hc;have gW:(mN m base c)=c:=by cases base<;>simp[mN,bW,mH]
        cases v7:Nat.ble (n+(k+1)) c with
        |true=>simp only[v7,zC]at h;have rY:n+(k+1)<=c:=zY v7;rcases base with _|a;simp at h;simp only at h;rcases hr:cV s a.block with _|r;simp[hr]at h;obtain⟨l,e',md⟩:=r;simp only[hr]at h;rcases hp:tZ l (a.off+n*(sz+1)) new with _|l';simp[hp]at h;simp only[hp,zA,zB]at h;obtain⟨rfl,rfl⟩:=h;obtain⟨w₁,bY,aT⟩:=xy (P:=P) hf hr hp G6 h1;refine⟨m,w₁,.slice (some ⟨m.blk a.block,m.sh a.block+a.off,none⟩) (n+(k+1)) c,?_,aT,?_⟩;rw[uK,ecs,gW];exact Ra (P:=P) hT (w:=w) (ty:=ty) hd dK dR (i8 w rfl _ _) rY (fun a' tM=>by simp only[zM,zA]at tM;subst tM;rw[yQ,Nat.add_assoc];exact bY) (fun eE=>by simp at eE);intro m' ha;have gO:=(hf.fits).bd _ _ (kq hr).1;obtain⟨b1,b2,_⟩:=ha a.block gO;simp[aI,b1,b2,bW,mH]
        |false=>
         simp only[v7,zD]at h;have aE:c<n+(k+1):=by rcases Nat.lt_or_ge c (n+(k+1))with hh |hh;exact hh;have:=Nat.ble_eq_true_of_le hh;rw[this]at v7;cases v7
         rcases hco:pF s base (n*(sz+1))with _|old;simp[hco]at h;simp only[hco]at h;rcases bN:yM (n+(k+1)) by_ with _|_;simp[bN]at h;simp only[bN,zC]at h;by_cases xX:z.cells.toList.length=sz+1;simp only[xX,yC,zC,zA,zB]at h;obtain⟨rfl,rfl⟩:=h;obtain⟨cold,A6,y3,wY⟩:=Oy (P:=P) hf hco;obtain⟨nc,q?,cW⟩:=qnr (P:=P) hT (w:=w) (ty:=ty) hd dK hi (n:=n) (k:=k+1) (C:=c) (base:=base.map fun a=>⟨m.blk a.block,m.sh a.block+a.off,none⟩) (fun w' hw=>i8 w' hw (k+1) (mN m xb xc)) (fun w' hw=>wY w' hw n c) aE bN;have Bw:i4 m s w.drew:=jv _ hf;have aT:=vh Bw (rest:=(Builtin.zeroCells z.cells (nc-(n+(k+1)))).toList) (A6.append G6) e nc (sz+1) (by
          have U6:z.cells.size=sz+1:=by simpa using xX
          rw[zU,y3,y4,Array.length_toList,hJ,U6,<-Nat.add_mul,<-Nat.add_mul];congr 1;omega)
         refine⟨_,_,.slice (some ⟨w.heap.size,0,none⟩) (n+(k+1)) nc,?_,(bP.draw (w.drawn+1) hf).trans aT,?_⟩;rw[uK,ecs,gW,cW];congr 3;simp;have hw:w.drew.heap.size=w.heap.size:=rfl;rw[hw];refine SP (zN _) fun m' ha=>?_;rw[Hh];obtain⟨_,_,e3⟩:=D9 m s.nx w.heap.size 0 nc;exact(ha s.nx (zN _)).2.2.trans e3;simp only[xX,yB,zD]at h;cases h
       |false=>
        simp only[hc,zD]at h;generalize hD:bQ c=D at h;have mH:¬ c<bX:=Pq hc;rcases base with _|a;simp at h;simp only at h;rcases hr:cV s a.block with _|r;simp[hr]at h;obtain⟨l,e',md⟩:=r;simp only[hr]at h;by_cases qE:md=sz+1+2;by_cases Q5:e'=e;by_cases eH:a.off=D*(sz+1);rcases bN:yM (n+(k+1)) by_ with _|_;simp[qE,Q5,bN]at h;by_cases xX:z.cells.toList.length=sz+1;rcases hg:xK l a.off (n*(sz+1))with _|p;simp only[qE,Q5,yC,zC,bN,xX,hg,<-eH]at h;cases h;have h':some (Value.slice (some ⟨s.nx,0,none⟩) (n+(k+1)) bX,(⟨(s.nx,.inl (p++new,e,sz+1+2))::rm s.h a.block,s.nx+1⟩:S))=some (v,bJ):=by simpa only[qE,Q5,yC,zC,bN,xX,hg,<-eH]using h
        simp only[zA,zB]at h';obtain⟨rfl,rfl⟩:=h';subst qE Q5;clear h;exact qzy hT hf hd dK hi hr (by rw[hD];exact eH) mH bN xX hg G6 y4 h1 i8 uK ecs;simp only[qE,Q5,yC,yB,zC,zD,bN,xX,<-eH]at h;cases h;simp only[qE,Q5,eH,yC,yB,zC,zD]at h;cases h;simp only[qE,Q5,yC,yB,zC,zD]at h;cases h;simp only[qE,yB,zD]at h;cases h
    |_=>simp[hd,dK]at h
   |_=>simp[hd,dK]at h
  |_=>simp[hd,dK]at h
 |_=>simp[hd]at h
omit hT hf in
theorem jw(size len cap:Nat)(b:Option Addr)(w':World):(Builtin.firstCells size 0 (.slice b len cap)).run P w'=.ok #[] w':=by
 cases b<;>simp[Builtin.firstCells,loadCells,loadCellsFrom]
theorem z1r{sv x cx:Value}(hs:eZ m s.nx sv tR)(hx:eZ m s.nx x cx)(h:vQ T s t xt sv x=some (v,bJ)):Eff P m s w (Builtin.append_ #[t,xt] ty #[tR,cx]) v bJ:=by
 have src:∀{sv tR:Value}{a:Option Addr},eZ m s.nx sv tR->xU T s t xt sv (.slice none 0 0)=some (v,bJ)->Eff P m s w (Builtin.append_ #[t,xt] ty #[tR,.slice a 0 0]) v bJ:=by
  intro sv tR a hs h;have h0:=h;unfold xU at h;rcases hd:T.und t with _|d;simp[hd]at h;cases d with
  |slice e=>
   rcases dK:T.und xt with _|d2;simp[hd,dK]at h;cases d2 with
   |slice e2=>
    cases sv with
    |slice base n c=>
     simp only[hd,dK]at h;rcases hi:T.inf e with _|y;simp[hi]at h;obtain⟨sz,by_,z⟩:=y;cases sz with
     |zero=>simp[hi]at h|succ sz=>
      have dR:cN T e=some (sz+1):=by simp[cN,hi]
      simp only[hi,Nat.zero_mul,pF,sW,zC]at h;obtain⟨e1,e2,rY⟩:=ig hf h;subst e1;subst e2;have ecs:tR=.slice (base.map fun a=>⟨m.blk a.block,m.sh a.block+a.off,none⟩) n (mN m base c):=by rw[<-hs.at];cases base<;>simp[aI,mN]
      refine⟨m,w,tR,?_,bP.refl hf,hs⟩;rw[ecs];have:=Ra (P:=P) hT (w:=w) (ty:=ty) (w₁:=w) hd dK dR (base:=base.map fun a=>⟨m.blk a.block,m.sh a.block+a.off,none⟩) (n:=n) (xb:=a) (xc:=0) (k:=0) (cnew:=#[]) (jw _ _ _ _ _) (C:=(mN m base c)) (by simpa using rY) (fun a _=>by simp[storeCells]) (fun _=>rfl);simpa using this
    |_=>simp[hd,dK]at h
   |_=>simp[hd,dK]at h
  |_=>simp[hd]at h
 have tgt:∀{x cx:Value}{a:Option Addr}{v':Value}{s':S},(eZ m s.nx x cx\/x=.slice none 0 0/\∃b,cx=.slice b 0 0)->xU T s t xt (.slice none 0 0) x=some (v',s')->(v'=.slice none 0 0/\s'=s/\(Builtin.append_ #[t,xt] ty #[.slice a 0 0,cx]).run P w=.ok (.slice a 0 0) w)\/((∃b n c,v'=.slice (some b) n c)/\Eff P m s w (Builtin.append_ #[t,xt] ty #[.slice a 0 0,cx]) v' s'):=by
  intro x cx a v' s' hx h;have Bz:=fun hx=>qqv (ty:=ty) hT hf (BR (m:=m) (n:=s.nx) (v:=.slice none 0 0) fun _=>by simp[aI]) (cx:=cx) hx h;unfold xU at h;rcases hd:T.und t with _|d
  simp[hd]at h;cases d with
  |slice e=>
   rcases dK:T.und xt with _|d2;simp[hd,dK]at h;cases d2 with
   |slice e2=>
    cases x with
    |slice xb k xc=>
     simp only[hd,dK]at h;rcases hi:T.inf e with _|y;simp[hi]at h;obtain⟨sz,by_,z⟩:=y;cases sz with
     |zero=>simp[hi]at h|succ sz=>
      have dR:cN T e=some (sz+1):=by simp[cN,hi]
      simp only[hi]at h;rcases hcx:pF s xb (k*(sz+1))with _|new;simp[hcx]at h;simp only[hcx]at h;rcases h1:sW new with _|_;simp[h1]at h;simp only[h1,zC]at h;obtain⟨cnew,G6,y4,i8⟩:=Oy (P:=P) hf hcx;have uK:eZ m s.nx (.slice xb k xc) cx->cx=.slice (xb.map fun a=>⟨m.blk a.block,m.sh a.block+a.off,none⟩) k (mN m xb xc):=fun hx=>by rw[<-hx.at];cases xb<;>simp[aI,mN]
      cases k with
      |zero=>
       obtain⟨e1,e2,rY⟩:=ig (sz:=sz) hf h;refine .inl ⟨e1,e2,?_⟩;have Y?:∃b c,cx=.slice b 0 c:=by rcases hx with hx |⟨_,b,hb⟩;exact⟨_,_,uK hx⟩;exact⟨b,0,hb⟩
       obtain⟨b,c,rfl⟩:=Y?;have:=Ra (P:=P) hT (w:=w) (ty:=ty) (w₁:=w) hd dK dR (base:=a) (n:=0) (xb:=b) (xc:=c) (k:=0) (cnew:=#[]) (jw _ _ _ _ _) (C:=0) (zF _) (fun a _=>by simp[storeCells]) (fun _=>rfl);simpa using this
      |succ k=>
       have bN:yM (0+(k+1)) by_=true/\∃b n c,v'=.slice (some b) n c:=by
        simp only[XQ]at h;have c0:Nat.blt 0 bX=true:=Nat.ble_eq_true_of_le (by simp[bX]);have c1:Nat.ble (0+(k+1)) 0=false:=by rcases hb:Nat.ble (0+(k+1)) 0 with _|_;rfl;have:=zY hb;omega
        simp only[c0,c1,zC,zD,Nat.zero_mul,pF]at h;rcases hr:yM (0+(k+1)) by_ with _|_;simp only[hr,zD]at h;cases h;simp only[hr,zC]at h;rcases hz:Nat.beq z.cells.toList.length (sz+1)with _|_;simp only[hz,zD]at h;cases h;simp only[hz,zC,zA,zB]at h;exact⟨rfl,_,_,_,h.1.symm⟩
       refine .inr ⟨bN.2,?_⟩;have hx:eZ m s.nx (.slice xb (k+1) xc) cx:=by rcases hx with hx |⟨hx,_⟩;exact hx;cases hx
       obtain⟨aH,w₁,cv,g1,g2,g3⟩:=Bz hx;refine⟨aH,w₁,cv,?_,g2,g3⟩;rw[uK hx]at g1 ⊢;have q2:=jI (P:=P) hT (w:=w) (ty:=ty) hd dK hi (base:=none) (n:=0) (C:=0) (cold:=#[]) (fun w' hw=>i8 w' hw (k+1) (mN m xb xc)) (fun w' _=>jw _ _ _ _ _) (by omega) bN.1;have q2':=jI (P:=P) hT (w:=w) (ty:=ty) hd dK hi (base:=a) (n:=0) (C:=0) (cold:=#[]) (fun w' hw=>i8 w' hw (k+1) (mN m xb xc)) (fun w' _=>jw _ _ _ _ _) (by omega) bN.1;rw[q2',<-q2];exact g1
    |_=>simp[hd,dK]at h
   |_=>simp[hd,dK]at h
  |_=>simp[hd]at h
 have flat:(eZ m s.nx (yO x) cx\/yO x=.slice none 0 0/\∃b,cx=.slice b 0 0):=by
  cases x with
  |chan r=>rcases r with _|r;exact .inl hx;have:=hx.at;simp only[aI]at this;exact .inr ⟨rfl,_,this.symm⟩
  |_=>exact .inl hx
 unfold vQ at h;cases hw:B2 sv with
 |false=>simp only[hw,zD]at h;rcases flat with hx |⟨e1,b,rfl⟩;exact qqv hT hf hs hx h;rw[e1]at h;exact src hs h
 |true=>
  simp only[hw,zC]at h;obtain⟨r,rfl⟩:∃r,sv=.chan (some r):=by
   cases sv with
   |chan r=>cases r with
    |none=>simp[B2]at hw|some r=>exact⟨r,rfl⟩
   |_=>simp[B2]at hw
  have ecs:=hs.at;simp only[aI]at ecs;rcases ha:xU T s t xt (.slice none 0 0) (yO x)with _|q;simp[ha]at h;obtain⟨v',s'⟩:=q;rcases tgt (a:=some ⟨m.blk r,m.sh r,some (m.cp r)⟩) flat ha with⟨e1,e2,cW⟩|⟨⟨b,n,c,e1⟩,Bz⟩;rw[ha,e1]at h;simp only[zA,zB]at h;obtain⟨rfl,rfl⟩:=h;exact⟨m,w,tR,by rw[<-ecs];exact cW,bP.refl hf,hs⟩;rw[ha,e1]at h;simp only[zA,zB]at h;obtain⟨rfl,rfl⟩:=h;rw[<-ecs,<-e1];exact Bz
end
variable{m:Nm}
variable{s:S}
variable{w:World}
theorem bP.ghost(h:i4 m s w)(b sh cp:Nat):bP m s w (m.set s.nx b sh cp) ⟨s.h,s.nx+1⟩ w:=by
 refine⟨Nm.agree_set m _ _ _ _,Nat.le_succ _,fun m' ha=>?_,?_,fun _ _ _=>rfl,zF _,rfl,rfl,rfl⟩;have hf:=h m' ((Nm.agree_set m s.nx b sh cp).trans ha (Nat.le_succ _));exact⟨hf.ok,hf.inj,fun i c hc=>Nat.lt_succ_of_lt (hf.bd i c hc)⟩;rintro k ⟨j,d,hd,ho,rfl⟩;have:=(h.fits).bd j d hd;exact .inl ⟨j,d,hd,ho,by simp[Nm.set,show j≠s.nx by omega]⟩
variable{r:Nat}
variable{es:List MapEntry}
variable{cl:Nat}
theorem Ho(h:D8 s r=some (es,cl)):lk s.h r=some (.inr (es,cl)):=by
 unfold D8 at h;rcases hl:lk s.h r with _|b;simp[hl]at h;rcases b with x |x<;>simp[hl]at h;rw[h]
theorem Y5{P:Program}(hf:i4 m s w){es':List MapEntry}{ces:List MapEntry}{cl':Nat}(hr:D8 s r=some (es,cl))
  (he:∀m',aM s.nx m m'->es'.map (eX m')=ces):
  ∃w₁,(setObj (m.blk r) (.map ces.toArray cl')).run P w=.ok () w₁/\bP m s w m (OB s r es' cl') w₁:=by
 have hl:=Ho hr;have hb:w.heap[m.blk r]? = some (.map (es.map (eX m)).toArray cl):=(hf.fits).ok r _ hl;refine⟨{ w with heap:=w.heap.setIfInBounds (m.blk r) (.map ces.toArray cl') },by simp[setObj,Sem.run,hb],?_⟩;refine bP.write hf hl rfl (fun k hk=>?_) (by simp) rfl rfl rfl (zF _) fun m' ha=>?_;exact Array.getElem?_setIfInBounds_ne (Ne.symm hk);have AA:m'.blk r=m.blk r:=(ha r ((hf.fits).bd r _ hl)).1;have aE:=(hf.fits).size hl;simp only[yP,AA,he m' ha];exact Array.getElem?_setIfInBounds_self_of_lt aE
theorem js(hf:i4 m s w)(hr:D8 s r=some (es,cl)):∀m',aM s.nx m m'->es.map (eX m')=es.map (eX m):=fun m' ha=>by
 have hl:=Ho hr;have h1:w.heap[m.blk r]? = some (.map (es.map (eX m)).toArray cl):=(hf.fits).ok r _ hl;have h2:w.heap[m'.blk r]? = some (.map (es.map (eX m')).toArray cl):=(hf m' ha).ok r _ hl;rw[(ha r ((hf.fits).bd r _ hl)).1,h1]at h2;simp at h2;exact List.map_congr_left fun e Q5=>(h2 e Q5).symm
theorem z2a{a b:ByteArray}(h:lG a.data.toList b.data.toList=true):a=b:=by
 rw[jx]at h;have:a.data.toList=b.data.toList:=by simpa using h
 exact ByteArray.ext (Array.ext' this)
theorem zc1{E:Value->Value->Bool}{n:Nat}(hE:∀a b,E a b=true->a=b/\Instr.sameBits n a b=true)(x y:List Value)(h:EB E x y=true):x=y/\((x.zip y).all fun p=>Instr.sameBits n p.1 p.2)=true:=by
 induction x generalizing y with|nil=>cases y<;>simp_all[EB]|cons a x ih=>rcases y with _|⟨b,y⟩;simp[EB]at h;simp only[EB]at h;rcases xE:E a b with _|_;simp[xE]at h;simp only[xE,zC]at h;obtain⟨e1,e2⟩:=hE a b xE;obtain⟨e3,e4⟩:=ih y h;subst e1 e3;simp only[List.zip_cons_cons,List.all_cons,e2,e4];simp
theorem WF(d k:Nat):∀a b,AI d a b=true->a=b/\Instr.sameBits (d+k) a b=true:=by
 induction d with
 |zero=>intro a b h;simp[AI]at h|succ d ih=>
  intro a b h;have hs:d+1+k=(d+k)+1:=by omega
  rw[hs];simp only[AI]at h;cases a with
  |int k1 x=>cases b with|int k2 y=>simp only at h;by_cases e1:k1=k2;by_cases e2:x=y;subst e1 e2;exact⟨rfl,by simp[Instr.sameBits]⟩;simp[e1,e2]at h;simp[e1]at h|_=>simp at h
  |bool x=>cases b with|bool y=>simp at h;subst h;exact⟨rfl,by simp[Instr.sameBits]⟩|_=>simp at h
  |string x=>cases b with|string y=>simp only at h;have:=z2a h;subst this;exact⟨rfl,by simp[Instr.sameBits,beq_toListBytes]⟩|_=>simp at h
  |agg x=>
   cases b with
   |agg y=>obtain⟨x⟩:=x;obtain⟨y⟩:=y;simp only at h;obtain⟨e1,e2⟩:=zc1 ih x y h;subst e1;refine⟨rfl,?_⟩;simp only[Instr.sameBits,beq_self_eq_true,Bool.true_and];exact e2
   |_=>simp at h
  |_=>simp at h
theorem qp4{P:Program}{a b:Value}(h:AI 50 a b=true)(w:World):(Instr.keyThatStays a b).run P w=.ok b w/\a=b:=by
 obtain⟨e1,e2⟩:=WF 50 9950 a b h;refine⟨?_,e1⟩;have e3:Instr.sameBits 10000 a b=true:=e2;simp[Instr.keyThatStays,e3]
theorem aj(es:List MapEntry)(i:Nat)(f:MapEntry->MapEntry):NJ es i f=es.modify i f:=by
 induction es generalizing i with|nil=>simp[NJ]|cons e es ih=>cases i<;>simp[NJ,ih]
theorem quf(es:List MapEntry)(i:Nat):Y1 es i=es.eraseIdx i:=by
 induction es generalizing i with|nil=>simp[Y1]|cons e es ih=>cases i<;>simp[Y1,ih]
variable{v:Value}
theorem z7c{T:Tb}{kt:TypeId}{k:Value}(es:List MapEntry)(b:Nat){i:Nat}(h:qR T kt k es b=some (some (i,v))):b<=i/\∃e,es[i-b]? = some e/\e.val=v:=by
 induction es generalizing b with
 |nil=>simp[qR]at h|cons e es ih=>
  simp only[qR]at h;rcases he:eqv T 50 kt k e.key with _|r;simp[he]at h;cases r with
  |true=>simp[he]at h;obtain⟨rfl,rfl⟩:=h;exact⟨zF _,e,by simp,rfl⟩
  |false=>simp only[he]at h;obtain⟨h1,e',h2,h3⟩:=ih (b+1) h;refine⟨by omega,e',?_,h3⟩;rw[show i-b=(i-(b+1))+1 by omega];simpa using h2
section
variable{P:Program}{T:Tb}(hT:lF P T){m:Nm}{s:S}{w:World}(hf:i4 m s w)
include hT hf
variable{t:TypeId}
variable{ty:TypeId}
variable{x:Value}
variable{bJ:S}
theorem zas{ts:List TypeId}{d cd cx:Value}(bG:eZ m s.nx d cd)(hx:eZ m s.nx x cx)(h:Lf T s t d x=some (v,bJ)):Eff P m s w (Builtin.copy_ (t::ts).toArray ty #[cd,cx]) v bJ:=by
 unfold Lf at h;rcases hd:T.und t with _|dd;simp[hd]at h;cases dd with
 |slice e=>
  cases d with
  |slice base n c=>
   cases x with
   |slice xb k xc=>
    simp only[hd]at h;rcases hs:cN T e with _|sz;simp[hs]at h;simp only[hs]at h;rcases hcx:pF s xb (Nat.min k n*sz)with _|cs;simp[hcx]at h;simp only[hcx]at h;rcases h1:sW cs with _|_;simp[h1]at h;simp only[h1,zC]at h;obtain⟨cnew,G6,y4,i8⟩:=Oy (P:=P) hf hcx;have uK:cx=.slice (xb.map fun a=>⟨m.blk a.block,m.sh a.block+a.off,none⟩) k (mN m xb xc):=by rw[<-hx.at];cases xb<;>simp[aI,mN]
    have ecd:cd=.slice (base.map fun a=>⟨m.blk a.block,m.sh a.block+a.off,none⟩) n (mN m base c):=by rw[<-bG.at];cases base<;>simp[aI,mN]
    have v9:=i8 w rfl k (mN m xb xc);have fin:∀w₁,(∀a,base=some a->(storeCells ⟨m.blk a.block,m.sh a.block+a.off,none⟩ cnew).run P w=.ok () w₁)->(base=none->w₁=w)->
      (Builtin.copy_ (t::ts).toArray ty #[cd,cx]).run P w=.ok (.int .i64 (Nat.min k n)) w₁:=by
     intro w₁ h2 h3;rw[uK,ecd];rcases base with _|a;rw[h3 rfl];simp[Builtin.copy_,iG hT w hd,Builtin.lenOf,nU hT w hs,v9,goInt];simp[Builtin.copy_,iG hT w hd,Builtin.lenOf,nU hT w hs,v9,goInt,h2 a rfl]
    cases cs with
    |nil=>
     simp only[zA,zB]at h;obtain⟨rfl,rfl⟩:=h;have o?:cnew=[]:=by rw[<-G6.at];simp[aJ]
     subst o?;exact⟨m,w,_,fin w (fun a _=>by simp[storeCells]) (fun _=>rfl),bP.refl hf,BR fun _=>by simp[aI]⟩
    |cons c0 cs=>simp only at h;rcases base with _|a;simp at h;simp only at h;rcases hr:cV s a.block with _|r;simp[hr]at h;obtain⟨l,e',md⟩:=r;simp only[hr]at h;rcases hp:tZ l a.off (c0::cs)with _|l';simp[hp]at h;simp only[hp,zA,zB]at h;obtain⟨rfl,rfl⟩:=h;obtain⟨w₁,bY,aT⟩:=xy (P:=P) hf hr hp G6 h1;exact⟨m,w₁,_,fin w₁ (fun a' tM=>by cases tM;exact bY) (fun eE=>by cases eE),aT,BR fun _=>by simp[aI]⟩
   |_=>simp[hd]at h
  |_=>simp[hd]at h
 |_=>simp[hd]at h
omit hf in
theorem qvx{t xt ty e:TypeId}{kd k:IntKind}{size by_ j:Nat}{z:Value}{q:Int}(hw:IntKind.i64.wrap q=((j+1:Nat):Int))(ht:T.und t=some (.slice e))(hx:T.und xt=some (.int kd))(hi:T.inf e=some (size,by_,z))(UA:0<size)(hr:yM (j+1) by_=true):
  ∃nc,j+1<=nc/\(Builtin.append_ #[t,xt] ty #[.slice none 0 0,.int k q]).run P w=
   .ok (.slice (some ⟨w.heap.size,0,none⟩) (j+1) nc) ((w.drew).alloc (.cells (Builtin.zeroCells z.cells (j+1)++Builtin.zeroCells z.cells (nc-(j+1))) e)):=by
 obtain⟨r1,r2⟩:=qrh hr;obtain⟨_,i,UJ,N8,UI,hi4⟩:=hT.inf e _ _ _ hi;have hs:cN T e=some size:=by simp[cN,hi]
 have g0:¬ (((j+1:Nat):Int)<0):=by omega
 have g4:¬ (((j+1:Nat):Int)*(i.bytes:Int)>2^48):=by rw[UI];have h':(((j+1)*by_:Nat):Int)<=((140737488355328:Nat):Int):=Int.ofNat_le.2 r1;rw[Int.natCast_mul]at h';omega
 have g1:¬ 0+(j+1)<=0:=by omega
 have g2:¬ (((0+(j+1):Nat):Int)>IntKind.i64.max/\(True\/i.bytes=0)):=by rw[IntKind.max_i64];omega
 have g3:¬ Builtin.nextslicecap (0+(j+1)) 0*i.bytes>2^48:=by have:=growslice_fits (bytes:=i.bytes) (show 0<0+(j+1) by omega) (by rw[UI,Nat.zero_add];exact r1);omega
 have g5:¬ (j+1)*size=0:=by have:=Nat.mul_pos (show 0<j+1 by omega) UA;omega
 have hz:(zeroValue e).run P w.drew=.ok z w.drew:=(J6 hT (⟨id,id,id⟩:Nm) w.drew hi).1;refine⟨(Question.appendCap (0+(j+1)) 0 e).cut (w.tape w.drawn (.appendCap (0+(j+1)) 0 e)),by simp[Question.cut],?_⟩;have hff:(Question.appendCap (0+(j+1)) 0 e).forced=false:=rfl;simp only[Builtin.append_,List.getElem?_toArray,List.getElem?_cons_zero,zH,zK,iG hT w ht,iG hT w hx,nU hT w hs,zJ,zL,Sem.run_ite,if_true,asInt,asIntOf,hw,g0,if_false,typeInfo,run_program,UJ,g4,zZ,g1,g2,g3,g5];simp[Builtin.firstCells];have O?:(Question.appendCap (j+1) 0 e).forced=false:=rfl;simp only[O?,Bool.false_eq_true,if_false,hz,zJ];simp[Go.newRow];rfl
theorem qzv{xt:TypeId}{sv tR cx:Value}(C5:eZ m s.nx sv tR)(hx:eZ m s.nx x cx)(h:xh T s t xt sv x=some (v,bJ)):Eff P m s w (Builtin.append_ #[t,xt] ty #[tR,cx]) v bJ:=by
 unfold xh at h;split at h;rename_i e kd kd' i hd dK;have e1:tR=.slice none 0 0:=by rw[<-C5.at];simp[aI]
 have e2:cx=.int kd' i:=by rw[<-hx.at];simp[aI]
 subst e1 e2;split at h;rename_i sz by_ z hi;split at h;rename_i k hw;rcases bN:yM (k+1) by_ with _|_;simp[bN]at h;rw[bN]at h;simp only[zC]at h;rcases xX:Nat.beq z.cells.toList.length (sz+1)with _|_;rw[xX]at h;cases h;rw[xX]at h;simp only[zC]at h;rcases h1:sW (cC z.cells.toList (k+1))with _|_;rw[h1]at h;cases h;rw[h1]at h;simp only[zC,zA,zB]at h;obtain⟨rfl,rfl⟩:=h;have vX:=He hT hi;simp only at vX;have U6:z.cells.size=sz+1:=by simpa[beq_eq]using xX
 obtain⟨nc,v7,cW⟩:=qvx (P:=P) (w:=w) (ty:=ty) (k:=kd') hT hw hd dK hi (by omega) bN;have Bw:i4 m s w.drew:=jv _ hf;have PX:(Builtin.zeroCells z.cells (k+1)).toList=cC z.cells.toList (k+1):=by have:=Ok z.cells (k+1);simp only[Builtin.zeroCells]at*;rw[this]
 have aT:=vh Bw (rest:=(Builtin.zeroCells z.cells (nc-(k+1))).toList) (jm (Pf vX (k+1))) e nc (sz+1) (by
  have a1:(Builtin.zeroCells z.cells (nc-(k+1))).toList.length=(nc-(k+1))*z.cells.size:=by rw[Array.length_toList,hJ]
  have a2:(cC z.cells.toList (k+1)).length=(k+1)*z.cells.size:=by rw[xx,Array.length_toList]
  rw[a1,a2,U6,<-Nat.add_mul];congr 1;omega)
 refine⟨_,_,.slice (some ⟨w.heap.size,0,none⟩) (k+1) nc,?_,(bP.draw (w.drawn+1) hf).trans aT,?_⟩;rw[cW];congr 3;apply Array.ext';simp[PX];have hw:w.drew.heap.size=w.heap.size:=rfl;rw[hw];refine SP (zN _) fun m' ha=>?_;rw[Hh];obtain⟨_,_,e3⟩:=D9 m s.nx w.heap.size 0 nc;exact(ha s.nx (zN _)).2.2.trans e3;cases h;cases h;cases h
theorem qzw{xt:TypeId}{sv tR cx:Value}(C5:eZ m s.nx sv tR)(hx:eZ m s.nx x cx)(h:YC T s t xt sv x=some (v,bJ)):Eff P m s w (Builtin.append_ #[t,xt] ty #[tR,cx]) v bJ:=by
 unfold YC at h;split at h;rename_i r hr;cases h;exact z1r hT hf C5 hx hr;exact qzv hT hf C5 hx h
theorem z6y{ts:List TypeId}{cx:Value}(hx:eZ m s.nx x cx)(h:Y2 T s t x=some (v,bJ)):Eff P m s w (Builtin.clear_ (t::ts).toArray ty #[cx]) v bJ:=by
 unfold Y2 at h;rcases hd:T.und t with _|dd;simp[hd]at h;cases dd with
 |slice e=>
  cases x with
  |slice base n c=>
   simp only[hd]at h;have uK:cx=.slice (base.map fun a=>⟨m.blk a.block,m.sh a.block+a.off,none⟩) n (mN m base c):=by rw[<-hx.at];cases base<;>simp[aI,mN]
   cases n with
   |zero=>simp only[zA,zB]at h;obtain⟨rfl,rfl⟩:=h;refine⟨m,w,undef,?_,bP.refl hf,BR fun _=>by simp[undef,aI,aJ]⟩;rw[uK];cases base<;>simp[Builtin.clear_,iG hT w hd,undef]
   |succ n=>
    cases base with
    |none=>simp only[zA,zB]at h;obtain⟨rfl,rfl⟩:=h;refine⟨m,w,undef,?_,bP.refl hf,BR fun _=>by simp[undef,aI,aJ]⟩;rw[uK];simp[Builtin.clear_,iG hT w hd,undef]
    |some a=>
     simp only at h;rcases hi:T.inf e with _|q;simp[hi]at h;obtain⟨sz,by_,z⟩:=q;simp only[hi]at h;have hz:=(J6 hT m w hi).1;have vX:=He hT hi;simp only at hz vX;rcases h1:sW (cC z.cells.toList (n+1))with _|_;simp[h1]at h;simp only[h1,zC]at h;rcases hr:cV s a.block with _|r;simp[hr]at h;obtain⟨l,e',md⟩:=r;simp only[hr]at h;rcases hp:tZ l a.off (cC z.cells.toList (n+1))with _|l';simp[hp]at h;simp only[hp,zA,zB]at h;obtain⟨rfl,rfl⟩:=h;obtain⟨w₁,bY,aT⟩:=xy (P:=P) hf hr hp (jm (Pf vX (n+1))) h1;refine⟨m,w₁,undef,?_,aT,BR fun _=>by simp[undef,aI,aJ]⟩;have PX:(Builtin.zeroCells z.cells (n+1)).toList=cC z.cells.toList (n+1):=by have:=Ok z.cells (n+1);simp only[Builtin.zeroCells]at*;rw[this]
     rw[uK];simp[Builtin.clear_,iG hT w hd,undef,hz,PX,bY]
  |_=>simp[hd]at h
 |_=>simp[hd]at h
theorem z5l{cx:Value}{lo hi mx:Option Value}{clo chi cmx:Option Value}(hx:eZ m s.nx x cx)(h1:∀m',aM s.nx m m'->lo.map (aI m')=clo)(h2:∀m',aM s.nx m m'->hi.map (aI m')=chi)
  (h3:∀m',aM s.nx m m'->mx.map (aI m')=cmx) (h:Fm T s t x lo hi mx=some (v,bJ)):Eff P m s w (Instr.sliceAt t cx clo chi cmx) v bJ:=by
 have e1:=h1 m (aM.refl _ _);have e2:=h2 m (aM.refl _ _);have e3:=h3 m (aM.refl _ _);unfold Fm at h;rcases hd:T.und t with _|dd;simp[hd]at h;cases dd with
 |slice e=>
  cases x with
  |slice p n c=>
   rcases p with _|a;simp[hd]at h;simp only[hd]at h;cases hc:Nat.blt c bX with
   |true=>simp[hc]at h|false=>
    have mH:¬ c<bX:=Pq hc;simp only[hc,zD]at h;rcases hs:cN T e with _|sz;simp[hs]at h;simp only[hs]at h;rcases hr:EY s a.block sz with _|l;simp[hr]at h;simp only[hr,beq_eq]at h;by_cases eH:a.off=bQ c*sz;rw[decide_eq_true eH]at h;simp only[zC]at h;rcases fC:Nat.blt 0 sz with _|_;simp[fC]at h;have tF:0<sz:=J8 fC;simp only[fC,zC]at h;obtain⟨sz,rfl⟩:∃q,sz=q+1:=⟨sz-1,by omega⟩;obtain⟨_,_,N6,_⟩:=ol hr;have hl:=hr;have gO:=(hf.fits).bd _ _ N6;have uK:cx=.slice (some ⟨m.blk a.block,m.sh a.block+a.off,none⟩) n (m.cp a.block-bQ c):=by rw[<-hx.at];simp[aI,bW,mH]
    have CA:(l.length-a.off)/(sz+1)<=m.cp a.block-bQ c:=by
     rcases Nat.eq_zero_or_pos ((l.length-a.off)/(sz+1))with h0 |hp;omega;have rY:=Nat.div_mul_le_self (l.length-a.off) (sz+1);have wW:a.off<=l.length:=by rcases Nat.lt_or_ge l.length a.off with aE |wW;rw[show l.length-a.off=0 by omega]at hp;simp at hp;exact wW
     have:=xj m w hf.fits (c:=c) (n:=(l.length-a.off)/(sz+1)) (off:=a.off) hl eH (by omega);omega
    have hu:=iG hT w hd;cases mx with
    |some vm=>
     simp only at h;rcases xB:jQ vm ((l.length-a.off)/(sz+1))with _|M0;simp[xB]at h;simp only[xB]at h;rcases pM:Nat.ble (a.off+M0*(sz+1)) l.length with _|_;simp[pM]at h;simp only[pM,zC]at h;rcases hb:gZ n M0 lo hi (some vm)with _|q;simp[hb]at h;obtain⟨l1,hh,M⟩:=q;simp only[hb]at h;rcases hMc:Nat.blt M bX with _|_;simp[hMc]at h;simp only[hMc,zC,zA,zB]at h;obtain⟨rfl,rfl⟩:=h;have Cg:M<bX:=J8 hMc;have hM0:M0<=m.cp a.block-bQ c:=by have:=(SK (P:=P) m w xB _ (zF _) .index).2;omega
     obtain⟨b1,b2,b3,_⟩:=OX (P:=P) (isS:=true) m w hb hM0;simp only[Option.isSome_some,if_true]at b1;rw[e1,e2,e3]at b1;have KM:M-l1<bX:=Nat.lt_of_le_of_lt (Nat.sub_le _ _) Cg;refine⟨m,w,.slice (if M=l1 then some ⟨m.blk a.block,m.sh a.block+a.off,none⟩else some ⟨m.blk a.block,m.sh a.block+a.off+l1*(sz+1),none⟩) (hh-l1) (M-l1),?_,bP.refl hf,fun m' ha=>?_⟩;rw[uK];simp only[Instr.sliceAt,zK,hu,zJ,Instr.slice,b1,nU hT w hs,zL,zM,yQ];obtain⟨q1,q2,_⟩:=ha a.block gO;by_cases CG:M=l1;rw[CG]at KM ⊢;simp only[yC,zC,aI,q1,q2,if_true,bW,if_pos KM];simp only[decide_eq_false CG,zD,aI,q1,q2,if_neg CG,bW,if_pos KM,Nat.add_assoc]
    |none=>
     simp only at h;rcases hb:gZ n ((l.length-a.off)/(sz+1)) lo hi none with _|q;simp[hb]at h;obtain⟨l1,hh,M⟩:=q;simp only[hb]at h;rcases pM:Nat.ble (a.off+hh*(sz+1)) l.length with _|_;simp[pM]at h;simp only[pM,zC]at h;have Bq:a.off+hh*(sz+1)<=l.length:=zY pM;have hhC:=xj m w hf.fits (c:=c) (n:=hh) (off:=a.off) hl eH Bq;obtain⟨b1,b2,_,b4⟩:=OX (P:=P) (isS:=true) m w hb CA;simp only[Option.isSome_none,Bool.false_eq_true,if_false]at b1;rw[e1,e2,e3]at b1;have cW:(Instr.sliceAt t cx clo chi cmx).run P w=.ok (.slice (if m.cp a.block-bQ c=l1 then some ⟨m.blk a.block,m.sh a.block+a.off,none⟩else some ⟨m.blk a.block,m.sh a.block+a.off+l1*(sz+1),none⟩) (hh-l1) (m.cp a.block-bQ c-l1)) w:=by rw[uK];simp only[Instr.sliceAt,zK,hu,zJ,Instr.slice,b1,nU hT w hs,zL,zM,yQ]
     cases l1 with
     |zero=>
      simp only[zA,zB]at h;obtain⟨rfl,rfl⟩:=h;have Vi:(Instr.sliceAt t cx clo chi cmx).run P w=.ok (.slice (some ⟨m.blk a.block,m.sh a.block+a.off,none⟩) hh (m.cp a.block-bQ c)) w:=by rw[Nat.sub_zero,Nat.sub_zero,Nat.zero_mul,Nat.add_zero]at cW;by_cases hC:m.cp a.block-bQ c=0;rw[if_pos hC]at cW;exact cW;rw[if_neg hC]at cW;exact cW
      refine⟨m,w,_,Vi,bP.refl hf,fun m' ha=>?_⟩;obtain⟨q1,q2,q3⟩:=ha a.block gO;simp only[aI,q1,q2,q3,bW,if_neg mH]
     |succ l1=>
      simp only at h;cases aE:Nat.blt (l1+1) hh with
      |true=>
       have wU:l1+1<hh:=J8 aE;simp only[aE,zC,zA,zB]at h;obtain⟨rfl,rfl⟩:=h;refine⟨m,w,_,cW,bP.refl hf,fun m' ha=>?_⟩;obtain⟨q1,q2,q3⟩:=ha a.block gO;have cZ:¬ m.cp a.block-bQ c=l1+1:=by omega
       have v7:¬ c+(l1+1)<bX:=fun hh=>mH (Nat.lt_of_le_of_lt (Nat.le_add_right _ _) hh);have B7:bQ (c+(l1+1))=bQ c+(l1+1):=qxu (Nat.le_of_not_lt mH) _;simp only[aI,q1,q2,q3,bW,if_neg v7,if_neg cZ,B7,Nat.add_assoc,Nat.sub_sub]
      |false=>
       simp only[aE,zD,zA,zB]at h;obtain⟨rfl,rfl⟩:=h;have wW:=Pq aE;have heq:hh=l1+1:=by omega
       subst heq;rw[Nat.sub_self]at cW;by_cases hC:m.cp a.block-bQ c=l1+1;rw[if_pos hC]at cW;refine⟨_,w,_,cW,bP.ghost hf (m.blk a.block) (m.sh a.block+a.off) (m.cp a.block-bQ c-(l1+1)),SP (zN _) fun m' ha=>?_⟩;rw[Hh];obtain⟨_,_,e3⟩:=D9 m s.nx (m.blk a.block) (m.sh a.block+a.off) (m.cp a.block-bQ c-(l1+1));exact(ha s.nx (zN _)).2.2.trans e3;rw[if_neg hC]at cW;refine⟨_,w,_,cW,bP.ghost hf (m.blk a.block) (m.sh a.block+a.off+(l1+1)*(sz+1)) (m.cp a.block-bQ c-(l1+1)),SP (zN _) fun m' ha=>?_⟩;rw[Hh];obtain⟨_,_,e3⟩:=D9 m s.nx (m.blk a.block) (m.sh a.block+a.off+(l1+1)*(sz+1)) (m.cp a.block-bQ c-(l1+1));exact(ha s.nx (zN _)).2.2.trans e3
    rw[decide_eq_false eH]at h;simp at h
  |_=>simp[hd]at h
 |_=>simp[hd]at h
end
theorem vC{O β:Type}(f:O->β)(l:List O)(i:Nat):(l.eraseIdx i).map f=(l.map f).eraseIdx i:=by
 induction l generalizing i with|nil=>simp|cons a l ih=>cases i<;>simp[ih]
section
variable{P:Program}{T:Tb}(hT:lF P T){m:Nm}{s:S}{w:World}(hf:i4 m s w)
include hT hf
variable{t:TypeId}
variable{mv:Value}
variable{k:Value}
variable{cm:Value}
variable{ck:Value}
variable{bJ:S}
theorem qyk{x cx u:Value}(hm:eZ m s.nx mv cm)(hk:eZ m s.nx k ck)(hx:eZ m s.nx x cx)(h:XW T s t mv k x=some (u,bJ)):
  QY P m s w (Instr.mapUpdate t cm ck cx) bJ/\u=undef:=by
 unfold XW at h;rcases hd:T.und t with _|dd;simp[hd]at h;cases dd with
 |map kt et=>
  cases mv with
  |map r=>
   rcases r with _|r;simp[hd]at h;simp only[hd]at h;rcases qW:oL T 50 kt k with _|_;simp[qW]at h;simp only[qW,zC]at h;obtain⟨ty,oT⟩:=xq qW;rcases nI:plain k with _|_;simp[nI]at h;simp only[nI,zC]at h;rcases hr:D8 s r with _|q;simp[hr]at h;obtain⟨es,cl⟩:=q;simp only[hr]at h;have hb:w.heap[m.blk r]? = some (.map (es.map (eX m)).toArray cl):=(hf.fits).ok r _ (Ho hr);have HR:cm=.map (some (m.blk r)):=by rw[<-hm.at];simp[aI]
   have eck:ck=k:=by rw[<-hk.at];exact BQ m k nI
   have wZ:=Nr hT m false 50 9950 w qW;rw[BQ m k nI]at wZ;have bY:=js hf hr;rcases hfx:qR T kt k es 0 with _|fr;simp[hfx]at h;have v9:=OO hT m w oT hfx;rw[BQ m k nI]at v9;cases fr with
   |none=>simp only[hfx,zA,zB]at h;obtain⟨rfl,rfl⟩:=h;refine⟨?_,rfl⟩;obtain⟨w₁,h1,h2⟩:=Y5 (P:=P) hf hr (es':=es++[{ key:=k,val:=x,born:=cl }]) (cl':=cl+1) (ces:=es.map (eX m)++[{ key:=k,val:=cx,born:=cl }]) (fun m' ha=>by simp[eX,BQ m' k nI,hx m' ha];have:=bY m' ha;simpa[eX]using this);refine⟨m,w₁,?_,h2⟩;rw[HR,eck];simp only[Instr.mapUpdate,zK,iG hT w hd,zJ,MN hb,wZ,v9,Option.map_none];rw[<-h1];simp
   |some p=>
    obtain⟨i,pv⟩:=p;simp only[hfx,iZ]at h;rcases hei:es[i]? with _|e;simp[hei]at h;simp only[hei]at h;rcases hv:AI 50 e.key k with _|_;simp[hv]at h;simp only[hv,zC,zA,zB]at h;obtain⟨rfl,rfl⟩:=h;refine⟨?_,rfl⟩;obtain⟨qF,By⟩:=qp4 (P:=P) hv w;have K9:∀m',aM s.nx m m'->(NJ es i fun e=>{ e with val:=x }).map (eX m')=(es.map (eX m)).modify i fun e=>{ e with key:=k,val:=cx }:=fun m' ha=>by rw[aj,<-bY m' ha];apply List.ext_getElem?;intro j;simp only[List.getElem?_map,List.getElem?_modify];by_cases lS:i=j;subst lS;simp[hei,eX,hx m' ha,By,BQ m' k nI];cases es[j]? <;> simp[lS]
    obtain⟨w₁,h1,h2⟩:=Y5 (P:=P) hf hr (cl':=cl) K9;refine⟨m,w₁,?_,h2⟩;have j4:(es.map (eX m)).toArray[i]? = some (eX m e):=by simp[hei]
    have v8:(eX m e).key=k:=by simp[eX,By,BQ m k nI]
    rw[By]at qF;rw[HR,eck];simp only[Instr.mapUpdate,zK,iG hT w hd,zJ,MN hb,wZ,v9,zM,j4,Option.getD_some,v8,qF];rw[<-h1];simp
  |_=>simp[hd]at h
 |_=>simp[hd]at h
theorem z45{v:Value}(hm:eZ m s.nx mv cm)(hk:eZ m s.nx k ck)(h:Gk T s t mv k=some (v,bJ)):Eff P m s w (Instr.mapEntry t cm ck) v bJ:=by
 unfold Gk at h;rcases hd:T.und t with _|dd;simp[hd]at h;cases dd with
 |map kt et=>
  cases mv with
  |map r=>
   rcases r with _|r;simp[hd]at h;simp only[hd]at h;rcases qW:oL T 50 kt k with _|_;simp[qW]at h;simp only[qW,zC]at h;obtain⟨ty,oT⟩:=xq qW;rcases nI:plain k with _|_;simp[nI]at h;simp only[nI,zC]at h;rcases hr:D8 s r with _|q;simp[hr]at h;obtain⟨es,cl⟩:=q;simp only[hr]at h;have hb:w.heap[m.blk r]? = some (.map (es.map (eX m)).toArray cl):=(hf.fits).ok r _ (Ho hr);have HR:cm=.map (some (m.blk r)):=by rw[<-hm.at];simp[aI]
   have eck:ck=k:=by rw[<-hk.at];exact BQ m k nI
   have wZ:=Nr hT m false 50 9950 w qW;rw[BQ m k nI]at wZ;have bY:=js hf hr;rcases hfx:qR T kt k es 0 with _|fr;simp[hfx]at h;have v9:=OO hT m w oT hfx;rw[BQ m k nI]at v9;cases fr with
   |none=>
    simp only[hfx]at h;rcases hi:T.inf et with _|y;simp[hi]at h;obtain⟨y1,y2,z⟩:=y;have hz:=fun m'=>J6 hT m' w hi
    simp only at hz;simp only[hi,zA,zB]at h;obtain⟨rfl,rfl⟩:=h;obtain⟨w₁,h1,h2⟩:=Y5 (P:=P) hf hr (es':=es++[{ key:=k,val:=z,born:=cl }]) (cl':=cl+1) (ces:=es.map (eX m)++[{ key:=k,val:=z,born:=cl }]) (fun m' ha=>by simp[eX,BQ m' k nI,(hz m').2];have:=bY m' ha;simpa[eX]using this);refine⟨m,w₁,.tuple #[z,.int .i64 cl],?_,h2,fun m' _=>by simp[aI,aJ,(hz m').2]⟩;rw[HR,eck];have y5:(setObj (m.blk r) (.map ((es.map (eX m)).toArray.push { key:=k,val:=z,born:=cl }) (cl+1))).run P w=.ok () w₁:=by rw[<-h1];simp
    simp only[Instr.mapEntry,zK,iG hT w hd,zJ,MN hb,wZ,v9,Option.map_none,(hz m).1,y5,zL,goInt]
   |some p=>
    obtain⟨i,pv⟩:=p;obtain⟨_,e0,Wl,hpv⟩:=z7c es 0 hfx;simp only[Nat.sub_zero]at Wl;simp only[hfx,iZ,Wl]at h;rcases hv:AI 50 e0.key k with _|_;simp[hv]at h;simp only[hv,zC,zA,zB]at h;obtain⟨rfl,rfl⟩:=h;obtain⟨qF,By⟩:=qp4 (P:=P) hv w;obtain⟨w₁,h1,h2⟩:=Y5 (P:=P) hf hr (es':=es) (cl':=cl) bY;have j4:(es.map (eX m)).toArray[i]? = some (eX m e0):=by simp[Wl]
    have v8:(eX m e0).key=k:=by simp[eX,By,BQ m k nI]
    have Wu:(eX m e0).born=e0.born:=rfl;rw[By]at qF;have K9:(es.map (eX m)).toArray.modify i (fun e=>{ e with key:=k })=(es.map (eX m)).toArray:=by apply Array.ext';simp only[Array.toList_modify];apply List.ext_getElem?;intro j;simp only[List.getElem?_modify];by_cases lS:i=j;subst lS;simp[Wl,eX,By,BQ m k nI];cases ((es.map (eX m)).toArray.toList)[j]? <;> simp[lS]
    refine⟨m,w₁,.tuple #[aI m pv,.int .i64 e0.born],?_,h2,fun m' ha=>?_⟩;rw[HR,eck];simp only[Instr.mapEntry,zK,iG hT w hd,zJ,MN hb,wZ,v9,zM,j4,Option.getD_some,v8,qF,K9,h1,zL,goInt,Wu];have:=bY m' ha;have h3:(eX m' e0)=eX m e0:=by have:=congrArg (fun l=>l[i]?) this;simpa[Wl]using this
    have h4:aI m' pv=aI m pv:=by have:=congrArg MapEntry.val h3;simpa[eX,hpv]using this
    simp[aI,aJ,h4]
  |_=>simp[hd]at h
 |_=>simp[hd]at h
omit hT in
theorem z77{t:TypeId}{mv st x cm cst cx u:Value}{bJ:S}(hm:eZ m s.nx mv cm)(hs:eZ m s.nx st cst)(hx:eZ m s.nx x cx)(h:Nt s mv st x=some (u,bJ)):
  QY P m s w (Instr.entryStore t cm cst cx) bJ/\u=undef:=by
 unfold Nt at h;cases mv with
 |map r=>
  rcases r with _|r;simp at h;cases st with
  |int k b=>
   simp only at h;rcases hr:D8 s r with _|q;simp[hr]at h;obtain⟨es,cl⟩:=q;simp only[hr]at h;rcases Wu:S8 b es 0 with _|i;simp[Wu]at h;simp only[Wu,zA,zB]at h;obtain⟨rfl,rfl⟩:=h;refine⟨?_,rfl⟩;have hb:w.heap[m.blk r]? = some (.map (es.map (eX m)).toArray cl):=(hf.fits).ok r _ (Ho hr);have HR:cm=.map (some (m.blk r)):=by rw[<-hm.at];simp[aI]
   have ecs:cst=.int k b:=by rw[<-hs.at];simp[aI]
   have bY:=js hf hr;have Wg:∀(l:List MapEntry)(n i:Nat),S8 b l n=some i->n<=i/\(l.map (eX m)).findIdx? (fun e=>(e.born:Int)==b)=some (i-n):=by
    intro l;induction l with
    |nil=>intro n i hh;simp[S8]at hh|cons e l ih=>
     intro n i hh;simp only[S8]at hh;by_cases he:(e.born:Int)=b;simp[he]at hh;subst hh;have cU:(((eX m e).born:Int)==b)=true:=by simpa[eX]using he
     refine⟨zF _,?_⟩;rw[zQ,List.findIdx?_cons,cU];simp;simp only[he,yB,zD]at hh;obtain⟨h1,h2⟩:=ih (n+1) i hh;have cU:(((eX m e).born:Int)==b)=false:=by simpa[eX]using he
     refine⟨by omega,?_⟩;rw[zQ,List.findIdx?_cons,cU,h2];simp;omega
   obtain⟨_,v9⟩:=Wg es 0 i Wu;have K9:∀m',aM s.nx m m'->(NJ es i fun e=>{ e with val:=x }).map (eX m')=(es.map (eX m)).modify i fun e=>{ e with val:=cx }:=fun m' ha=>by rw[aj,<-bY m' ha];apply List.ext_getElem?;intro j;simp only[List.getElem?_map,List.getElem?_modify];by_cases lS:i=j;subst lS;cases es[i]? <;> simp[eX,hx m' ha];cases es[j]? <;> simp[lS]
   obtain⟨w₁,h1,h2⟩:=Y5 (P:=P) hf hr (cl':=cl) K9;refine⟨m,w₁,?_,h2⟩;rw[HR,ecs];have Wh:(es.map (eX m)).toArray.findIdx? (fun e=>(e.born:Int)==b)=some i:=by rw[List.findIdx?_toArray,v9];simp
   simp only[Instr.entryStore,zK,MN hb,zJ,asInt,asIntOf,zL,Wh];rw[<-h1];simp
  |_=>simp at h
 |_=>simp at h
theorem Do{ty:TypeId}{ts:List TypeId}{v:Value}(hm:eZ m s.nx mv cm)(hk:eZ m s.nx k ck)(h:GD T s t mv k=some (v,bJ)):Eff P m s w (Builtin.delete_ (t::ts).toArray ty #[cm,ck]) v bJ:=by
 unfold GD at h;rcases hd:T.und t with _|dd;simp[hd]at h;cases dd with
 |map kt et=>
  cases mv with
  |map r=>
   cases r with
   |none=>
    simp only[hd]at h;rcases qW:oL T 50 kt k with _|_;simp[qW]at h;simp only[qW,zC,zA,zB]at h;obtain⟨rfl,rfl⟩:=h;have HR:cm=.map none:=by rw[<-hm.at];simp[aI]
    have wZ:=Nr hT m true 50 9950 w qW;rw[hk.at]at wZ;refine⟨m,w,undef,?_,bP.refl hf,BR fun _=>by simp[undef,aI,aJ]⟩;rw[HR];have Q6:(Instr.checkKey true 10000 kt ck).run P w=.ok () w:=wZ;simp[Builtin.delete_,iG hT w hd,Q6,undef]
   |some r=>
    simp only[hd]at h;rcases qW:oL T 50 kt k with _|_;simp[qW]at h;simp only[qW,zC]at h;obtain⟨ty,oT⟩:=xq qW;rcases hr:D8 s r with _|q;simp[hr]at h;obtain⟨es,cl⟩:=q;simp only[hr]at h;have hb:w.heap[m.blk r]? = some (.map (es.map (eX m)).toArray cl):=(hf.fits).ok r _ (Ho hr);have HR:cm=.map (some (m.blk r)):=by rw[<-hm.at];simp[aI]
    have wZ:=Nr hT m (es.map (eX m)).toArray.isEmpty 50 9950 w qW;rw[hk.at]at wZ;have Q6:(Instr.checkKey (es.map (eX m)).toArray.isEmpty 10000 kt ck).run P w=.ok () w:=wZ;have bY:=js hf hr;rcases hfx:qR T kt k es 0 with _|fr;simp[hfx]at h;have v9:=OO hT m w oT hfx;rw[hk.at]at v9;cases fr with
    |none=>simp only[hfx,zA,zB]at h;obtain⟨rfl,rfl⟩:=h;obtain⟨w₁,h1,h2⟩:=Y5 (P:=P) hf hr (es':=es) (cl':=cl) bY;refine⟨m,w₁,undef,?_,h2,BR fun _=>by simp[undef,aI,aJ]⟩;rw[HR];simp only[Builtin.delete_,List.getElem?_toArray,List.getElem?_cons_zero,zH,zK,iG hT w hd,zJ,MN hb,Q6,v9,Option.map_none,h1,zL,undef]
    |some p=>
     obtain⟨i,pv⟩:=p;simp only[hfx,zA,zB]at h;obtain⟨rfl,rfl⟩:=h;obtain⟨w₁,h1,h2⟩:=Y5 (P:=P) hf hr (es':=Y1 es i) (cl':=cl) (ces:=(es.map (eX m)).eraseIdx i) (fun m' ha=>by rw[quf,<-bY m' ha,vC]);refine⟨m,w₁,undef,?_,h2,BR fun _=>by simp[undef,aI,aJ]⟩;have y5:(setObj (m.blk r) (.map ((es.map (eX m)).toArray.eraseIdxIfInBounds i) cl)).run P w=.ok () w₁:=by rw[<-h1];simp
     rw[HR];simp only[Builtin.delete_,List.getElem?_toArray,List.getElem?_cons_zero,zH,zK,iG hT w hd,zJ,MN hb,Q6,v9,zM,y5,zL,undef]
  |_=>simp[hd]at h
 |_=>simp[hd]at h
end
def xR(m:Nm)(n:Nat)(tm:List Value)(a:Act):Prop:=∀m',aM n m m'->a.tmps=⟨aJ m' tm⟩
variable{m:Nm}
variable{n:Nat}
variable{tm:List Value}
variable{a:Act}
theorem xR.ext{m':Nm}{n':Nat}(h:xR m n tm a)(ha:aM n m m')(hn:n<=n'):xR m' n' tm a:=fun k hk=>h k (ha.trans hk hn)
variable{v:Value}
theorem xR.evalO(h:xR m n tm a){x:Operand}(hx:evalO tm x=some v):eZ m n v (a.eval x):=fun m' ha=>(kW (h m' ha) hx).symm
theorem z8c(m:Nm)(tm:List Value)(d:Nat)(v:Value):aJ m (tm.set d v)=(aJ m tm).set d (aI m v):=by simp[mR,List.map_set]
theorem xR.put{m:Nm}{n:Nat}{tm:List Value}{a:Act}(h:xR m n tm a){v cv:Value}(hv:eZ m n v cv)(d:Option Tmp):xR m n (NH tm d v) (a.put d cv):=fun m' ha=>by
 rcases d with _|d;exact h m' ha;simp only[Act.put,NH,h m' ha,z8c,hv m' ha,List.setIfInBounds_toArray]
section
variable{P:Program}{T:Tb}(hT:lF P T){m:Nm}{s:S}{w:World}(hf:i4 m s w)
include hT hf
theorem Dm(ha:xR m s.nx tm a)(o:Oper){bJ:S}(h:u6 T tm s o.op=some (v,bJ)):
  ∃aH w₁ cv nxt,(execOp a.eval o).run P w=.ok nxt w₁/\(nxt=.value cv\/(nxt=.skip/\cv=undef))/\bP m s w aH bJ w₁/\eZ aH bJ.nx v cv:=by
 obtain⟨dst,op,type,pos,after,guard⟩:=o;simp only at h;have eQ:∀{x:Sem Value},Eff P m s w x v bJ->∃aH w₁ cv nxt,(do let y <-x;pure (Next.value y):Sem Next).run P w=.ok nxt w₁/\(nxt=.value cv\/(nxt=.skip/\cv=undef))/\bP m s w aH bJ w₁/\eZ aH bJ.nx v cv:=by rintro x ⟨aH,w₁,cv,h1,h2,h3⟩;exact⟨aH,w₁,cv,_,by simp only[zK,h1,zJ,zL],.inl rfl,h2,h3⟩
 have DD:∀{x:Sem Unit},QY P m s w x bJ/\v=undef->∃aH w₁ cv nxt,(do x;pure Next.skip:Sem Next).run P w=.ok nxt w₁/\(nxt=.value cv\/(nxt=.skip/\cv=undef))/\bP m s w aH bJ w₁/\eZ aH bJ.nx v cv:=by rintro x ⟨⟨aH,w₁,h1,h2⟩,rfl⟩;exact⟨aH,w₁,undef,_,by simp only[zK,h1,zJ,zL],.inr ⟨rfl,rfl⟩,h2,BR fun _=>by simp[undef,aI,aJ]⟩
 unfold u6 at h;cases op with
 |alloc e=>simp only at h;rcases hi:T.inf e with _|x;simp[hi]at h;obtain⟨x1,x2,z⟩:=x;simp only[hi,zA,zB]at h;obtain⟨rfl,rfl⟩:=h;have hz:=(J6 hT m w hi).1;have vX:=He hT hi;simp only at hz vX;refine eQ ⟨_,_,.pointer (some ⟨w.heap.size,0,none⟩),?_,xa hf (jm vX) e 0,qz9 _ _ _ _ (zN _)⟩;simp[Instr.alloc,hz,newVar,Go.newRow]
 |box e x=>simp only at h;rcases hx:evalO tm x with _|u;simp[hx]at h;simp only[hx,zA,zB]at h;obtain⟨rfl,rfl⟩:=h;refine eQ ⟨_,_,.pointer (some ⟨w.heap.size,0,none⟩),?_,xa hf (ha.evalO hx).cells e 0,qz9 _ _ _ _ (zN _)⟩;simp[Instr.box,newVar,Go.newRow]
 |store t p x=>simp only at h;rcases hp:evalO tm p with _|u;simp[hp]at h;rcases hx:evalO tm x with _|u';simp[hp,hx]at h;simp only[hp,hx]at h;exact DD (z8m hT hf (ha.evalO hp) (ha.evalO hx) h)
 |buildSlice t n ps=>
  simp only at h;rcases hp:IU tm ps.toList with _|qs;simp[hp]at h;simp only[hp]at h;have e1:(ps.map fun(i,x)=>(i,a.eval x))=(ps.toList.map fun p=>(p.1,a.eval p.2)).toArray:=by cases ps;simp
  have:=qwt hT hf (cps:=ps.toList.map fun p=>(p.1,a.eval p.2)) (fun m' dJ=>(fm (ha m' dJ) hp).symm) h;simp only[execOp];rw[e1];exact eQ this
 |makeSlice t l c=>simp only at h;rcases hp:evalO tm l with _|u;simp[hp]at h;rcases hx:evalO tm c with _|u';simp[hp,hx]at h;simp only[hp,hx]at h;exact eQ (zb7 hT hf (ha.evalO hp) (ha.evalO hx) h)
 |makeMap t r=>cases r with|some r=>simp at h|none=>simp only[zA,zB]at h;obtain⟨rfl,rfl⟩:=h;refine eQ ⟨_,_,.map (some w.heap.size),?_,bP.alloc hf (.map #[] 0) (.inr ([],0)) 0 ?_,fun m' dJ=>?_⟩;simp[Instr.makeMap];intro m' dJ;have e1:=(dJ s.nx (zN _)).1;simp only[yP,e1,(D9 m s.nx w.heap.size 0 0).1];show(w.heap.push _)[w.heap.size]? = _;simp;have e1:=(dJ s.nx (zN _)).1;simp only[aI,e1,(D9 m s.nx w.heap.size 0 0).1]
 |slice t x lo hi mx=>simp only at h;rcases hx:evalO tm x with _|u;simp[hx]at h;rcases h1:rO tm lo with _|l;simp[hx,h1]at h;rcases h2:rO tm hi with _|hh;simp[hx,h1,h2]at h;rcases h3:rO tm mx with _|mm;simp[hx,h1,h2,h3]at h;simp only[hx,h1,h2,h3]at h;exact eQ (z5l hT hf (ha.evalO hx) (fun m' dJ=>(OS (ha m' dJ) h1).symm) (fun m' dJ=>(OS (ha m' dJ) h2).symm) (fun m' dJ=>(OS (ha m' dJ) h3).symm) h)
 |mapUpdate t q k x=>simp only at h;rcases h1:evalO tm q with _|u1;simp[h1]at h;rcases h2:evalO tm k with _|u2;simp[h1,h2]at h;rcases h3:evalO tm x with _|u3;simp[h1,h2,h3]at h;simp only[h1,h2,h3]at h;exact DD (qyk hT hf (ha.evalO h1) (ha.evalO h2) (ha.evalO h3) h)
 |insert t q k x=>simp only at h;rcases h1:evalO tm q with _|u1;simp[h1]at h;rcases h2:evalO tm k with _|u2;simp[h1,h2]at h;rcases h3:evalO tm x with _|u3;simp[h1,h2,h3]at h;simp only[h1,h2,h3]at h;exact DD (qyk hT hf (ha.evalO h1) (ha.evalO h2) (ha.evalO h3) h)
 |mapEntry t q k=>simp only at h;rcases h1:evalO tm q with _|u1;simp[h1]at h;rcases h2:evalO tm k with _|u2;simp[h1,h2]at h;simp only[h1,h2]at h;exact eQ (z45 hT hf (ha.evalO h1) (ha.evalO h2) h)
 |entryStore t q k x=>simp only at h;rcases h1:evalO tm q with _|u1;simp[h1]at h;rcases h2:evalO tm k with _|u2;simp[h1,h2]at h;rcases h3:evalO tm x with _|u3;simp[h1,h2,h3]at h;simp only[h1,h2,h3]at h;exact DD (z77 hf (ha.evalO h1) (ha.evalO h2) (ha.evalO h3) h)
 |call c=>
  obtain⟨callee,args,ats⟩:=c;simp only at h;cases callee with
  |builtin b=>
   cases b with
   |append=>
    simp only at h;rcases hx:kM tm args.toList with _|vs;simp[hx]at h;rcases vs with _ |⟨x,_ |⟨y,_ |⟨z,l⟩⟩⟩;simp[hx]at h;simp[hx]at h;obtain⟨ats⟩:=ats;rcases ats with _ |⟨t,_ |⟨xt,_ |⟨q,r⟩⟩⟩;simp[hx]at h;simp[hx]at h;simp only[hx]at h;have e0:=uC (ha m (aM.refl _ _)) hx;simp only[aJ]at e0;have r1:eZ m s.nx x (aI m x):=fun m' dJ=>by have e1:=uC (ha m' dJ) hx;rw[e0]at e1;simp only[aJ]at e1;simp at e1;exact e1.1.symm
    have r2:eZ m s.nx y (aI m y):=fun m' dJ=>by have e1:=uC (ha m' dJ) hx;rw[e0]at e1;simp only[aJ]at e1;simp at e1;exact e1.2.symm
    obtain⟨aH,w₁,cv,g1,g2,g3⟩:=qzw hT hf (ty:=type) r1 r2 h;refine⟨aH,w₁,cv,.value cv,?_,.inl rfl,g2,g3⟩;simp only[execOp,zK,resolve,zL,zJ,invoke,builtin,e0];rw[g1];rfl;simp[hx]at h;simp[hx]at h
   |copy=>
    simp only at h;rcases hx:kM tm args.toList with _|vs;simp[hx]at h;rcases vs with _ |⟨x,_ |⟨y,_ |⟨z,l⟩⟩⟩;simp[hx]at h;simp[hx]at h;obtain⟨ats⟩:=ats;rcases ats with _ |⟨t,ts⟩;simp[hx]at h;simp only[hx]at h;have e0:=uC (ha m (aM.refl _ _)) hx;simp only[aJ]at e0;have r1:eZ m s.nx x (aI m x):=fun m' dJ=>by have e1:=uC (ha m' dJ) hx;rw[e0]at e1;simp only[aJ]at e1;simp at e1;exact e1.1.symm
    have r2:eZ m s.nx y (aI m y):=fun m' dJ=>by have e1:=uC (ha m' dJ) hx;rw[e0]at e1;simp only[aJ]at e1;simp at e1;exact e1.2.symm
    obtain⟨aH,w₁,cv,g1,g2,g3⟩:=zas hT hf (ty:=type) (ts:=ts) r1 r2 h;refine⟨aH,w₁,cv,.value cv,?_,.inl rfl,g2,g3⟩;simp only[execOp,zK,resolve,zL,zJ,invoke,builtin,e0];rw[g1];rfl;simp[hx]at h
   |delete=>
    simp only at h;rcases hx:kM tm args.toList with _|vs;simp[hx]at h;rcases vs with _ |⟨x,_ |⟨y,_ |⟨z,l⟩⟩⟩;simp[hx]at h;simp[hx]at h;obtain⟨ats⟩:=ats;rcases ats with _ |⟨t,ts⟩;simp[hx]at h;simp only[hx]at h;have e0:=uC (ha m (aM.refl _ _)) hx;simp only[aJ]at e0;have r1:eZ m s.nx x (aI m x):=fun m' dJ=>by have e1:=uC (ha m' dJ) hx;rw[e0]at e1;simp only[aJ]at e1;simp at e1;exact e1.1.symm
    have r2:eZ m s.nx y (aI m y):=fun m' dJ=>by have e1:=uC (ha m' dJ) hx;rw[e0]at e1;simp only[aJ]at e1;simp at e1;exact e1.2.symm
    obtain⟨aH,w₁,cv,g1,g2,g3⟩:=Do hT hf (ty:=type) (ts:=ts) r1 r2 h;refine⟨aH,w₁,cv,.value cv,?_,.inl rfl,g2,g3⟩;simp only[execOp,zK,resolve,zL,zJ,invoke,builtin,e0];rw[g1];rfl;simp[hx]at h
   |clear=>
    simp only at h;rcases hx:kM tm args.toList with _|vs;simp[hx]at h;rcases vs with _ |⟨x,_ |⟨y,l⟩⟩;simp[hx]at h;obtain⟨ats⟩:=ats;rcases ats with _ |⟨t,ts⟩;simp[hx]at h;simp only[hx]at h;have e0:=uC (ha m (aM.refl _ _)) hx;simp only[aJ]at e0;have r1:eZ m s.nx x (aI m x):=fun m' dJ=>by have e1:=uC (ha m' dJ) hx;rw[e0]at e1;simp only[aJ]at e1;simp at e1;exact e1.symm
    obtain⟨aH,w₁,cv,g1,g2,g3⟩:=z6y hT hf (ty:=type) (ts:=ts) r1 h;refine⟨aH,w₁,cv,.value cv,?_,.inl rfl,g2,g3⟩;simp only[execOp,zK,resolve,zL,zJ,invoke,builtin,e0];rw[g1];rfl;simp[hx]at h
   |_=>simp at h
  |_=>simp at h
 |_=>simp at h
end
def Gb(P:Program)(call:GZ):Prop :=
 ∀f args s v bJ,call f args s=some (v,bJ)->∀m w bH,i4 m s w->nQ m s.nx args bH->
  Calls P f bH.toArray w fun e w₁=>∃aH cv,e=.returned cv/\bP m s w aH bJ w₁/\eZ aH bJ.nx v cv
section
variable{P:Program}{T:Tb}(hT:lF P T){call:GZ}(hC:Gb P call)
include hT
theorem qu5(ha:xR m n tm a)(o:Oper)(w:World){f:FuncId}{args:List Value}(h:callOf T tm o.op=some (f,args)):
  ∃bH,(execOp a.eval o).run P w=.ok (.enter f bH.toArray) w/\nQ m n args bH:=by
 obtain⟨dst,op,type,pos,after,guard⟩:=o;simp only at h;unfold callOf at h;cases op with
 |call c=>
  obtain⟨callee,a7,ats⟩:=c;simp only at h;cases callee with
  |value g=>
   simp only at h;rcases hg:evalO tm g with _|u;simp[hg]at h;cases u with
   |func fn first cap=>
    cases fn with
    |func k=>
     simp only[hg]at h;rcases hk:T.fn k with _|fn;simp[hk]at h;simp only[hk]at h;rcases hb:fn.body.isSome with _|_;simp[hb]at h;simp only[hb,zC]at h;rcases hl:kM tm a7.toList with _|vs;simp[hl]at h;simp only[hl,zA,zB]at h;obtain⟨rfl,rfl⟩:=h;obtain⟨M?,K8⟩:=hT.fn k fn hk;obtain⟨first⟩:=first
     obtain⟨cap⟩:=cap;have e0:=kW (ha m (aM.refl _ _)) hg;have e1:=uC (ha m (aM.refl _ _)) hl;refine⟨aJ m first++aJ m vs++aJ m cap,?_,fun m' dJ=>?_⟩;have r?:fn.body.isNone=false:=by cases hbb:fn.body<;>simp_all
     simp only[aI,iE]at e0;simp only[execOp,zK,resolve,e0,e1,Deferred.ofValue,zL,zJ,invoke,callFunc,run_program,M?,K8 hb,r?,Bool.false_eq_true,if_false];simp;have QR:=kW (ha m' dJ) hg;have QQ:=uC (ha m' dJ) hl;rw[e0]at QR;rw[e1]at QQ;simp only[aI,iE]at QR;simp at QR QQ;rw[yS,yS,QR.1,QR.2,QQ]
    |_=>simp[hg]at h
   |_=>simp[hg]at h
  |_=>simp at h
 |_=>simp at h
include hC
theorem TM{s:S}{w:World}(hf:i4 m s w)(ha:xR m s.nx tm a)(o:Oper){bJ:S}(h:AX T call tm s o.op=some (v,bJ))
  {next:Act->World->Prop} {Q:Exit->Act->World->Prop} (hn:∀aH w₁ cv,bP m s w aH bJ w₁->eZ aH bJ.nx v cv->next (a.put o.dst cv) w₁):o.wp P a w next Q:=by
 unfold AX at h;unfold Oper.wp;cases h1:iV T tm o.op with
 |some u=>simp only[h1,zA,zB]at h;obtain⟨rfl,rfl⟩:=h;have cW:=fun m' dJ=>zbi hT m' w (ha m' dJ) o h1;rw[cW m (aM.refl _ _)];refine hn m w _ (bP.refl hf) fun m' dJ=>?_;have e1:=cW m' dJ;rw[cW m (aM.refl _ _)]at e1;simp at e1;exact e1.symm
 |none=>
  simp only[h1]at h;cases h2:nR T tm s o.op with
  |some u=>simp only[h2,zA,zB]at h;obtain⟨rfl,rfl⟩:=h;have cW:=fun m' dJ=>ww hT m' w (hf m' dJ) (ha m' dJ) o h2;rw[cW m (aM.refl _ _)];refine hn m w _ (bP.refl hf) fun m' dJ=>?_;have e1:=cW m' dJ;rw[cW m (aM.refl _ _)]at e1;simp at e1;exact e1.symm
  |none=>
   simp only[h2]at h;cases h3:u6 T tm s o.op with
   |some r=>simp only[h3,zA]at h;subst h;obtain⟨aH,w₁,cv,nxt,g1,g2,g3,g4⟩:=Dm hT hf ha o h3;rw[g1];rcases g2 with rfl |⟨rfl,rfl⟩;exact hn aH w₁ cv g3 g4;exact hn aH w₁ undef g3 g4
   |none=>simp only[h3]at h;rcases h4:callOf T tm o.op with _|q;simp[h4]at h;obtain⟨f,args⟩:=q;simp only[h4]at h;obtain⟨bH,g1,g2⟩:=qu5 hT ha o w h4;rw[g1];show Calls P f _ w _;refine(hC f args s v bJ h m w bH hf g2).mono ?_;rintro e w₁ ⟨aH,cv,rfl,g3,g4⟩;exact hn aH w₁ cv g3 g4
omit hC hT in
theorem Pg{m:Nm}{tm:List Value}{a:Act}(ha:a.tmps=⟨aJ m tm⟩)(a9:Array Oper)(o:Oper):Region.wanted o (yielded a9 a.tmps)=Oa a9.toList tm o:=by
 unfold Region.wanted Oa;rcases o.guard with _|g;rfl;obtain⟨j,want⟩:=g;simp only[yielded,BM,iZ,ha];have hj:a9.toList[j]? = a9[j]?:=by simp
 rw[hj];rcases a9[j]? with _|q;simp;simp only[Option.bind_some];rcases hd:q.dst with _|d;simp;simp only[Option.bind_some,List.getElem?_toArray,mR,List.getElem?_map];rcases tm[d]? with _|v;simp;simp only[zM];cases v with
 |pointer p=>cases p<;>simp[aI]|slice p n c=>cases p<;>simp[aI]
 |map r=>cases r<;>simp[aI]|chan r=>cases r<;>simp[aI]
 |bool b=>simp[aI]|_=>simp[aI]
end
theorem MK{b c:Bool}(h:cond b c false=true):b=true/\c=true:=by cases b<;>simp_all
theorem z0h{l:List Operand}{t:Tmp}(h : .tmp t∈l):t∈tmpsOf l:=by
 induction l with|nil=>simp at h|cons x l ih=>rcases zI.1 h with rfl |h2;simp[tmpsOf];cases x<;>simp[tmpsOf,ih h2]
section
variable{T:Tb}{tm tm':List Value}{op:Op}
end
variable{k:Nat}
theorem z46{aX:List Nat}{es:List Edge}(h:(O7 aX es).testBit k=true):∃e∈es,Region.binds .any e=true/\(k=e.on\/∃x,aX[e.on]? = some x/\x.testBit k=true):=by
 induction es with
 |nil=>simp[O7]at h|cons e es ih=>
  simp only[O7,iZ]at h;cases hb:Region.binds .any e with
  |false=>simp only[hb,zD]at h;obtain⟨e',h1,h2⟩:=ih h;exact⟨e',by simp[h1],h2⟩
  |true=>simp only[hb,zC,Nat.testBit_or,Bool.or_eq_true]at h;rcases h with(h |h)|h;refine⟨e,by simp,hb,.inl ?_⟩;rw[Nat.testBit_two_pow]at h;simpa using(of_decide_eq_true h).symm;refine⟨e,by simp,hb,.inr ?_⟩;rcases hx:aX[e.on]? with _|x;simp[hx]at h;simp only[hx]at h;exact⟨x,rfl,h⟩;obtain⟨e',h1,h2⟩:=ih h;exact⟨e',by simp[h1],h2⟩
theorem jd:∀(l:List Oper)(aX:List Nat),(cO l aX).length=aX.length+l.length/\(cO l aX).take aX.length=aX/\
  ∀i o,l[i]? = some o->(cO l aX)[aX.length+i]? = some (O7 ((cO l aX).take (aX.length+i)) o.after.toList)
 |[],aX=>by simp[cO]
 |o::l,aX=>by
  obtain⟨h1,h2,h3⟩:=jd l (aX++[O7 aX o.after.toList]);simp only[cO];refine⟨by rw[h1];simp;omega,?_,fun i q hq=>?_⟩;have:=congrArg (List.take aX.length) h2;rw[List.take_take]at this;simpa using this;cases i with
  |zero=>
   simp only[List.getElem?_cons_zero,zA]at hq;subst hq;have e1:(cO l (aX++[O7 aX o.after.toList])).take aX.length=aX:=by have:=congrArg (List.take aX.length) h2;rw[List.take_take]at this;simpa using this
   rw[Nat.add_zero,e1];have:=congrArg (fun z=>z[aX.length]?) h2;simp only[List.getElem?_take]at this;simpa using this
  |succ i=>simp only[zH]at hq;have:=h3 i q hq;simp only[zU,zO,zS]at this;rw[show aX.length+(i+1)=aX.length+(0+1)+i by omega];exact this
section
variable(a9:List Oper)
def Pre(i k:Nat):Prop:=∃x,(cO a9 [])[i]? = some x/\x.testBit k=true
variable{i:Nat}
theorem ag(h:Pre a9 i k):∃o e,a9[i]? = some o/\e∈o.after.toList/\Region.binds .any e=true/\(k=e.on\/Pre a9 e.on k):=by
 obtain⟨x,h1,h2⟩:=h;obtain⟨g1,_,g3⟩:=jd a9 [];have hi:i<a9.length:=by have:=(zG.1 h1).1;simp at g1;omega
 have ho:a9[i]? = some a9[i]:=by simp[hi]
 have:=g3 i _ ho;simp only[zS,Nat.zero_add]at this;rw[h1]at this;simp only[zA]at this;rw[this]at h2;obtain⟨e,he,hb,hk⟩:=z46 h2;refine⟨_,e,ho,he,hb,?_⟩;rcases hk with hk |⟨y,hy,hyk⟩;exact .inl hk;refine .inr ⟨y,?_,hyk⟩;rw[List.getElem?_take]at hy;split at hy;exact hy;cases hy
theorem z7z{es:List Edge}(h:FG i es=true):∀e∈es,Region.binds .any e=true->e.on<i:=by
 induction es with
 |nil=>simp|cons e es ih=>
  simp only[FG]at h;intro e' NA cU;cases hb:Region.binds .any e with
  |false=>simp only[hb,zD]at h;rcases zI.1 NA with rfl |NA;rw[hb]at cU;cases cU;exact ih h e' NA cU
  |true=>simp only[hb,zC]at h;obtain⟨h1,h2⟩:=MK h;rcases zI.1 NA with rfl |NA;exact J8 h1;exact ih h2 e' NA cU
theorem qvv{lk:List Tmp}{di:Option Tmp}{i mi:Nat}:∀(l:List Oper)(ms:List Nat)(b:Nat),rowOk lk di i mi l ms b=true->∀j o,l[j]? = some o->∃mk,ms[j]? = some mk/\cz lk di i mi (b+j) mk o.dst=true
 |[],_,_,_=>fun j o h=>by simp at h
 |o::l,[],b,h=>by simp[rowOk]at h
 |o::l,mk::ms,b,h=>fun j q hq=>by
  simp only[rowOk]at h;obtain⟨h1,h2⟩:=MK h;cases j with
  |zero=>simp at hq;subst hq;exact⟨mk,rfl,h1⟩|succ j=>simp only[zH]at hq;obtain⟨mk',g1,g2⟩:=qvv l ms (b+1) h2 j q hq;exact⟨mk',by simpa using g1,by rw[show b+(j+1)=b+1+j by omega];exact g2⟩
theorem nj{ms:List Nat}:∀(l:List Oper)(mr:List Nat)(b:Nat),Li a9 ms l mr b=true->∀j o,l[j]? = some o->∃mi,mr[j]? = some mi/\FG (b+j) o.after.toList=true/\rowOk (OC a9 o) o.dst (b+j) mi a9 ms 0=true
 |[],_,_,_=>fun j o h=>by simp at h
 |o::l,[],b,h=>by simp[Li]at h
 |o::l,mi::mr,b,h=>fun j q hq=>by
  simp only[Li]at h;obtain⟨h1,h2⟩:=MK h;obtain⟨h2,h3⟩:=MK h2;cases j with
  |zero=>simp at hq;subst hq;exact⟨mi,rfl,h1,h2⟩|succ j=>simp only[zH]at hq;obtain⟨mi',g1,g2,g3⟩:=nj l mr (b+1) h3 j q hq;refine⟨mi',by simpa using g1,?_,?_⟩;rw[show b+(j+1)=b+1+j by omega];exact g2;rw[show b+(j+1)=b+1+j by omega];exact g3
variable{a9}(bY:MI a9=true)
include bY
theorem qo{o:Oper}(ho:a9[i]? = some o):∀e∈o.after.toList,Region.binds .any e=true->e.on<i:=by
 obtain⟨_,_,h2,_⟩:=nj a9 a9 _ 0 bY i o ho;rw[Nat.zero_add]at h2;exact z7z h2
theorem z5t{o q:Oper}(ho:a9[i]? = some o)(hq:a9[k]? = some q)(G5:i≠k){d:Tmp}(hd:q.dst=some d):o.dst≠some d/\(d∈OC a9 o->Pre a9 i k\/Pre a9 k i):=by
 obtain⟨mi,h1,_,h3⟩:=nj a9 a9 _ 0 bY i o ho;obtain⟨mk,h4,h5⟩:=qvv a9 _ 0 h3 k q hq;simp only[Nat.zero_add,cz,hd,beq_eq,G5,yB,zD]at h5;have tail:(cond ((OC a9 o).any (Nat.beq d)) (cond (mi.testBit k) true (mk.testBit i)) true=true)->d∈OC a9 o->Pre a9 i k\/Pre a9 k i:=fun h6 hl=>by have hany:(OC a9 o).any (Nat.beq d)=true:=List.any_eq_true.2 ⟨d,hl,by simp⟩;rw[hany]at h6;simp only[zC]at h6;rcases hb:mi.testBit k with _|_;simp only[hb,zD]at h6;exact .inr ⟨mk,h4,h6⟩;exact .inl ⟨mi,h1,hb⟩
 cases hod:o.dst with|none=>simp only[hod,zD]at h5;exact⟨by simp,tail h5⟩|some d'=>simp only[hod]at h5;by_cases e:d=d';simp[e]at h5;simp only[e,yB,zD]at h5;exact⟨by simpa using fun x=>e x.symm,tail h5⟩
theorem z9w:∀(i k:Nat),Pre a9 i k->k<i:=by
 intro i;induction i using Nat.strongRecOn with
 |_ i ih=>intro k h;obtain⟨o,e,h1,h2,h3,h4⟩:=ag a9 h;have aE:=qo bY h1 e h2 h3;rcases h4 with rfl |h4;exact aE;exact Nat.lt_trans (ih e.on aE k h4) aE
def Closed(a9:List Oper)(L:Nat->Prop):Prop:=∀i o,L i->a9[i]? = some o->∀e∈o.after.toList,Region.binds .any e=true->L e.on
theorem Hg{L:Nat->Prop}(hL:Closed a9 L):∀(i k:Nat),L i->Pre a9 i k->L k:=by
 intro i;induction i using Nat.strongRecOn with
 |_ i ih=>intro k hi h;obtain⟨o,e,h1,h2,h3,h4⟩:=ag a9 h;have aE:=qo bY h1 e h2 h3;have he:=hL i o hi h1 e h2 h3;rcases h4 with rfl |h4;exact he;exact ih e.on aE k he h4
theorem SM{L:Nat->Prop}(hL:Closed a9 L)(hi:∀o,a9[i]? = some o->∀e∈o.after.toList,Region.binds .any e=true->L e.on)(h:Pre a9 i k):L k:=by
 obtain⟨o,e,h1,h2,h3,h4⟩:=ag a9 h;have he:=hi o h1 e h2 h3;rcases h4 with rfl |h4;exact he;exact Hg bY hL e.on k he h4
end
section
variable{P:Program}{T:Tb}(hT:lF P T){call:GZ}(hC:Gb P call)(a9:Array Oper){tm₀:List Value}{F':S}{rs:List Rec}{tm':List Value}{s':S}
 (fV:za8 T call a9.toList a9.toList tm₀ F'=some (rs,tm',s')) (bY:MI a9.toList=true) (hrs:za0 T rs (cO a9.toList []) rs (cO a9.toList []) 0=true)
include fV bY
include hT hC hrs
end
section
variable{P:Program}{T:Tb}(hT:lF P T){call:GZ}(hC:Gb P call)
include hT hC
end
theorem ed(n:Nat)(l:List Value):pad n l=l++List.replicate (n-l.length) undef:=by
 induction n generalizing l with|zero=>simp[pad]|succ n ih=>rcases l with _|⟨v,l⟩;simp[pad,ih,List.replicate_succ];simp[pad,ih]
section
variable{P:Program}{T:Tb}(hT:lF P T)
include hT
theorem ct{m:Nm}{s:S}{w:World}(hf:Fits m s w){tm:List Value}(F:ResultVar->Sem Value)(Xd:∀t,F (.tmp t)=pure ((⟨aJ m tm⟩:Array Value).getD t undef))
  (Xc:∀a t,F (.cell a t)=(do loadVar t (<-asAddr ((⟨aJ m tm⟩:Array Value).getD a undef)))):∀(rs:List ResultVar)(vs:List Value),GK T tm s rs=some vs->(rs.mapM F).run P w=.ok (aJ m vs) w
 |[],vs,h=>by simp[GK]at h;subst h;simp[aJ]
 |.tmp t::rs,vs,h=>by
  simp only[GK,iZ]at h;rcases ht:tm[t]? with _|v;simp[ht]at h;simp only[ht]at h;rcases hr:GK T tm s rs with _|l;simp[hr]at h;simp only[hr,zA]at h;subst h;have ih:=ct hf F Xd Xc rs l hr;have e1:(⟨aJ m tm⟩:Array Value).getD t undef=aI m v:=by simp[mR,ht]
  simp only[List.mapM_cons,zK,Xd,zL,zJ,ih,e1,aJ]
 |.cell a t::rs,vs,h=>by
  simp only[GK]at h;rcases ht:nR T tm s (.load t (.tmp a))with _|v;simp[ht]at h;simp only[ht]at h;rcases hr:GK T tm s rs with _|l;simp[hr]at h;simp only[hr,zA]at h;subst h;have ih:=ct hf F Xd Xc rs l hr;simp only[nR,evalO]at ht;rcases Az:nth tm a with _|u;simp[Az]at ht;cases u with
  |pointer p=>
   rcases p with _|q;simp[Az]at ht;simp only[Az]at ht;rcases hl:lk s.h q.block with _|blk;simp[hl]at ht;rcases blk with⟨l',e,md⟩|x;simp only[hl]at ht;have Vt:=Oh hT m w hf hl ht;rw[iZ]at Az;have e1:(⟨aJ m tm⟩:Array Value).getD a undef=.pointer (some ⟨m.blk q.block,m.sh q.block+q.off,none⟩):=by simp[mR,Az,aI]
   simp only[List.mapM_cons,zK,Xc,e1,asAddr,zL,zJ,Vt,ih,aJ];simp[hl]at ht
  |_=>simp[Az]at ht
theorem nq{m:Nm}{s:S}{w:World}(hf:Fits m s w){tm:List Value}{fn:Func}{vs:List Value}(h:GK T tm s fn.results.toList=some vs):
  (results fn ⟨aJ m tm⟩).run P w=.ok (aI m (xN vs)) w:=by
 unfold results;rw[zK,Array.mapM_eq_mapM_toList,Sem.run_map,ct hT hf _ (fun t=>rfl) (fun a t=>rfl) fn.results.toList vs h];simp only[zJ,zL];congr 1;rcases vs with _ |⟨v,_ |⟨u,l⟩⟩;simp[aJ,xN,aI];simp[aJ,xN];simp[aJ,xN,aI]
end
theorem ap(P:Program)(t:TypeId):P.info? t=P.types[t]? \/P.types[t]? = none:=by
 by_cases h:t<P.types.size;exact .inl (by unfold Tables.info?;rw[if_pos h]);exact .inr (Array.getElem?_eq_none (Nat.le_of_not_lt h))
theorem zbw (P : Program) (eqs : List TypeId) (hm : P.follows .mixedOrders = true) (hn : ∀ f ∈ P.funcs.toList, f.body.isSome = true → (f.name == "runtime.NumGoroutine") = false)
  (he:∀t∈eqs,P.stoodInHeld t=false/\P.eqGuardType P.depth t=false):lF P (EC P eqs) where
 und t d h:=by
  simp only[EC,iZ]at h;rcases ht:P.types.toList[t]? with _|i;simp[ht]at h;have hi:P.info? t=some i:=by
   have v4:P.types[t]? = some i:=by simpa using ht
   rcases ap P t with h1 |h1;rw[h1,v4];rw[h1]at v4;cases v4
  simp only[ht]at h;unfold Program.underlying;rw[hi];obtain⟨desc,s1,s2,s3,s4,s5,s6,s7,s8,s9⟩:=i;cases desc with
  |named nm u=>
   simp only at h ⊢;rcases hu:P.types.toList[u]? with _|j;simp[hu]at h;have hj:P.info? u=some j:=by
    have B4:P.types[u]? = some j:=by simpa using hu
    rcases ap P u with h1 |h1;rw[h1,B4];rw[h1]at B4;cases B4
   simp only[hu,zA]at h;rw[hj];simp[h]
  |_=>simpa using h
 inf t a b z h:=by
  simp only[EC,iZ]at h;rcases ht:P.types.toList[t]? with _|i;simp[ht]at h;have hi:P.info? t=some i:=by
   have v4:P.types[t]? = some i:=by simpa using ht
   rcases ap P t with h1 |h1;rw[h1,v4];rw[h1]at v4;cases v4
  simp only[ht]at h;rcases hz:i.zero with _|z';simp[hz]at h;simp only[hz]at h;rcases hp:plain z' with _|_;simp[hp]at h;simp only[hp,zC,zA,zB]at h;obtain⟨rfl,rfl,rfl⟩:=h;exact⟨hp,i,hi,rfl,rfl,hz⟩
 fn f g h:=by
  simp only[EC,iZ]at h;have h':P.funcs[f]? = some g:=by simpa using h
  exact⟨h',hn g (zX h)⟩
 eqs t h:=by
  simp only[EC]at h;obtain⟨u,hu,e⟩:=List.any_eq_true.1 h;have:t=u:=by simpa[beq_eq]using e
  subst this;exact he t hu
 mixed:=hm
end Go.Rx
