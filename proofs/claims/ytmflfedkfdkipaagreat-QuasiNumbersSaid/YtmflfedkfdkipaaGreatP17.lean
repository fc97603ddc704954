import Derived.Test.YtmflfedkfdkipaaGreatP16
set_option linter.all false
namespace Go.Proofs
open Go Go.Rx Go.Vx Tryz
set_option maxRecDepth 20000
set_option maxHeartbeats 4000000
set_option synthInstance.maxSize 4000
set_option synthInstance.maxHeartbeats 200000
def tX{α β:Type}(f:α->Option β):List α->Option (List β)
 |[]=>some []|a::l=>a8 (f a) fun b=>a8 (tX f l) fun bs=>some (b::bs)
theorem VH{α β:Type}{f:α->Option β}:∀{l:List α}{bs:List β},tX f l=some bs->bs.length=l.length/\∀(i:Nat)(a:α),l[i]? = some a->∃b,bs[i]? = some b/\f a=some b
 |[],bs,h=>by obtain rfl:=sI h;exact⟨rfl,fun i a h=>by simp at h⟩
 |a::l,bs,h=>by
  obtain⟨b,hb,h⟩:=aB h;obtain⟨bs',hbs,h⟩:=aB h;obtain rfl:=sI h;obtain⟨h1,h2⟩:=VH hbs;refine⟨by simp[h1],fun i c hc=>?_⟩;cases i with
  |zero=>simp at hc;subst hc;exact⟨b,rfl,hb⟩|succ i=>simp at hc;obtain⟨d,h3,h4⟩:=h2 i c hc;exact⟨d,by simpa using h3,h4⟩
def Bn(n0 len:Nat)(a:bE):Option eE:=cond (decide (0<=a.To/\a.To<(len:Int))) (some ⟨a.Feat,n0+a.To.toNat⟩) none
variable{n0:Nat}
variable{len:Nat}
theorem Qd{a:bE}{b:eE}(h:Bn n0 len a=some b):0<=a.To/\a.To<(len:Int)/\b=⟨a.Feat,n0+a.To.toNat⟩:=by
 unfold Bn at h;rcases hd:decide (0<=a.To/\a.To<(len:Int))with _|_;rw[hd]at h;cases h;rw[hd]at h;have:=of_decide_eq_true hd;exact⟨this.1,this.2,(sI h).symm⟩
def GG(n0 len:Nat)(x:bS):Option PN:=aH (x.Arcs.length<=1000000) (a8 (tX (Bn n0 len) x.Arcs) fun l=>some (fC x.Typex l))
def tC(P:PP)(f:GFS):Option (Int×PP):=
 aH (0<f.Nodes.length/\f.Nodes.length<=1000000/\P.roots.length<=1000000) (a8 (tX (GG P.N.length f.Nodes.length) f.Nodes) fun L=>some ((P.roots.length:Int),{ P with N:=P.N++L,size:=IntKind.i64.wrap (P.size+f.Nodes.length),roots:=P.roots++[P.N.length] }))
def AO(x:PN):PN:=fC x.kind []
def nU(N L:List PN)(t:Nat):List PN:=N++(L.take t++(L.drop t).map AO)
theorem uu(N L:List PN)(t:Nat):(nU N L t).length=N.length+L.length:=by
 simp[nU];omega
variable{N:List PN}
variable{t:Nat}
theorem ux{L:List PN}{x:PN}(h:L[t]? = some x):(nU N L t)[N.length+t]? = some (AO x):=by
 have ht:=(zG.1 h).1;unfold nU;rw[List.getElem?_append_right (by omega),show N.length+t-N.length=t by omega,List.getElem?_append_right (by simp;omega)];simp;rw[Nat.min_eq_left (by omega),Nat.sub_self,Nat.add_zero];exact⟨x,h,rfl⟩
theorem ut{L:List PN}{x:PN}(h:L[t]? = some x):(nU N L t).set (N.length+t) x=nU N L (t+1):=by
 have ht:=(zG.1 h).1;have e:L.drop t=x::L.drop (t+1):=by rw[List.drop_eq_getElem_cons ht];rw[List.getElem?_eq_getElem ht]at h;cases h;rfl
 unfold nU;rw[List.set_append_right _ _ (by omega),show N.length+t-N.length=t by omega,List.set_append_right _ _ (by simp;omega),e];congr 1;simp only[List.length_take,Nat.min_eq_left (Nat.le_of_lt ht),Nat.sub_self,zQ,List.set_cons_zero];rw[List.take_add_one,h];simp
def iQ(nm:Nat->Nat)(o:Option Nat):List U:=[po nm o]
def gU(n0 len t:Nat):List (Option Nat):=(List.range len).map fun i=>if i<t then some (n0+i)else none
theorem FS{i:Nat}(h:i<len):(gU n0 len t)[i]? = some (if i<t then some (n0+i)else none):=by
 simp[gU,h]
theorem uy(h:t<len):(gU n0 len t).set t (some (n0+t))=gU n0 len (t+1):=by
 apply List.ext_getElem?;intro i;rw[List.getElem?_set];by_cases e:t=i;subst e;rw[if_pos rfl,if_pos (by simp[gU,h]),FS h,if_pos (zN _)];rw[if_neg e];by_cases hi:i<len;rw[FS hi,FS hi];by_cases h2:i<t;rw[if_pos h2,if_pos (by omega)];rw[if_neg h2,if_neg (by omega)];rw[List.getElem?_eq_none (by simp[gU];omega),List.getElem?_eq_none (by simp[gU];omega)]
theorem ee(n0 len:Nat):gU n0 len 0=List.replicate len none:=by
 apply List.ext_getElem?;intro i;by_cases hi:i<len;rw[FS hi];simp[hi];rw[List.getElem?_eq_none (by simp[gU];omega),List.getElem?_eq_none (by simp;omega)]
section
variable{kp kr st:Nat}{nm:Nat->Nat}{P:PP}{h:List (Nat×B)}{nx:Nat}
theorem kI.more{nm1:Nat->Nat}{N:List PN}{s:Int}{c:Nat}{H:List (Nat×B)}{M:Nat}(m:kI kp kr st nm P h nx nm1 N s c H M)(hw:jA ⟨H,M⟩)(b:B):kI kp kr st nm P h nx nm1 N s c ((M,b)::H) (M+1):=
 ⟨m.ph.more fun k c hc=>by rw[fY (hw k c hc).1];exact hc,m.nmE,m.new,fun k k1 k2 k3=>by rw[fY (Nat.lt_of_lt_of_le k1 m.le)];exact m.fr k k1 k2 k3,Nat.le_succ_of_le m.le,m.len,m.cl⟩
theorem kI.add{nm1:Nat->Nat}{N:List PN}{s:Int}{c:Nat}{H:List (Nat×B)}{M:Nat}(m:kI kp kr st nm P h nx nm1 N s c H M)(hw:jA ⟨H,M⟩)(hc:c<=N.length)(k:Int):kI kp kr st nm P h nx (nG nm1 N.length M) (N++[fC k []]) s c ((M,.row (lE (nG nm1 N.length M) (fC k []) .nils) 103)::H) (M+1):=by
 refine⟨m.ph.add hw hc k (by simp[aK]) (fun k b hb=>by rw[fY (hw k b hb).1];exact hb),fun k hk=>by rw[o4 k (Nat.lt_of_lt_of_le hk m.len)];exact m.nmE k hk,fun k ha hb=>?_,fun k k1 k2 k3=>by rw[fY (Nat.lt_of_lt_of_le k1 m.le)];exact m.fr k k1 k2 k3,Nat.le_succ_of_le m.le,by simp;exact Nat.le_succ_of_le m.len,m.cl⟩;rw[zU]at hb;rcases Nat.lt_or_ge k N.length with h9 |h9;rw[o4 k h9];exact m.new k ha h9;have:k=N.length:=by simp at hb;omega
 subst this;rw[KN];exact m.le
theorem kI.oth{nm1:Nat->Nat}{s:Int}{c:Nat}{H:List (Nat×B)}{M K:Nat}{q:List U}(m:kI kp kr st nm P h nx nm1 N s c H M)(hK:nx<=K)(hg:gt H K=some (.row q 92))(b:B):kI kp kr st nm P h nx nm1 N s c (ug H K b) M:=by
 have hne:∀k b',gt H k=some b'->(∀q,b'≠.row q 92)->gt (ug H K b) k=some b':=fun k b' hk hn=>by rw[bL,if_neg fun e=>?_];exact hk;rw[<-e,hg]at hk;exact hn q (Option.some.inj hk).symm
 refine⟨⟨hne _ _ m.ph.pool (by simp),hne _ _ m.ph.roots (by simp),fun i x hx hi=>hne _ _ (m.ph.node i x hx hi) (by simp),fun i x hx hi=>⟨hne _ _ (m.ph.pend i x hx hi).1 (by simp),(m.ph.pend i x hx hi).2⟩,m.ph.inj,m.ph.wf,m.ph.rt⟩,m.nmE,m.new,fun k k1 k2 k3=>?_,m.le,m.len,m.cl⟩;rw[bL,if_neg (by omega)];exact m.fr k k1 k2 k3
theorem tx{nm':Nat->Nat}{n:Nat}(hn:∀k,k<n->nm' k=nm k)(ht:n0+t<=n):(gU n0 len t).map (iQ nm')=(gU n0 len t).map (iQ nm):=by
 refine List.map_congr_left fun o ho=>?_;simp only[gU,List.mem_map]at ho;obtain⟨i,_,rfl⟩:=ho;by_cases hi:i<t;rw[if_pos hi];simp only[iQ,po,pt,hn (n0+i) (by omega)];rw[if_neg hi];rfl
theorem LP(p:PH kp kr st nm P h){f:GFS}{r:Int×PP}(J:tC P f=some r):
  aO prog 18 [.ptr kp 0 0,.agg (fV f)] ⟨h,nx⟩ (fun u σ'=>u=.i6 r.1/\σ'=⟨cH kp kr (st+1) (gH nm P.N.length nx) r.2 h,nx+(r.2.N.length-P.N.length)⟩):=by
 refine aO.wf fun oU _=>?_;obtain⟨⟨sK,C4,GX⟩,J⟩:=bU J;obtain⟨L,hL,J⟩:=aB J;obtain rfl:=sI J;obtain⟨hLl,hLg⟩:=VH hL
 haveI:SuC nx (nx+1):=⟨rfl⟩
 haveI:SuC (nx+1) (nx+2):=⟨rfl⟩
 refine dF 99 yJ ?_;refine goN ?_;refine RS.w rfl (Mb (c:=iQ nm) (none:Option Nat) rfl rfl eB.h eU.h rfl rfl rfl rfl ⟨by omega,by omega,by omega⟩) ?_;change RU _ _ _ _ _ (Sg.mk ((nx+1,.row ((List.replicate f.Nodes.length (none:Option Nat)).map (iQ nm)).flatten 92)::(nx,.row (fV f) 39)::h) (nx+2)) _
 haveI:Nq (nx+1) nx:=⟨by rw[beq_eq];simp⟩
 refine goN ?_;have hPN:P.N++(L.take 0).map AO=P.N:=by simp
 have c0:kI kp kr st nm P h nx nm (P.N++(L.take 0).map AO) P.size P.N.length ((nx+1,.row ((gU P.N.length f.Nodes.length 0).map (iQ nm)).flatten 92)::(nx,.row (fV f) 39)::h) (nx+2):=by rw[hPN];refine⟨p.pq.more fun k b hb=>?_,fun _ _=>rfl,fun k a b=>by omega,fun k k1 _ _=>?_,by omega,zF _,zF _⟩;have:k<nx:=(oU k b hb).1;rw[aK,if_neg (by omega),aK,if_neg (by omega)];exact hb;rw[aK,if_neg (by omega),aK,if_neg (by omega)]
 refine WPU.eqv rfl (σ':=⟨(nx+1,.row ((gU P.N.length f.Nodes.length 0).map (iQ nm)).flatten 92)::(nx,.row (fV f) 39)::h,nx+2⟩) (by rw[ee]) ?_;refine gL (fun m tm σ=>∃(t:Nat)(nm1:Nat->Nat)(H:List (Nat×B))(M:Nat),m=f.Nodes.length-t/\t<=f.Nodes.length/\tm=fr 99 [(0,.ptr kp 0 0),(3,.ptr nx 0 0),(5,.sl (nx+1) 0 f.Nodes.length f.Nodes.length),(17,.iM bM f.Nodes),(18,.i6 f.Nodes.length),(19,.i6 t)]/\σ=⟨H,M⟩/\kI kp kr st nm P h nx nm1 (P.N++(L.take t).map AO) P.size P.N.length H M/\gt H (nx+1)=some (.row ((gU P.N.length f.Nodes.length t).map (iQ nm1)).flatten 92)/\gt H nx=some (.row (fV f) 39)/\nx+1<M)
  (fun tm σ=>∃(nm1:Nat->Nat)(H:List (Nat×B))(M:Nat),tm=fr 99 [(0,.ptr kp 0 0),(3,.ptr nx 0 0),(5,.sl (nx+1) 0 f.Nodes.length f.Nodes.length)]/\σ=⟨H,M⟩/\kI kp kr st nm P h nx nm1 (nU P.N L 0) P.size P.N.length H M/\gt H (nx+1)=some (.row ((gU P.N.length f.Nodes.length f.Nodes.length).map (iQ nm1)).flatten 92)/\gt H nx=some (.row (fV f) 39)/\nx+1<M) f.Nodes.length
  ⟨0,nm,_,nx+2,rfl,Nat.zero_le _,rfl,rfl,c0,by rw[aK,if_pos rfl],by rw[aK,if_neg (by omega),aK,if_pos rfl],zN _⟩ ?_ ?_ (by show nx<=nx+2;omega)
 ·rintro _ _ ⟨nm1,H,M,rfl,rfl,hm,hgl,hgx,hM⟩
  haveI:dK H nx (.row [.iM bM f.Nodes] 39):=⟨hgx⟩
  refine goN ?_;refine gL (fun m tm σ=>∃(t:Nat)(H:List (Nat×B))(M:Nat),m=f.Nodes.length-t/\t<=f.Nodes.length/\tm=fr 99 [(0,.ptr kp 0 0),(5,.sl (nx+1) 0 f.Nodes.length f.Nodes.length),(33,.iM bM f.Nodes),(34,.i6 f.Nodes.length),(35,.i6 t)]/\σ=⟨H,M⟩/\kI kp kr st nm P h nx nm1 (nU P.N L t) P.size (P.N.length+t) H M/\gt H (nx+1)=some (.row ((gU P.N.length f.Nodes.length f.Nodes.length).map (iQ nm1)).flatten 92)/\nx+1<M)
   (fun tm σ=>∃(H:List (Nat×B))(M:Nat),tm=fr 99 [(0,.ptr kp 0 0),(5,.sl (nx+1) 0 f.Nodes.length f.Nodes.length)]/\σ=⟨H,M⟩/\kI kp kr st nm P h nx nm1 (P.N++L) P.size (P.N.length+L.length) H M/\gt H (nx+1)=some (.row ((gU P.N.length f.Nodes.length f.Nodes.length).map (iQ nm1)).flatten 92)/\nx+1<M) f.Nodes.length
   ⟨0,H,M,rfl,Nat.zero_le _,rfl,rfl,hm,hgl,hM⟩ ?_ ?_ hm.le
  rintro _ _ ⟨H,M,rfl,rfl,hm,hgl,hM⟩;refine WPU.wf fun dZ _=>?_;have hlv:live (Sg.mk H M) (nx+1) 0=true:=by simp[live,hgl,B.st]
  have hph:=hm.ph.ph (Nat.le_of_eq (by simp))
  haveI:=hph.gp
  haveI:SuC M (M+1):=⟨rfl⟩
  refine goN ?_;refine RS.w rfl (B6 rfl rfl rfl (Vo eB.h hlv)) ?_;refine goN ?_
  let sz:Int:=IntKind.i64.wrap (P.size+(f.Nodes.length:Nat))
  let P2:PP:={ P with N:=P.N++L,size:=sz }
  let H2:List (Nat×B):=ug H kp (.row (lR kr st P2) 83)
  have kW:PH kp kr st nm1 P2 H2:=hph.setP sz P.gen (by simp only[H2];rw[bL,if_pos rfl,hph.pool];rfl) fun k b hb hk=>by simp only[H2];rw[bL,if_neg (Ne.symm hk)];exact hb
  have hkp:kp<M:=(dZ _ _ hph.pool).1;have hkr:kr<M:=(dZ _ _ hph.roots).1;have hlx:kp≠nx+1:=fun e=>by have:=hph.pool;rw[e,hgl]at this;simp at this
  have hlr:kr≠nx+1:=fun e=>by have:=hph.roots;rw[e,hgl]at this;cases this
  have oW:gt H2 (nx+1)=some (.row ((gU P.N.length f.Nodes.length f.Nodes.length).map (iQ nm1)).flatten 92):=by simp only[H2];rw[bL,if_neg hlx];exact hgl
  have NG:live (Sg.mk H2 M) (nx+1) 0=true:=by simp[live,oW,B.st]
  have hidV:jM (gU P.N.length f.Nodes.length f.Nodes.length) 0 f.Nodes.length 0=some (some P.N.length):=by rw[jM,if_pos ⟨by omega,by omega⟩];simp only[Int.toNat_zero,Nat.zero_add];rw[FS sK,if_pos sK];simp
  change WPU _ _ _ _ (Sg.mk H2 M) _
  haveI:=kW.gp
  haveI:Nq M kp:=⟨by rw[beq_eq];simp;omega⟩
  haveI:Nq M kr:=⟨by rw[beq_eq];simp;omega⟩
  refine dE [(0,8),(0,9),(1,8),(2,8),(3,8),(4,8)] ?_;refine c8 ?_;refine bB rfl (eJ rfl rfl (wI (σ:=⟨H2,M⟩) eB.h (bQ eU.h) NG hidV)) (bB (u:=pt nm1 P.N.length) rfl (FK (σ:=⟨H2,M⟩) (iQ nm1) (po nm1) eA.h rfl (fun _=>rfl) rfl oW hidV) ?_);refine c8 ?_;refine dT ?_;have nN:gt ((M,.row [pt nm1 P.N.length] 92)::H2) kr=some (.vec (P.roots.map (cD nm1)).flatten 92 1 st):=by rw[aK,if_neg (by omega)];exact kW.roots
  have hro:rowOf (Sg.mk ((M,.row [pt nm1 P.N.length] 92)::H2) (M+1)) M=some [pt nm1 P.N.length]:=by simp[rowOf,aK]
  refine RD.act rfl (m8 rfl rfl rfl rfl (tK (cD nm1) [P.N.length] eB.h eB.h eU.h rfl (fun _=>rfl) nN (vA (cD nm1) [P.N.length] (q:=[pt nm1 P.N.length]) hro rfl rfl rfl) ⟨by show(P.roots.length+1)*_<=_;omega,by show P.roots.length+1<=_;omega⟩)) rfl rfl ?_;have hgp:dK (ug ((M,.row [pt nm1 P.N.length] 92)::H2) kr (.vec (List.map (cD nm1) (P.roots++[P.N.length])).flatten 92 1 (st+1))) kp (.row [.iM iK P2.H.Types,.iM kS P2.H.Feats,.vl kr st 0 P2.roots.length,.i6 P2.size,.i6 P2.gen] 83):=⟨by rw[bL,if_neg kW.krp,aK,if_neg (by omega)];exact kW.pool⟩
  haveI:=hgp
  refine c8 ?_;refine pI ?_;refine aZ ⟨by kernel_rfl,⟨opm,opm,opm,opm,opm,opm,trivial⟩,?_⟩
  let V:B:=.vec (List.map (cD nm1) (P.roots++[P.N.length])).flatten 92 1 (st+1)
  let P3:PP:={ P with N:=P.N++L,size:=sz,roots:=P.roots++[P.N.length] }
  let T:List (Nat×B):=(M,.row [pt nm1 P.N.length] 92)::H2
  let T2:List (Nat×B):=ug (ug T kr V) kp (.row (lR kr (st+1) P3) 83)
  have hT:∀k,k≠kp->k≠kr->k<M->gt T2 k=gt H k:=fun k k1 k2 k3=>by simp only[T2,T,H2];rw[bL,if_neg (Ne.symm k1),bL,if_neg (Ne.symm k2),aK,if_neg (by omega),bL,if_neg (Ne.symm k1)]
  have p5:PH kp kr (st+1) nm1 P3 T2:=by refine⟨?_,?_,fun i x hx=>?_,kW.inj,kW.wf,fun r hr=>?_⟩;simp only[T2];rw[bL,if_pos rfl,hgp.h];rfl;simp only[T2];rw[bL,if_neg (Ne.symm kW.krp),bL,if_pos rfl];simp only[T];rw[nN];rfl;have hi:=wP hx;rw[hT _ (hph.kpn hi) (hph.krn hi) (hph.lt dZ hi)];exact hph.node i x hx;rcases yD.1 hr with hr |hr;exact kW.rt r hr;simp at hr;subst hr;show P.N.length<(P.N++L).length;simp;omega
  change WPU _ _ _ _ (Sg.mk T2 (M+1)) _
  haveI:=p5.gp
  haveI:=p5.gr
  refine goN ?_;have hwr:IntKind.i64.wrap (((P.roots++[P.N.length]).length:Int)-1)=P.roots.length:=by rw[zU,kR (by simp) (by simp;omega)];simp
  refine Bp rfl rfl rfl (Nat.le_add_right _ _) (canon (P1:=P3) (nm1:=nm1) (tm':=[.i6 P.roots.length]) p oU p5 (by show P.N.length<=(P.N++L).length;simp) hm.nmE hm.new (fun k k1 k2 k3 k4=>?_) ?_ (by simp[aE,aJ])) ⟨rfl,rfl⟩;have ny:k<nx:=k1;rw[hT k k2 k3 (by have:=hm.le;omega)];exact hm.fr k k1 k2 k4;simp only[dC,rU];rw[<-hwr];rintro _ _ _ ⟨t,H,M,rfl,ht,rfl,rfl,hm,hgl,hM⟩;refine WPU.wf fun dZ _=>?_
  haveI:SuC M (M+1):=⟨rfl⟩
  refine goN ?_;refine cU rfl (fun h7=>?_) (fun h7=>?_)
  ·have htl:t<f.Nodes.length:=by simpa using h7
   obtain⟨x,hx⟩:∃a,f.Nodes[t]? = some a:=⟨_,List.getElem?_eq_getElem htl⟩;obtain⟨y,hy,hxy⟩:=hLg t x hx;obtain⟨hal,hxy⟩:=bU hxy;obtain⟨l2,Sz,hxy⟩:=aB hxy;obtain⟨hl2l,hl2g⟩:=VH Sz;have hid:aC f.Nodes (t:Int)=some x:=by rw[aC,if_pos ⟨by omega,by omega⟩];simpa using hx
   have hwr:IntKind.i64.wrap ((t:Int)+1)=((t+1:Nat):Int):=by rw[kR (by omega) (by omega)];rfl
   refine goN ?_;apply aL;refine goN ?_;refine aP hid ?_;refine goN ?_;obtain rfl:=sI hxy
   let q:=P.N.length+t
   have hq:(nU P.N L t)[q]? = some (fC x.Typex []):=ux hy;have hqN:q<(nU P.N L t).length:=wP hq;obtain⟨hyn,_⟩:=hm.ph.pend q _ hq (zF _);have hyn:gt H (nm1 q)=some (.row (lE nm1 (fC x.Typex []) .nils) 103):=hyn;have hqM:nm1 q<M:=(dZ _ _ hyn).1;have hkp:kp<M:=(dZ _ _ hm.ph.pool).1;have hqk:nm1 q≠kp:=hm.ph.kpn hqN;have hqx:nm1 q≠nx+1:=fun e=>by rw[e,hgl]at hyn;simp at hyn
   have YZ:gt ((M,.row (bM x) 79)::H) (nm1 q)=some (.row (lE nm1 (fC x.Typex []) .nils) 103):=by rw[aK,if_neg (by omega)];exact hyn
   refine cR (vP (σ:=⟨(M,.row (bM x) 79)::H,M+1⟩) (nm1 q) 1 107 2 (by decide) (Nat.le_succ_of_le hm.le) YZ rfl) (Nat.le_succ_of_le (Nat.le_succ_of_le hm.le)) ?_;refine gL (fun m tm σ=>∃(j:Nat)(s:Nat)(H':List (Nat×B))(M':Nat),m=x.Arcs.length-j/\j<=x.Arcs.length/\tm=fr 99 [(0,.ptr kp 0 0),(5,.sl (nx+1) 0 f.Nodes.length f.Nodes.length),(8,.i6 t),(33,.iM bM f.Nodes),(34,.i6 f.Nodes.length),(35,.i6 t),(41,.iM c6 x.Arcs),(42,.i6 x.Arcs.length),(43,.i6 j)]/\σ=⟨H',M'⟩/\M+1<M'/\gt H' (M+1)=some (.bv (bH nm1) (l2.take j) 107 2 s)/\gt H' (nm1 q)=some (.row (lE nm1 (fC x.Typex []) (.vl (M+1) s 0 (l2.take j).length)) 103)/\∀k,k<M->k≠nm1 q->gt H' k=gt H k)
    (fun tm σ=>∃(s:Nat)(H':List (Nat×B))(M':Nat),tm=fr 99 [(0,.ptr kp 0 0),(5,.sl (nx+1) 0 f.Nodes.length f.Nodes.length),(33,.iM bM f.Nodes),(34,.i6 f.Nodes.length),(35,.i6 t)]/\σ=⟨H',M'⟩/\M+1<M'/\gt H' (M+1)=some (.bv (bH nm1) l2 107 2 s)/\gt H' (nm1 q)=some (.row (lE nm1 (fC x.Typex []) (.vl (M+1) s 0 l2.length)) 103)/\∀k,k<M->k≠nm1 q->gt H' k=gt H k) x.Arcs.length
    ⟨0,0,_,M+2,rfl,Nat.zero_le _,rfl,rfl,zN _,by rw[bL,if_neg (by omega)];simp[newU,aK],by rw[bL,if_pos rfl];simp only[newU];rw[aK,if_neg (by omega),YZ];rfl,fun k hk m4=>by rw[bL,if_neg (Ne.symm m4)];simp only[newU];rw[aK,if_neg (by omega),aK,if_neg (by omega)]⟩ ?_ ?_ (Nat.le_succ_of_le (Nat.le_succ_of_le hm.le))
   ·rintro _ _ ⟨s,H',M',rfl,rfl,hMM,hv,hyr,hfr⟩;refine goN ?_;have sL:∀k,k<(nU P.N L t).length->nm1 k<M:=fun k hk=>hm.ph.lt dZ hk;have gtfz:∀k,k<M->k≠nm1 q->gt (fzH (M+1) (.bv (bH nm1) l2 107 2 s) 2 H') k=gt H k:=fun k hk m4=>by rw[wO,if_neg (by omega),hfr k hk m4];rcases hq:gt H k with _|b';rfl;simp only[zM];rw[QG _ _ (QI (Nat.le_succ M) (dZ k b' hq).2)]
    have hto:∀a∈l2,a.to<(nU P.N L t).length:=fun b hb=>by
     obtain⟨j,hj⟩:=List.getElem?_of_mem hb;have hjl:j<x.Arcs.length:=by rw[<-hl2l];exact(zG.1 hj).1
     obtain⟨b',h1,h2⟩:=hl2g j _ (List.getElem?_eq_getElem hjl);rw[hj]at h1;cases h1;obtain⟨h3,h4,h5⟩:=Qd h2;rw[h5,uu,hLl];show P.N.length+_<_;omega
    have vG:kI kp kr st nm P h nx nm1 (nU P.N L (t+1)) P.size (P.N.length+(t+1)) (fzH (M+1) (.bv (bH nm1) l2 107 2 s) 2 H') M':=by rw[<-ut hy];refine⟨hm.ph.upd hq (show P.N.length+t<P.N.length+(t+1) by omega) (fun j hj=>by have:j≠P.N.length+t:=hj;omega) ⟨hto,trivial,nofun,trivial⟩ ?_ fun k b hb hk=>by rw[gtfz k (dZ k b hb).1 hk];exact hb,hm.nmE,fun k a b=>hm.new k a (by simpa using b),fun k a b e=>?_,by have:=hm.le;omega,by simpa using hm.len,by omega⟩;show gt _ (nm1 q)=_;rw[wO,if_neg (by omega),hyr];have e1:=CR (c:=bH nm1) (sz:=2) (fun _=>rfl) l2 (M+1) 2 107 s;simp only[zM,fzB,lE,fC,po,wU,D3,CX,CW,FQ];rw[e1];rfl;rw[gtfz k (by have:=hm.le;omega) fun e2=>by have:=hm.new q (Nat.le_add_right _ _) hqN;omega];exact hm.fr k a b e
    refine⟨f.Nodes.length-(t+1),_,_,by omega,⟨t+1,_,M',rfl,htl,rfl,rfl,vG,?_,by omega⟩,by have:=hm.le;show nx<=M';omega,Gh.trans (Gh.sub ?_) (Gh.fz (σ:=⟨H',M'⟩) (M+1) (.bv (bH nm1) l2 107 2 s) 2 hv nofun (qR _ _ _ (V5 ?_)) rfl)⟩;rw[gtfz (nx+1) hM (Ne.symm hqx)];exact hgl
    ·rw[<-hwr];(repeat refine⟨rfl,?_⟩);exact trivial
    simp only[BelS,aJ,and_true,true_and];exact⟨by omega,by omega,o5 _ (fun q=>qU _ q) _⟩
   rintro _ _ _ ⟨j,s,H',M',rfl,hj,rfl,rfl,hMM,hv,hyr,hfr⟩
   haveI:SuC M' (M'+1):=⟨rfl⟩
   haveI:SuC (M'+1) (M'+2):=⟨rfl⟩
   refine goN ?_;refine cU rfl (fun h9=>?_) (fun h9=>?_)
   ·have hjl:j<x.Arcs.length:=by simpa using h9
    obtain⟨a,ha⟩:∃a,x.Arcs[j]? = some a:=⟨_,List.getElem?_eq_getElem hjl⟩;obtain⟨b,hb,hab⟩:=hl2g j a ha;obtain⟨ha1,ha2,rfl⟩:=Qd hab;have rC:aC x.Arcs (j:Int)=some a:=by rw[aC,if_pos ⟨by omega,by omega⟩];simpa using ha
    have qY:IntKind.i64.wrap ((j:Int)+1)=((j+1:Nat):Int):=by rw[kR (by omega) (by omega)];rfl
    have htk:l2.take (j+1)=l2.take j++[⟨a.Feat,P.N.length+a.To.toNat⟩]:=by rw[List.take_add_one,hb];rfl
    have Z3:(l2.take j).length=j:=by rw[List.length_take,Nat.min_eq_left (by omega)]
    have hxM:nx+1<M:=hM
    let A0:List (Nat×B):=(M',.row (c6 a) 105)::H'
    have hglA:∀{A:List (Nat×B)},gt A (nx+1)=gt H' (nx+1)->gt A (nx+1)=some (.row ((gU P.N.length f.Nodes.length f.Nodes.length).map (iQ nm1)).flatten 92):=fun e=>by rw[e,hfr _ hxM (Ne.symm hqx)];exact hgl
    have hidV:jM (gU P.N.length f.Nodes.length f.Nodes.length) 0 f.Nodes.length (t:Int)=some (some q):=by rw[jM,if_pos ⟨by omega,by omega⟩];simp only[zZ,Nat.zero_add];rw[FS htl,if_pos htl]
    have hidW:jM (gU P.N.length f.Nodes.length f.Nodes.length) 0 f.Nodes.length a.To=some (some (P.N.length+a.To.toNat)):=by rw[jM,if_pos ⟨ha1,ha2⟩];simp only[Nat.zero_add];rw[FS (by omega),if_pos (by omega)]
    have E2:gt A0 (nx+1)=some (.row ((gU P.N.length f.Nodes.length f.Nodes.length).map (iQ nm1)).flatten 92):=hglA (by simp only[A0];rw[aK,if_neg (by omega)]);have NH:live (Sg.mk A0 (M'+1)) (nx+1) 0=true:=by simp[live,E2,B.st]
    haveI:Nq M' (nm1 q):=⟨by rw[beq_eq];simp;omega⟩
    haveI:Nq (M'+1) (nm1 q):=⟨by rw[beq_eq];simp;omega⟩
    haveI:Nq (M'+1) M':=⟨by rw[beq_eq];simp⟩
    haveI:dK H' (nm1 q) (.row [.i6 x.Typex,.vl (M+1) s 0 (l2.take j).length,.nilp,.i6 0,.i6 0,.i6 0,.isl false [],.i6 0,.nilp,.i6 0,.bool false,.i6 0] 103):=⟨hyr⟩
    refine goN ?_;apply aL;refine goN ?_;refine aP rC ?_;refine goN ?_;refine dE [(0,19),(0,20),(1,19),(1,20),(2,19),(2,20),(3,19),(3,20),(4,19),(5,19),(6,19),(7,19),(8,19),(9,19),(10,19)] ?_;refine c8 ?_;refine bB rfl (eJ rfl rfl (wI (σ:=⟨A0,M'+1⟩) eB.h (bQ eU.h) NH hidV)) (bB (u:=pt nm1 q) rfl (FK (σ:=⟨A0,M'+1⟩) (iQ nm1) (po nm1) eA.h rfl (fun _=>rfl) rfl E2 hidV) ?_);refine c8 ?_;refine bB rfl (eJ rfl rfl (wI (σ:=⟨A0,M'+1⟩) eB.h (bQ eU.h) NH hidV)) (bB (u:=pt nm1 q) rfl (FK (σ:=⟨A0,M'+1⟩) (iQ nm1) (po nm1) eA.h rfl (fun _=>rfl) rfl E2 hidV) ?_);refine c8 ?_;refine bB rfl (eJ rfl rfl (wI (σ:=⟨A0,M'+1⟩) eB.h (bQ eU.h) NH hidW)) (bB (u:=pt nm1 (P.N.length+a.To.toNat)) rfl (FK (σ:=⟨A0,M'+1⟩) (iQ nm1) (po nm1) eA.h rfl (fun _=>rfl) rfl E2 hidW) ?_);refine c8 ?_;refine dT ?_
    let A1:List (Nat×B):=(M'+1,.row [.i6 a.Feat,pt nm1 (P.N.length+a.To.toNat)] 107)::A0
    have nN:gt A1 (M+1)=some (.vec ((l2.take j).map (bH nm1)).flatten 107 2 s):=by simp only[A1,A0];rw[aK,if_neg (by omega),aK,if_neg (by omega)];exact hv
    have hro:rowOf (Sg.mk A1 (M'+2)) (M'+1)=some [.i6 a.Feat,pt nm1 (P.N.length+a.To.toNat)]:=by simp[A1,rowOf,aK]
    refine RD.act rfl (m8 rfl rfl rfl rfl (tK (bH nm1) [⟨a.Feat,P.N.length+a.To.toNat⟩] sZ.h sZ.h sJ.h rfl (fun _=>rfl) nN (vA (bH nm1) [⟨a.Feat,P.N.length+a.To.toNat⟩] (q:=[.i6 a.Feat,pt nm1 (P.N.length+a.To.toNat)]) hro rfl rfl rfl) ⟨by rw[Z3];simp;omega,by rw[Z3];simp;omega⟩)) rfl rfl ?_
    let V:B:=.vec (List.map (bH nm1) (l2.take j++[⟨a.Feat,P.N.length+a.To.toNat⟩])).flatten 107 2 (s+1)
    haveI:dK (ug A1 (M+1) V) (nm1 q) (.row [.i6 x.Typex,.vl (M+1) s 0 (l2.take j).length,.nilp,.i6 0,.i6 0,.i6 0,.isl false [],.i6 0,.nilp,.i6 0,.bool false,.i6 0] 103):=⟨by rw[bL,if_neg (by omega)];simp only[A1,A0];rw[aK,if_neg (by omega),aK,if_neg (by omega)];exact hyr⟩
    have NK:gt A1 (nx+1)=some (.row ((gU P.N.length f.Nodes.length f.Nodes.length).map (iQ nm1)).flatten 92):=hglA (by simp only[A1,A0];rw[aK,if_neg (by omega),aK,if_neg (by omega)]);have oW:gt (ug A1 (M+1) V) (nx+1)=some (.row ((gU P.N.length f.Nodes.length f.Nodes.length).map (iQ nm1)).flatten 92):=hglA (by rw[bL,if_neg (by omega)];simp only[A1,A0];rw[aK,if_neg (by omega),aK,if_neg (by omega)]);have Z9:live (Sg.mk A1 (M'+2)) (nx+1) 0=true:=by simp[live,NK,B.st]
    have NG:live (Sg.mk (ug A1 (M+1) V) (M'+2)) (nx+1) 0=true:=by simp[live,oW,B.st]
    refine c8 ?_;refine pI ?_;refine aZ ⟨by kernel_rfl,⟨opm,opm,opm,opm,eJ rfl rfl (wI (σ:=⟨A1,M'+2⟩) eB.h (bQ eU.h) Z9 hidV),eJ rfl rfl (wI (σ:=⟨ug A1 (M+1) V,M'+2⟩) eB.h (bQ eU.h) NG hidV),FK (σ:=⟨A1,M'+2⟩) (iQ nm1) (po nm1) eA.h rfl (fun _=>rfl) rfl NK hidV,FK (σ:=⟨ug A1 (M+1) V,M'+2⟩) (iQ nm1) (po nm1) eA.h rfl (fun _=>rfl) rfl oW hidV,opm,opm,eJ rfl rfl (wI (σ:=⟨A1,M'+2⟩) eB.h (bQ eU.h) Z9 hidV),FK (σ:=⟨A1,M'+2⟩) (iQ nm1) (po nm1) eA.h rfl (fun _=>rfl) rfl NK hidV,opm,opm,opm,trivial⟩,?_⟩;refine goN ?_;refine⟨x.Arcs.length-(j+1),_,_,by omega,⟨j+1,s+1,_,M'+2,rfl,hjl,rfl,rfl,by omega,?_,?_,fun k hk m4=>?_⟩,by have:=hm.le;show nx<=M'+2;omega,Gh.sub ?_⟩;rw[bL,if_neg (by omega),bL,if_pos rfl];show Option.map _ (gt A1 (M+1))=_;rw[nN,htk];rfl;rw[bL,if_pos rfl,bL,if_neg (by omega)];show Option.map _ (gt A1 (nm1 q))=_;simp only[A1,A0];rw[aK,if_neg (by omega),aK,if_neg (by omega),hyr,htk];rfl;rw[bL,if_neg (Ne.symm m4),bL,if_neg (by omega)];show gt A1 k=_;simp only[A1,A0];rw[aK,if_neg (by omega),aK,if_neg (by omega)];exact hfr k hk m4
    ·rw[<-qY];(repeat refine⟨rfl,?_⟩);exact trivial
   ·refine goN ?_;have hjl:j=x.Arcs.length:=by
     have:¬ (j:Int)<x.Arcs.length:=by simpa using h9
     omega
    subst hjl;have e:l2.take x.Arcs.length=l2:=by rw[<-hl2l,List.take_length]
    rw[e]at hv hyr;exact⟨_,_,⟨s,H',M',rfl,rfl,hMM,hv,hyr,hfr⟩,by have:=hm.le;show nx<=M';omega,Gh.sub (by((repeat refine⟨rfl,?_⟩);exact trivial))⟩
  ·refine goN ?_;have htl:t=f.Nodes.length:=by
    have:¬ (t:Int)<f.Nodes.length:=by simpa using h7
    omega
   subst htl;refine⟨_,_,⟨H,M,rfl,rfl,?_,hgl,hM⟩,hm.le,Gh.sub (by((repeat refine⟨rfl,?_⟩);exact trivial))⟩;have e:nU P.N L f.Nodes.length=P.N++L:=by rw[<-hLl];simp[nU]
   rw[e,<-hLl]at hm;exact hm
 rintro _ _ _ ⟨t,nm1,H,M,rfl,ht,rfl,rfl,hm,hgl,hgx,hM⟩;refine WPU.wf fun dZ _=>?_
 haveI:SuC M (M+1):=⟨rfl⟩
 haveI:SuC (M+1) (M+2):=⟨rfl⟩
 refine goN ?_;refine cU rfl (fun h7=>?_) (fun h7=>?_)
 ·have htl:t<f.Nodes.length:=by simpa using h7
  obtain⟨x,hx⟩:∃a,f.Nodes[t]? = some a:=⟨_,List.getElem?_eq_getElem htl⟩;obtain⟨y,hy,hxy⟩:=hLg t x hx;have hid:aC f.Nodes (t:Int)=some x:=by rw[aC,if_pos ⟨by omega,by omega⟩];simpa using hx
  have hwr:IntKind.i64.wrap ((t:Int)+1)=((t+1:Nat):Int):=by rw[kR (by omega) (by omega)];rfl
  haveI:Nq (M+1) (nx+1):=⟨by rw[beq_eq];simp;omega⟩
  haveI:Nq M (nx+1):=⟨by rw[beq_eq];simp;omega⟩
  refine goN ?_;apply aL;refine goN ?_;refine aP hid ?_;refine goN ?_
  let N1:List PN:=P.N++(L.take t).map AO
  have sL:N1.length=P.N.length+t:=by simp[N1];omega
  let fJ:Nat->Nat:=nG nm1 N1.length (M+1)
  let R0:B:=.row [.i6 x.Typex,.nils,.nilp,.i6 0,.i6 0,.i6 0,.nils,.i6 0,.nilp,.i6 0,.bool false,.i6 0] 103
  let R2:B:=.row (lE fJ (fC x.Typex []) .nils) 103
  let H2:List (Nat×B):=(M+1,R0)::(M,.row (bM x) 79)::H
  have Sx:=hm.more dZ (.row (bM x) 79);have kT:jA ⟨(M,.row (bM x) 79)::H,M+1⟩:=fun k b hb=>by have hb:gt ((M,B.row (bM x) 79)::H) k=some b:=hb;rw[aK]at hb;by_cases e:M=k;rw[if_pos e]at hb;cases hb;exact⟨by show k<M+1;omega,qU _ x⟩;rw[if_neg e]at hb;obtain⟨h1,h2⟩:=dZ k b hb;exact⟨Nat.lt_succ_of_lt h1,QI (Nat.le_succ _) h2⟩
  have nM:=Sx.add kT (by rw[sL];omega) x.Typex;have hcg:(gU P.N.length f.Nodes.length t).map (iQ nm1)=(gU P.N.length f.Nodes.length t).map (iQ fJ):=(tx (nm':=fJ) (nm:=nm1) (n:=N1.length) o4 (by omega)).symm;have oW:gt H2 (nx+1)=some (.row ((gU P.N.length f.Nodes.length t).map (iQ fJ)).flatten 92):=by simp only[H2];rw[aK,if_neg (by omega),aK,if_neg (by omega),hgl,hcg]
  have hlv:live (Sg.mk H2 (M+2)) (nx+1) 0=true:=by simp[live,oW,B.st]
  have hidV:jM (gU P.N.length f.Nodes.length t) 0 f.Nodes.length (t:Int)=some none:=by rw[jM,if_pos ⟨by omega,by omega⟩];simp only[zZ,Nat.zero_add];rw[FS htl,if_neg (Nat.lt_irrefl _)]
  refine RS.w rfl (eJ rfl rfl (wI (σ:=⟨H2,M+2⟩) eB.h (bQ eU.h) hlv hidV)) ?_;have hcs:([.ptr (M+1) 0 0]:List U)=iQ fJ (some (P.N.length+t)):=by simp only[iQ,po,pt,fJ,<-sL,KN]
  refine RS.wn rfl (Jz (σ:=⟨H2,M+2⟩) (y:=some (P.N.length+t)) (iQ fJ) (bQ eU.h) (fun _=>rfl) rfl rfl rfl rfl hcs oW hidV rfl) ?_;refine goN ?_;have hug:∀b,ug H2 (M+1) b=(M+1,b)::(M,.row (bM x) 79)::H:=fun b=>by simp[H2,ug,beq_eq]
  have oc:AO y=fC x.Typex []:=by obtain⟨_,hxy⟩:=bU hxy;obtain⟨l2,_,hxy⟩:=aB hxy;obtain rfl:=sI hxy;rfl
  have kw:kI kp kr st nm P h nx fJ (P.N++(L.take (t+1)).map AO) P.size P.N.length (ug ((M+1,R2)::(M,.row (bM x) 79)::H) (nx+1) (.row ((gU P.N.length f.Nodes.length (t+1)).map (iQ fJ)).flatten 92)) (M+2):=by
   have e:P.N++(L.take (t+1)).map AO=N1++[fC x.Typex []]:=by rw[List.take_add_one,hy];simp[N1,oc]
   rw[e];refine nM.oth (Nat.le_succ _) (q:=((gU P.N.length f.Nodes.length t).map (iQ fJ)).flatten) ?_ _;rw[aK,if_neg (by omega),aK,if_neg (by omega),hgl,hcg]
  refine⟨f.Nodes.length-(t+1),_,_,by omega,⟨t+1,fJ,_,M+2,rfl,htl,rfl,rfl,kw,?_,?_,by omega⟩,kw.le,Gh.trans (Gh.sub (l':=[(0,.ptr kp 0 0),(3,.ptr nx 0 0),(5,.sl (nx+1) 0 f.Nodes.length f.Nodes.length),(17,.iM bM f.Nodes),(18,.i6 f.Nodes.length),(19,.i6 ((t+1:Nat):Int))]) ?_) ?_⟩;rw[bL,if_pos rfl,aK,if_neg (by omega),aK,if_neg (by omega),hgl];rfl;rw[bL,if_neg (by omega),aK,if_neg (by omega),aK,if_neg (by omega)];exact hgx
  ·rw[<-hwr];(repeat refine⟨rfl,?_⟩);exact trivial
  have e3:(gU P.N.length f.Nodes.length t).set ((t:Int)).toNat (some (P.N.length+t))=gU P.N.length f.Nodes.length (t+1):=uy htl;rw[e3];have Z1:∀(b c:B),ug ((M+1,b)::(M,.row (bM x) 79)::H) (nx+1) c=(M+1,b)::(M,.row (bM x) 79)::ug H (nx+1) c:=fun b c=>by simp only[ug,beq_eq];rw[decide_eq_false (by omega),decide_eq_false (by omega)];rfl
  have Sl:∀(T:List (Nat×B))(b:B),ug ((M+1,R0)::T) (M+1) b=(M+1,b)::T:=fun T b=>by simp[ug,beq_eq]
  have hgM:∀T:List (Nat×B),gt ((M+1,R0)::T) (M+1)=some R0:=fun T=>by simp[aK]
  refine(Gh.eqv rfl (congrArg (fun T=>(⟨T,M+2⟩:Sg)) (Z1 R0 _))).trans ((Gh.rowW (σ:=⟨_,M+2⟩) (K:=M+1) (hgM _) (q':=lE fJ (fC x.Typex []) .nils) rfl ?_).trans (Gh.eqv rfl ?_));exact .cons (.refl _) (.cons (.refl _) (.cons (.refl _) (.cons (.refl _) (.cons (.refl _) (.cons (.refl _) (.cons (.nil false) (jU.refl _)))))));exact congrArg (fun T=>(⟨T,M+2⟩:Sg)) ((Sl _ _).trans (Z1 R2 _).symm)
 ·refine goN ?_;have htl:t=f.Nodes.length:=by
   have:¬ (t:Int)<f.Nodes.length:=by simpa using h7
   omega
  subst htl;refine⟨_,_,⟨nm1,H,M,rfl,rfl,?_,hgl,hgx,hM⟩,hm.le,Gh.sub (by((repeat refine⟨rfl,?_⟩);exact trivial))⟩;have e:P.N++(L.take f.Nodes.length).map AO=nU P.N L 0:=by rw[<-hLl,List.take_length];simp[nU]
  rw[<-e];exact hm
end
end Go.Proofs
namespace Go.Proofs
open Go Go.Rx Go.Vx Tryz
set_option maxRecDepth 20000
set_option maxHeartbeats 4000000
def Rn(n:Nat)(t:Int):Option GFS:=a8 (BM n 0 [0,1]) fun a=>a8 (BM n t []) fun b=>QN n [a,b]
def kh(n:Nat):Option Bool :=
 a8 (Fj n) fun H=>a8 (Rn n 1) fun f0=>a8 (tC (nV H) f0) fun r0=>aH (r0.1=0) (a8 (Rn n 0) fun f1=>a8 (tC r0.2 f1) fun r1=>aH (r1.1=1) (a8 (Rn n 2) fun f2=>a8 (tC r1.2 f2) fun r2=>aH (r2.1=2) (a8 (rZ n r2.2 0 1) fun u=>aH (u.1.1=3/\u.1.2=true) (a8 (rX n u.2 3) fun g=>aH (g.2=true) (a8 (rZ n u.2 0 2) fun v=>aH (v.1.1=0/\v.1.2=false) (a8 (G1 n g.1 f0) fun e=>aH (e=true) (a8 (rW n v.2 1 2) fun t1=>aH (t1.1=true) (a8 (rW n t1.2 0 2) fun t2=>aH (t2.1=false) (a8 (rZ n t2.2 1 2) fun w=>aH (w.1.1=4/\w.1.2=true) (a8 (rX n w.2 5) fun x=>aH (x.2=false/\w.2.size>=2/\w.2.size<=10) (some true)))))))))))
theorem Ro(m:Nat):kh (m+200)=some true:=by kernel_rfl
theorem LX{n:Nat}(h:200<=n):kh n=some true:=by
 have:=Ro (n-200)
 rwa [Nat.sub_add_cancel h]at this
end Go.Proofs
namespace Go.Proofs
open Go Go.Rx Go.Vx Tryz
set_option maxRecDepth 20000
set_option maxHeartbeats 4000000
set_option synthInstance.maxSize 4000
set_option synthInstance.maxHeartbeats 200000
variable{P:PP}
variable{f:GFS}
theorem lb{r:Int×PP}(h:tC P f=some r)(w:Wf P.N)(hr:∀k∈P.roots,k<P.N.length):Wf r.2.N/\(∀k∈r.2.roots,k<r.2.N.length)/\P.N.length<=r.2.N.length:=by
 obtain⟨⟨sK,_,_⟩,h⟩:=bU h;obtain⟨L,hL,h⟩:=aB h;obtain rfl:=sI h;obtain⟨hLl,hLg⟩:=VH hL;have hlen:(P.N++L).length=P.N.length+f.Nodes.length:=by simp[hLl]
 refine⟨fun x hx=>?_,fun k hk=>?_,by show _<=(P.N++L).length;omega⟩;show gJ (P.N++L).length x;rw[hlen];rcases yD.1 hx with hx |hx;exact(w x hx).le (Nat.le_add_right _ _);obtain⟨i,hi⟩:=List.getElem?_of_mem hx;have hil:i<f.Nodes.length:=by rw[<-hLl];exact wP hi
 obtain⟨y,h1,h2⟩:=hLg i _ (List.getElem?_eq_getElem hil);rw[hi]at h1;cases h1;obtain⟨_,h2⟩:=bU h2;obtain⟨l,h3,h2⟩:=aB h2;obtain rfl:=sI h2;obtain⟨h4,h5⟩:=VH h3;refine⟨fun a ha=>?_,trivial,nofun,trivial⟩;obtain⟨j,hj⟩:=List.getElem?_of_mem ha;have hj:l[j]? = some a:=hj;have hjl:j<l.length:=(zG.1 hj).1;rw[h4]at hjl;obtain⟨b,h6,h7⟩:=h5 j _ (List.getElem?_eq_getElem hjl);rw[hj]at h6;cases h6;obtain⟨h8,h9,fA⟩:=Qd h7;rw[fA];show P.N.length+_<_;omega;show k<(P.N++L).length;rcases yD.1 hk with hk |hk;have:=hr k hk;omega;simp at hk;subst hk;omega
variable{a:Int}
variable{b:Int}
theorem ei{n:Nat}{r:(Int×Bool)×PP}(h:rZ n P a b=some r)(w:Wf P.N)(hr:∀k∈P.roots,k<P.N.length):Wf r.2.N/\(∀k∈r.2.roots,k<r.2.N.length)/\P.N.length<=r.2.N.length:=by
 obtain⟨r1,h1,h⟩:=aB h;obtain⟨s1,s2,s3,s4,s5,s6⟩:=Ni h1 w;cases hq:r1.1 with
 |none=>rw[hq]at h;obtain rfl:=sI h;exact⟨s2,fun k hk=>by rw[s4]at hk;rw[s1.len];exact hr k hk,by rw[s1.len];exact zF _⟩
 |some q=>rw[hq]at h;obtain⟨c,hc,h⟩:=aB h;obtain⟨_,h⟩:=bU h;obtain rfl:=sI h;obtain⟨e1,e2,e3⟩:=Zk hc s2;have hl:r1.2.N.length<=c.2.1.length:=e1.len;refine⟨e2,fun k hk=>?_,by show P.N.length<=c.2.1.length;rw[<-s1.len];exact hl⟩;show k<c.2.1.length;rcases yD.1 hk with hk |hk;rw[s4]at hk;have:=hr k hk;rw[<-s1.len]at this;omega;simp at hk;subst hk;exact e3
variable{r:Bool×PP}
theorem sa{n:Nat}(h:rW n P a b=some r)(w:Wf P.N)(hr:∀k∈P.roots,k<P.N.length):Wf r.2.N/\(∀k∈r.2.roots,k<r.2.N.length)/\r.2.N.length=P.N.length:=by
 obtain⟨r1,h1,h⟩:=aB h;obtain rfl:=sI h;obtain⟨s1,s2,s3,s4,s5,s6⟩:=Ni h1 w;exact⟨s2,fun k hk=>by rw[s4]at hk;rw[s1.len];exact hr k hk,s1.len⟩
def NP(b:B):Prop:=(∀l,b≠.row l 83)/\(∀l,b≠.row l 103)/\∀l s t,b≠.vec l 92 s t
structure PL(n0:Nat)(h0:List (Nat×B))(kp:Nat)(P:PP)(h:List (Nat×B))(nx:Nat):Prop where
 ex:∃kr st nm,PH kp kr st nm P h/\n0<=kr/\(∀i,i<P.N.length->n0<=nm i)/\kr<nx/\kp<nx/\∀i,i<P.N.length->nm i<nx
 kp:n0<=kp
 lo:∀k,k<n0->gt h k=gt h0 k
 le:n0<=nx
structure PS(n0:Nat)(h0:List (Nat×B))(kp:Nat)(P:PP)(h:List (Nat×B))(nx:Nat)(h':List (Nat×B))(nx':Nat):Prop where
 pl:PL n0 h0 kp P h' nx'
 le:nx<=nx'
 np:∀k b,gt h k=some b->NP b->gt h' k=some b
section
variable{n0 kp:Nat}{h0:List (Nat×B)}{P:PP}{h:List (Nat×B)}{nx:Nat}
theorem PL.more(p:PL n0 h0 kp P h nx)(b:B):PL n0 h0 kp P ((nx,b)::h) (nx+1):=by
 obtain⟨kr,st,nm,h1,h2,h3,h4,h5,h6⟩:=p.ex;exact⟨⟨kr,st,nm,⟨by rw[fY h5];exact h1.pool,by rw[fY h4];exact h1.roots,fun i x hx=>by rw[fY (h6 i (zG.1 hx).1)];exact h1.node i x hx,h1.inj,h1.wf,h1.rt⟩,h2,h3,by omega,by omega,fun i hi=>by have:=h6 i hi;omega⟩,p.kp,fun k hk=>by rw[fY (Nat.lt_of_lt_of_le hk p.le)];exact p.lo k hk,Nat.le_succ_of_le p.le⟩
theorem PL.up(p:PL n0 h0 kp P h nx){nx':Nat}(hn:nx<=nx'):PL n0 h0 kp P h nx':=by
 obtain⟨kr,st,nm,h1,h2,h3,h4,h5,h6⟩:=p.ex;exact⟨⟨kr,st,nm,h1,h2,h3,by omega,by omega,fun i hi=>by have:=h6 i hi;omega⟩,p.kp,p.lo,Nat.le_trans p.le hn⟩
theorem PL.wf(p:PL n0 h0 kp P h nx):Wf P.N:=by obtain⟨_,_,_,h1,_⟩:=p.ex;exact h1.wf
theorem PL.rt(p:PL n0 h0 kp P h nx):∀k∈P.roots,k<P.N.length:=by obtain⟨_,_,_,h1,_⟩:=p.ex;exact h1.rt
theorem GF{kr st:Nat}{nm:Nat->Nat}(p:PH kp kr st nm P h)(hw:jA ⟨h,nx⟩)(lo:∀k,k<n0->gt h k=gt h0 k)(le:n0<=nx)(hkp:n0<=kp)(hkr:n0<=kr)(hnm:∀i,i<P.N.length->n0<=nm i){st':Nat}{P1:PP}(SQ:Wf P1.N)(rt1:∀r∈P1.roots,r<P1.N.length)(N:Nat)(hN:nx+(P1.N.length-P.N.length)<=N):PS n0 h0 kp P1 h nx (cH kp kr st' (gH nm P.N.length nx) P1 h) N:=by
 have hno:∀k,k<nx->k≠kp->k≠kr->(∀i,i<P.N.length->nm i≠k)->gt (cH kp kr st' (gH nm P.N.length nx) P1 h) k=gt h k:=fun k k0 k1 k2 k3=>Ce k1 k2 fun i hi e=>by rcases Nat.lt_or_ge i P.N.length with h5 |h5;rw[qP i h5]at e;exact k3 i h5 e;rw[gH,if_neg (by omega)]at e;omega
 have q1:=(hw _ _ p.pool).1;have q2:=(hw _ _ p.roots).1;refine⟨⟨⟨kr,st',_,qm p hw SQ rt1,hkr,fun i hi=>?_,Nat.lt_of_lt_of_le q2 (by show nx<=N;omega),Nat.lt_of_lt_of_le q1 (by show nx<=N;omega),fun i hi=>?_⟩,hkp,fun k hk=>?_,by omega⟩,by omega,fun k b hb hn=>?_⟩;rcases Nat.lt_or_ge i P.N.length with h5 |h5;rw[qP i h5];exact hnm i h5;rw[gH,if_neg (by omega)];omega;rcases Nat.lt_or_ge i P.N.length with h5 |h5;rw[qP i h5];have:nm i<nx:=(hw _ _ (p.node i _ (List.getElem?_eq_getElem h5))).1;omega;rw[gH,if_neg (by omega)];omega;rw[hno k (by omega) (by omega) (by omega) fun i hi e=>by have:=hnm i hi;omega];exact lo k hk;rw[hno k (hw k b hb).1 (fun e=>?_) (fun e=>?_) fun i hi e=>?_];exact hb;rw[e,p.pool]at hb;cases hb;exact hn.1 _ rfl;rw[e,p.roots]at hb;cases hb;exact hn.2.2 _ _ _ rfl;rw[<-e,p.node i _ (List.getElem?_eq_getElem hi)]at hb;cases hb;exact hn.2.1 _ rfl
theorem Ci(p:PL n0 h0 kp P h nx){r:Int×PP}(J:tC P f=some r):aO prog 18 [.ptr kp 0 0,.agg (fV f)] ⟨h,nx⟩ (fun u σ'=>∃h' nx',u=.i6 r.1/\σ'=⟨h',nx'⟩/\PS n0 h0 kp r.2 h nx h' nx'):=aO.wf fun hw _=>by
 obtain⟨kr,st,nm,h1,h2,h3,_⟩:=p.ex;obtain⟨w1,w2,w3⟩:=lb J p.wf p.rt;exact(LP h1 J).mono fun u σ' ⟨e1,e2⟩=>⟨_,_,e1,e2,GF h1 hw p.lo p.le p.kp h2 h3 w1 w2 _ (zF _)⟩
theorem Dm(p:PL n0 h0 kp P h nx)(n:Nat){r:(Int×Bool)×PP}(J:rZ n P a b=some r):aO prog 21 [.ptr kp 0 0,.i6 a,.i6 b] ⟨h,nx⟩ (fun u σ'=>∃h' nx',u=.tup [.i6 r.1.1,.bool r.1.2]/\σ'=⟨h',nx'⟩/\PS n0 h0 kp r.2 h nx h' nx'):=aO.wf fun hw _=>by
 obtain⟨kr,st,nm,h1,h2,h3,_⟩:=p.ex;obtain⟨w1,w2,w3⟩:=ei J p.wf p.rt;exact(uf h1 n J).mono fun u σ' ⟨st',e1,e2⟩=>⟨_,_,e1,e2,GF h1 hw p.lo p.le p.kp h2 h3 w1 w2 _ (zF _)⟩
theorem Oj(p:PL n0 h0 kp P h nx)(n:Nat)(J:rW n P a b=some r):∃h',aO prog 22 [.ptr kp 0 0,.i6 a,.i6 b] ⟨h,nx⟩ (fun u σ'=>u=.bool r.1/\σ'=⟨h',nx⟩)/\PS n0 h0 kp r.2 h nx h' nx:=by
 obtain⟨kr,st,nm,h1,h2,h3,h4,h5,h6⟩:=p.ex;obtain⟨w1,w2,w3⟩:=sa J p.wf p.rt;have hno:∀k,k≠kp->k≠kr->(∀i,i<P.N.length->nm i≠k)->gt (cH kp kr st nm r.2 h) k=gt h k:=fun k k1 k2 k3=>Ce k1 k2 fun i hi=>k3 i (by omega);refine⟨_,yk h1 n J,⟨⟨kr,st,nm,wh h1 w3 w1 w2,h2,fun i hi=>h3 i (by omega),h4,h5,fun i hi=>h6 i (by omega)⟩,p.kp,fun k hk=>?_,p.le⟩,zF _,fun k b hb hn=>?_⟩;rw[hno k (by have:=p.kp;omega) (by omega) fun i hi e=>by have:=h3 i hi;omega];exact p.lo k hk;rw[hno k (fun e=>?_) (fun e=>?_) fun i hi e=>?_];exact hb;rw[e,h1.pool]at hb;cases hb;exact hn.1 _ rfl;rw[e,h1.roots]at hb;cases hb;exact hn.2.2 _ _ _ rfl;rw[<-e,h1.node i _ (List.getElem?_eq_getElem hi)]at hb;cases hb;exact hn.2.1 _ rfl
theorem yj(p:PL n0 h0 kp P h nx)(n:Nat)(J:rW n P a b=some r):aO prog 22 [.ptr kp 0 0,.i6 a,.i6 b] ⟨h,nx⟩ (fun u σ'=>∃h',u=.bool r.1/\σ'=⟨h',nx⟩/\PS n0 h0 kp r.2 h nx h' nx):=by
 obtain⟨h',g1,g2⟩:=Oj p n J;exact g1.mono fun u σ' ⟨e1,e2⟩=>⟨h',e1,e2,g2⟩
variable{k:Int}
theorem Mz(p:PL n0 h0 kp P h nx)(n:Nat){r:GFS×Bool}(J:rX n P k=some r):aO prog 19 [.ptr kp 0 0,.i6 k] ⟨h,nx⟩ (fun u σ'=>u=.tup [.agg (fV r.1),.bool r.2]/\σ'=⟨h,nx⟩):=by
 obtain⟨kr,st,nm,h1,_⟩:=p.ex;exact Na h1 n J
variable{P':PP}
theorem yw(p:PL n0 h0 kp P h nx)(J:tC P f=some (k,P')):aO prog 18 [.ptr kp 0 0,.agg (fV f)] ⟨h,nx⟩ (fun u σ'=>∃h' nx',u=.i6 k/\σ'=⟨h',nx'⟩/\PS n0 h0 kp P' h nx h' nx'):=Ci p J
variable{ok:Bool}
theorem qv(p:PL n0 h0 kp P h nx)(n:Nat)(J:rZ n P a b=some ((k,ok),P')):aO prog 21 [.ptr kp 0 0,.i6 a,.i6 b] ⟨h,nx⟩ (fun u σ'=>∃h' nx',u=.tup [.i6 k,.bool ok]/\σ'=⟨h',nx'⟩/\PS n0 h0 kp P' h nx h' nx'):=Dm p n J
theorem Oi(p:PL n0 h0 kp P h nx)(n:Nat)(J:rW n P a b=some (ok,P')):aO prog 22 [.ptr kp 0 0,.i6 a,.i6 b] ⟨h,nx⟩ (fun u σ'=>∃h',u=.bool ok/\σ'=⟨h',nx⟩/\PS n0 h0 kp P' h nx h' nx):=yj p n J
theorem Zc(p:PL n0 h0 kp P h nx)(n:Nat)(J:rX n P k=some (f,ok)):aO prog 19 [.ptr kp 0 0,.i6 k] ⟨h,nx⟩ (fun u σ'=>u=.tup [.agg (fV f),.bool ok]/\σ'=⟨h,nx⟩):=Mz p n J
theorem Mu(p:PL n0 h0 kp P h nx):aO prog 16 [.ptr kp 0 0] ⟨h,nx⟩ (fun u σ'=>u=.i6 P.size/\σ'=⟨h,nx⟩):=by
 obtain⟨kr,st,nm,h1,_⟩:=p.ex;exact yn h1
theorem Vj(H:dY)(hn:n0<=nx)(hl:∀k,k<n0->gt h k=gt h0 k):PL n0 h0 (nx+1) (nV H) (AU H nx h) (nx+3):=
 ⟨⟨nx+2,0,id,lj H nx h id,by omega,fun i hi=>by simp[nV]at hi,by omega,by omega,fun i hi=>by simp[nV]at hi⟩,by omega,fun k hk=>by rw[AU,aK,if_neg (by omega),aK,if_neg (by omega),aK,if_neg (by omega)];exact hl k hk,by omega⟩
end
structure l_(n:Nat)(H:dY)(a0 b0 a1 b1 a2 b2:bS)(f0 f1 f2:GFS)(r0 r1 r2:Int×PP)(u v w:(Int×Bool)×PP)(g x:GFS×Bool)(t1 t2:Bool×PP):Prop where
 hH:Fj n=some H
 ha0:BM n 0 [0,1]=some a0
 hb0:BM n 1 []=some b0
 hf0:QN n [a0,b0]=some f0
 hr0:tC (nV H) f0=some r0
 hv0:r0.1=0
 ha1:BM n 0 [0,1]=some a1
 hb1:BM n 0 []=some b1
 hf1:QN n [a1,b1]=some f1
 hr1:tC r0.2 f1=some r1
 hv1:r1.1=1
 ha2:BM n 0 [0,1]=some a2
 hb2:BM n 2 []=some b2
 hf2:QN n [a2,b2]=some f2
 hr2:tC r1.2 f2=some r2
 hv2:r2.1=2
 hu:rZ n r2.2 0 1=some u
 hvu:u.1.1=3/\u.1.2=true
 hg:rX n u.2 3=some g
 hvg:g.2=true
 hv:rZ n u.2 0 2=some v
 hvv:v.1.1=0/\v.1.2=false
 he:G1 n g.1 f0=some true
 ht1:rW n v.2 1 2=some t1
 hvt1:t1.1=true
 ht2:rW n t1.2 0 2=some t2
 hvt2:t2.1=false
 hw:rZ n t2.2 1 2=some w
 hvw:w.1.1=4/\w.1.2=true
 hx:rX n w.2 5=some x
 hvx:x.2=false/\w.2.size>=2/\w.2.size<=10
theorem b_{n:Nat}(hn:200<=n):∃H a0 b0 a1 b1 a2 b2 f0 f1 f2 r0 r1 r2 u v w g x t1 t2,l_ n H a0 b0 a1 b1 a2 b2 f0 f1 f2 r0 r1 r2 u v w g x t1 t2:=by
 have hE:=LX hn;obtain⟨H,hH,hE⟩:=aB hE;obtain⟨f0,hf0,hE⟩:=aB hE;obtain⟨r0,hr0,hE⟩:=aB hE;obtain⟨v0,hE⟩:=bU hE;obtain⟨f1,hf1,hE⟩:=aB hE;obtain⟨r1,hr1,hE⟩:=aB hE;obtain⟨v1,hE⟩:=bU hE;obtain⟨f2,hf2,hE⟩:=aB hE;obtain⟨r2,hr2,hE⟩:=aB hE;obtain⟨v2,hE⟩:=bU hE;obtain⟨u,hu,hE⟩:=aB hE;obtain⟨vu,hE⟩:=bU hE;obtain⟨g,hg,hE⟩:=aB hE;obtain⟨vg,hE⟩:=bU hE;obtain⟨v,hv,hE⟩:=aB hE;obtain⟨vv,hE⟩:=bU hE;obtain⟨e,he,hE⟩:=aB hE;obtain⟨ve,hE⟩:=bU hE;obtain⟨t1,ht1,hE⟩:=aB hE;obtain⟨sx,hE⟩:=bU hE;obtain⟨t2,ht2,hE⟩:=aB hE;obtain⟨sw,hE⟩:=bU hE;obtain⟨w,hw,hE⟩:=aB hE;obtain⟨vw,hE⟩:=bU hE;obtain⟨x,hx,hE⟩:=aB hE;obtain⟨vx,hE⟩:=bU hE;obtain⟨a0,ha0,hf0⟩:=aB hf0;obtain⟨b0,hb0,hf0⟩:=aB hf0;obtain⟨a1,ha1,hf1⟩:=aB hf1;obtain⟨b1,hb1,hf1⟩:=aB hf1;obtain⟨a2,ha2,hf2⟩:=aB hf2;obtain⟨b2,hb2,hf2⟩:=aB hf2;exact⟨H,a0,b0,a1,b1,a2,b2,f0,f1,f2,r0,r1,r2,u,v,w,g,x,t1,t2,hH,ha0,hb0,hf0,hr0,v0,ha1,hb1,hf1,hr1,v1,ha2,hb2,hf2,hr2,v2,hu,vu,hg,vg,hv,vv,by rw[ve]at he;exact he,ht1,sx,ht2,sw,hw,vw,hx,vx⟩
theorem Cy{m:Nat}:∀{a b:List U},aE m a->aE m b->aE m (a++b):=fun{a b} ha hb=>by
 rw[sF];intro u hu;rcases yD.1 hu with hu |hu;exact(sF _ _).1 ha u hu;exact(sF _ _).1 hb u hu
theorem PL.live{n0 kp:Nat}{h0:List (Nat×B)}{P:PP}{h:List (Nat×B)}{nx:Nat}(p:PL n0 h0 kp P h nx):Go.Vx.live ⟨h,nx⟩ kp 0=true:=by
 obtain⟨kr,st,nm,q,_⟩:=p.ex;simp[Go.Vx.live,q.pool];rfl
theorem Ki{n:Nat}(hn:200<=n)(h0:List (Nat×B))(xG:Nat):aO prog 11 [] ⟨h0,xG⟩ (fun u σ'=>u=.bool true/\σ'=⟨h0,xG⟩):=by
 refine aO.wf fun oU _=>?_;obtain⟨H,a0,b0,a1,b1,a2,b2,f0,f1,f2,r0,r1,r2,u,v,w,g,x,t1,t2,E⟩:=b_ hn;refine Tw 131 yX ?_;refine goN ?_;refine aI rfl (pC (ii n H E.hH) _) Ah (i7 rfl (eG rfl O1 rfl).2 (Vk H h0 xG) rfl rfl ?_);rintro _ _ ⟨rfl,rfl⟩;have p0:PL xG h0 (xG+1) (nV H) (AU H xG h0) (xG+3):=Vj H (zF _) fun _ _=>rfl;refine goN ?_;refine RS.w rfl (M3 rfl rfl rfl (YB Lh.h p0.live rfl)) ?_;refine goN ?_;refine i7 rfl (eG rfl EG rfl).2 (Mu p0) rfl rfl ?_;rintro _ _ ⟨rfl,rfl⟩;refine goN ?_;refine sV rfl (dM.bsf (cs:=[.i6 0,.i6 1]) (rs:=List.map (cI .i64) [0,1]) tb_ok rfl eC.h mB.h rfl rfl rfl rfl rfl rfl rfl rfl rfl rfl rfl (by simp[aE,aJ])) ?_;rintro _ _ ⟨rfl,rfl⟩;refine goN ?_;refine aI rfl (pC (G4 n 0 [0,1] a0 E.ha0) _) nQ ?_;refine goN ?_;refine aI rfl (vO (args':=[.i6 1,.isl false []]) (.cons (.refl _) (.cons (.nil false) .nil)) (pC (G4 n 1 [] b0 E.hb0)) _) nQ ?_;refine goN ?_;refine sV rfl (dM.bsf (cs:=bM a0++bM b0) (rs:=List.map bM [a0,b0]) tb_ok rfl nC.h mA.h rfl rfl rfl rfl rfl rfl rfl rfl rfl rfl rfl (Cy (qU 0 _) (qU 0 _))) ?_;rintro _ _ ⟨rfl,rfl⟩;refine goN ?_;refine aI rfl (pC (Ew n [a0,b0] f0 E.hf0) _) yH ?_;refine goN ?_;refine i7 rfl (eG rfl yJ rfl).2 (Ci (p0.up (nx':=xG+5) (by omega)) E.hr0) rfl rfl ?_;rintro _ _ ⟨h1,n1,rfl,rfl,p1⟩;rw[E.hv0];refine goN ?_;refine sV rfl (dM.bsf (cs:=[.i6 0,.i6 1]) (rs:=List.map (cI .i64) [0,1]) tb_ok rfl eC.h mB.h rfl rfl rfl rfl rfl rfl rfl rfl rfl rfl rfl (by simp[aE,aJ])) ?_;rintro _ _ ⟨rfl,rfl⟩;refine goN ?_;refine aI rfl (pC (G4 n 0 [0,1] a1 E.ha1) _) nQ ?_;refine goN ?_;refine aI rfl (vO (args':=[.i6 0,.isl false []]) (.cons (.refl _) (.cons (.nil false) .nil)) (pC (G4 n 0 [] b1 E.hb1)) _) nQ ?_;refine goN ?_;refine sV rfl (dM.bsf (cs:=bM a1++bM b1) (rs:=List.map bM [a1,b1]) tb_ok rfl nC.h mA.h rfl rfl rfl rfl rfl rfl rfl rfl rfl rfl rfl (Cy (qU 0 _) (qU 0 _))) ?_;rintro _ _ ⟨rfl,rfl⟩;refine goN ?_;refine aI rfl (pC (Ew n [a1,b1] f1 E.hf1) _) yH ?_;refine goN ?_;refine i7 rfl (eG rfl yJ rfl).2 (Ci (p1.pl.up (nx':=n1+2) (by omega)) E.hr1) rfl rfl ?_;rintro _ _ ⟨h2,n2,rfl,rfl,p2⟩;rw[E.hv1];refine goN ?_;refine sV rfl (dM.bsf (cs:=[.i6 0,.i6 1]) (rs:=List.map (cI .i64) [0,1]) tb_ok rfl eC.h mB.h rfl rfl rfl rfl rfl rfl rfl rfl rfl rfl rfl (by simp[aE,aJ])) ?_;rintro _ _ ⟨rfl,rfl⟩;refine goN ?_;refine aI rfl (pC (G4 n 0 [0,1] a2 E.ha2) _) nQ ?_;refine goN ?_;refine aI rfl (vO (args':=[.i6 2,.isl false []]) (.cons (.refl _) (.cons (.nil false) .nil)) (pC (G4 n 2 [] b2 E.hb2)) _) nQ ?_;refine goN ?_;refine sV rfl (dM.bsf (cs:=bM a2++bM b2) (rs:=List.map bM [a2,b2]) tb_ok rfl nC.h mA.h rfl rfl rfl rfl rfl rfl rfl rfl rfl rfl rfl (Cy (qU 0 _) (qU 0 _))) ?_;rintro _ _ ⟨rfl,rfl⟩;refine goN ?_;refine aI rfl (pC (Ew n [a2,b2] f2 E.hf2) _) yH ?_;refine goN ?_;refine i7 rfl (eG rfl yJ rfl).2 (Ci (p2.pl.up (nx':=n2+2) (by omega)) E.hr2) rfl rfl ?_;rintro _ _ ⟨h3,n3,rfl,rfl,p3⟩;rw[E.hv2];refine goN ?_;refine cU rfl (fun q=>absurd q (by decide)) (fun _=>?_);refine goN ?_;refine i7 rfl (eG rfl uD rfl).2 (Dm p3.pl n E.hu) rfl rfl ?_;rintro _ _ ⟨h4,n4,rfl,rfl,p4⟩;rw[E.hvu.1,E.hvu.2]
 haveI:SuC n4 (n4+1):=⟨rfl⟩
 refine goN ?_;refine i7 rfl (eG rfl yI rfl).2 (Mz p4.pl n E.hg) rfl rfl ?_;rintro _ _ ⟨rfl,rfl⟩;rw[E.hvg];refine goN ?_;refine i7 rfl (eG rfl uD rfl).2 (Dm (p4.pl.more _) n E.hv) rfl rfl ?_;rintro _ _ ⟨h5,n5,rfl,rfl,p5⟩;rw[E.hvv.1,E.hvv.2]
 haveI:dK h5 n4 (.row [.iM bM g.1.Nodes] 39):=⟨p5.np _ _ (by rw[aK,if_pos rfl];rfl) ⟨nofun,nofun,nofun⟩⟩
 refine goN ?_;obtain⟨h6,e6,p6⟩:=Oj p5.pl n E.ht1;obtain⟨h7,e7,p7⟩:=Oj p6.pl n E.ht2;rw[E.hvt1]at e6;rw[E.hvt2]at e7
 haveI:jC 0 (bM a0++bM b0):=⟨Cy (qU 0 _) (qU 0 _)⟩
 refine dE [] ?_;refine c8 ?_;refine RD.freeO (u:=.isl false (List.map (cI .i64) [0,1])) (by exact Go.Vx.wA) (mO.bs (cs:=[.i6 0,.i6 1]) eC.h mB.h rfl rfl rfl rfl rfl rfl rfl rfl rfl) rfl rfl ?_;refine c8 ?_;refine gZ rfl (pC (G4 n 0 [0,1] a0 E.ha0)) nQ ?_;refine c8 ?_;refine gZ rfl (vO (args':=[.i6 1,.isl false []]) (.cons (.refl _) (.cons (.nil false) .nil)) (pC (G4 n 1 [] b0 E.hb0))) nQ ?_;refine c8 ?_;refine RD.freeO (u:=.isl false (List.map bM [a0,b0])) (by exact Go.Vx.wA) (mO.bs (cs:=bM a0++bM b0) nC.h mA.h rfl rfl rfl rfl rfl rfl rfl rfl rfl) rfl rfl ?_;refine c8 ?_;refine gZ rfl (pC (Ew n [a0,b0] f0 E.hf0)) yH ?_;refine c8 ?_;refine gZ rfl (pC (Qw n g.1 f0 true E.he)) EF ?_;refine c8 ?_;refine II (by exact Go.Vx.wA) (eG rfl uC rfl).2 e6 rfl rfl ?_;refine c8 ?_;refine II (by exact Go.Vx.wA) (eG rfl uC rfl).2 e7 rfl rfl ?_;refine c8 ?_;refine aZ ⟨by kernel_rfl,trivial,?_⟩;refine goN ?_;refine cU rfl (fun q=>absurd q (by decide)) (fun _=>?_);refine goN ?_;refine i7 rfl (eG rfl uD rfl).2 (Dm p7.pl n E.hw) rfl rfl ?_;rintro _ _ ⟨h8,n8,rfl,rfl,p8⟩;rw[E.hvw.1,E.hvw.2]
 haveI:SuC n8 (n8+1):=⟨rfl⟩
 refine goN ?_;refine i7 rfl (eG rfl yI rfl).2 (Mz p8.pl n E.hx) rfl rfl ?_;rintro _ _ ⟨rfl,rfl⟩;rw[E.hvx.1];refine goN ?_;refine i7 rfl (eG rfl EG rfl).2 (Mu (p8.pl.more _)) rfl rfl ?_;rintro _ _ ⟨rfl,rfl⟩;refine goN ?_;rw[decide_eq_true E.hvx.2.1];refine goN ?_;refine i7 rfl (eG rfl EG rfl).2 (Mu (p8.pl.more _)) rfl rfl ?_;rintro _ _ ⟨rfl,rfl⟩;refine goN ?_;rw[decide_eq_true E.hvx.2.2];refine goN ?_
 trace_state
 exact Kf oU rfl rfl rfl (p8.pl.more _).lo (p8.pl.more (.row (fV x.1) 39)).le (by simp[aJ]) ⟨rfl,rfl⟩
instance:oA tb 237 [.nils,.nils,.nils] [(0,1),(1,1),(2,1)]:=⟨pD EZ.h YU.h rfl (by kernel_rfl)⟩
abbrev D5(a)(b:Nat)(c)(d:Nat)(e)(f:Nat)(g)(h):=([(6,.bv bM a 79 2 b),(5,.row [.vl 6 b 0 a.length] 39),(4,.bv (cI .i64) c 3 1 d),(3,.bv (cI .i64) e 3 1 f),(2,.row [.iM bM g,.vl 3 f 0 e.length,.vl 4 d 0 c.length] 237),(1,.row [.nils] 39),(0,.row [.iM bM h] 39)]:List (Nat×B))
abbrev D4(a)(b:Nat)(c:Nat)(d)(e):=([(0,.row [.iM bM a,.vl 1 b 0 d.length,.vl 2 c 0 e.length] 237),(1,.bv (cI .i64) d 3 1 b),(2,.bv (cI .i64) e 3 1 c)]:List (Nat×B))
abbrev QP(a):=([(1,.row [.nils] 39),(0,.row [.iM bM a] 39)]:List (Nat×B))
def S3(p1:List bE)(z6:Int)(l7:List bE)(bT:Int->(List bE)->Option ((List bE)))(dB:Int):Option ((List bE)):=
 aH ((0:Int)<=dB/\dB<=((l7.length:Nat):Int)) (
 aH (0+dB.toNat<=l7.length) (
 aH (((l7.drop 0).take dB.toNat).length*16<=140737488355328/\((l7.drop 0).take dB.toNat).length<=140737488355328) (
 a8 (aC p1 z6) fun lA=>
 aH ((((l7.drop 0).take dB.toNat).length+1)*16<=140737488355328/\((l7.drop 0).take dB.toNat).length+1<=140737488355328) (
 aH ((0:Int)<=dB/\dB<=((l7.length:Nat):Int)) (
 aH ((0+dB.toNat)+(l7.length-dB.toNat)<=l7.length) (
 aH (((((l7.drop 0).take dB.toNat)++[lA]).length+((l7.drop (0+dB.toNat)).take (l7.length-dB.toNat)).length)*16<=140737488355328/\(((l7.drop 0).take dB.toNat)++[lA]).length+((l7.drop (0+dB.toNat)).take (l7.length-dB.toNat)).length<=140737488355328) (
 bT (IntKind.i64.wrap (z6+1)) ((((l7.drop 0).take dB.toNat)++[lA])++((l7.drop (0+dB.toNat)).take (l7.length-dB.toNat))))))))))
def S2(p1:List bE)(z6:Int)(l7:List bE)(bT:Int->(List bE)->Option ((List bE))):Nat->Int->Option ((List bE))
 |0,_=>none|m2+1,AE=>a8 (cond (decide (AE>0)) (a8 (aC l7 (IntKind.i64.wrap (AE-1))) fun oB=>a8 (aC p1 z6) fun qE=>some (decide (oB.Feat>qE.Feat))) (some false)) fun Uc=>cond Uc ((S2 p1 z6 l7 bT m2) (IntKind.i64.wrap (AE-1))) (S3 p1 z6 l7 bT AE)
def Hr  (l9:List bE):Option ((List bE)):=
 some l9
def DQ(p1:List bE)(n:Nat):Nat->Int->(List bE)->Option ((List bE))
 |0,_,_=>none|m1+1,z6,l7=>cond (decide (z6<(p1.length:Int))) (S2 p1 z6 l7 (DQ p1 n m1) n (l7.length:Int)) (Hr l7)
def WN(n:Nat)(p1:List bE):Option ((List bE)):=
 DQ p1 n n 0 ([]:List bE)
theorem jt(n:Nat)(p1:List bE)(r:(List bE))(J:WN n p1=some r):aO prog 142 [.isl false (p1.map c6)] ⟨[],0⟩ (fun u σ'=>∃t,u=.vl 0 t 0 r.length/\σ'=⟨[(0,.bv c6 r 105 2 t)],0+1⟩):=by
 unfold WN at J;refine gY 52 yO ?_;refine gr ?_;refine gr ?_;refine gr ?_;refine gV 3 105 2 1 ?_;refine gL (fun m tm σ=>∃z6 l7 t8,DQ p1 n m z6 l7=some r/\tm=fr 52 [(0,.iM c6 p1),(3,.vl 0 t8 0 l7.length),(4,.i6 z6)]/\σ=⟨[(0,.bv c6 l7 105 2 t8)],1⟩) (fun tm σ=>∃l9 dL,Hr l9=some r/\tm=fr 52 [(3,.vl 0 dL 0 l9.length)]/\σ=⟨[(0,.bv c6 l9 105 2 dL)],1⟩) n ⟨0,([]:List bE),0,J,rfl,rfl⟩ ?_ ?_;rintro _ _ ⟨l9,dL,J,rfl,rfl⟩;unfold Hr at J;refine go ?_;obtain rfl:=sI J;exact⟨.inr rfl,[.vl 0 dL 0 l9.length],dO rfl dX,.vl 0 dL 0 l9.length,⟨[(0,.bv c6 l9 105 2 dL)],1⟩,NZ,Gh.trans (Gh.only (fun k=>Nat.beq k 0)) (Gh.to (n1:=1) [] rfl rfl NZ NL jC.h BH.h),dL,rfl,rfl⟩;rintro(_|m1) _ _ ⟨z6,l7,t8,J,rfl,rfl⟩;cases J;unfold DQ at J;refine gF J ?_ ?_<;>intro iP J;refine go ?_;apply aL;refine go ?_;refine gL (fun m tm σ=>∃AE,S2 p1 z6 l7 (DQ p1 n m1) m AE=some r/\tm=fr 52 [(0,.iM c6 p1),(3,.vl 0 t8 0 l7.length),(4,.i6 z6),(5,.i6 AE)]/\σ=⟨[(0,.bv c6 l7 105 2 t8)],1⟩) (fun tm σ=>∃dB,S3 p1 z6 l7 (DQ p1 n m1) dB=some r/\tm=fr 52 [(0,.iM c6 p1),(3,.vl 0 t8 0 l7.length),(4,.i6 z6),(5,.i6 dB)]/\σ=⟨[(0,.bv c6 l7 105 2 t8)],1⟩) n ⟨(l7.length:Int),J,rfl,rfl⟩ ?_ ?_;rintro _ _ ⟨dB,J,rfl,rfl⟩;unfold S3 at J;obtain⟨g8,J⟩:=bU J;obtain⟨mC,J⟩:=bU J;obtain⟨nP,J⟩:=bU J;refine go ?_;refine bG (u:=.vl 0 t8 0 dB.toNat) rfl (BK rfl nW (CL rfl) nW (U3 c6 iJ.h (bQ fT.h) pU (vo rfl) (Nat.le_of_eq (Nat.zero_add _)) (Ms g8.1 g8.2))) (bG (u:=.vl 1 0 0 (((l7.drop 0).take dB.toNat).length)) (σ':=⟨[(1,.bv c6 ((l7.drop 0).take dB.toNat) 105 2 0),(0,.bv c6 l7 105 2 t8)],2⟩) rfl (m8 rfl rfl rfl rfl (Ob c6 ((l7.drop 0).take dB.toNat) iJ.h iJ.h fT.h rfl (Cg c6 pU (vo rfl) mC) nP)) ?_);obtain⟨lA,rF,J⟩:=aB J;obtain⟨kX,J⟩:=bU J;refine go ?_;refine aP rF ?_;refine go ?_;refine bG (u:=.sl 2 0 1 1) (σ':=⟨[(2,.row (c6 lA) 105),(1,.bv c6 ((l7.drop 0).take dB.toNat) 105 2 0),(0,.bv c6 l7 105 2 t8)],3⟩) rfl (wN iJ.h fT.h rfl rfl rfl rfl rfl rfl rfl) ?_;refine bV ?_;obtain⟨yE,J⟩:=bU J;obtain⟨jT,J⟩:=bU J;obtain⟨H3,J⟩:=bU J;refine go ?_;refine bG (u:=.vl 0 t8 (0+dB.toNat) (l7.length-dB.toNat)) rfl (BK rfl (CL rfl) nW nW (U3 c6 iJ.h (bQ fT.h) pU (vo rfl) (Nat.le_of_eq (Nat.zero_add _)) (Mr yE.1 yE.2))) (bG (u:=.vl 1 2 0 (((((l7.drop 0).take dB.toNat)++[lA])++((l7.drop (0+dB.toNat)).take (l7.length-dB.toNat))).length)) (σ':=⟨[(2,.row (c6 lA) 105),(1,.bv c6 ((((l7.drop 0).take dB.toNat)++[lA])++((l7.drop (0+dB.toNat)).take (l7.length-dB.toNat))) 105 2 2),(0,.bv c6 l7 105 2 t8)],3⟩) rfl (m8 rfl rfl rfl rfl (tK c6 ((l7.drop (0+dB.toNat)).take (l7.length-dB.toNat)) iJ.h iJ.h fT.h rfl pU rfl (Cg c6 pU (vo rfl) jT) H3)) ?_);refine go ?_;exact⟨m1,_,_,zN _,⟨(IntKind.i64.wrap (z6+1)),((((l7.drop 0).take dB.toNat)++[lA])++((l7.drop (0+dB.toNat)).take (l7.length-dB.toNat))),2,J,rfl,rfl⟩,NZ,Gh.trans (Gh.sub (l':=[(0,.iM c6 p1),(3,.vl 1 2 0 (((((l7.drop 0).take dB.toNat)++[lA])++((l7.drop (0+dB.toNat)).take (l7.length-dB.toNat))).length)),(4,.i6 (IntKind.i64.wrap (z6+1)))]) ⟨rfl,rfl,rfl,trivial⟩) (Gh.trans (Gh.mv (l':=[(0,.iM c6 p1),(3,.vl 0 2 0 (((((l7.drop 0).take dB.toNat)++[lA])++((l7.drop (0+dB.toNat)).take (l7.length-dB.toNat))).length)),(4,.i6 (IntKind.i64.wrap (z6+1)))]) (h':=[(2,.row (c6 lA) 105),(0,.bv c6 ((((l7.drop 0).take dB.toNat)++[lA])++((l7.drop (0+dB.toNat)).take (l7.length-dB.toNat))) 105 2 2)]) 0 1 NZ rfl rfl (by simp only[rS,rU,dC,FO,pW,Nat.beq,zC,zD]) rfl (by simp only[Ay,rB,PT,dC,rU,FO,Ch,pW,Nat.beq,zC,zD,and_self])) (Gh.toC (n1:=1) ⟨rfl,rfl,rfl,trivial⟩ rfl NZ (by simp)))⟩;rintro(_|m2) _ _ ⟨AE,J,rfl,rfl⟩;cases J;unfold S2 at J;obtain⟨Uc,j8,J⟩:=aB J;refine gn ?_;refine dU (fun tm σ=>tm=fr 52 [(0,.iM c6 p1),(3,.vl 0 t8 0 l7.length),(4,.i6 z6),(5,.i6 AE),(30,.bool Uc)]/\σ=⟨[(0,.bv c6 l7 105 2 t8)],1⟩) ?_ ?_;rintro _ _ ⟨rfl,rfl⟩;refine gF J ?_ ?_<;>intro mU J;refine go ?_;apply aL;refine go ?_;exact lC ⟨_,J,rfl,rfl⟩;refine go ?_;exact xC ⟨AE,J,rfl,rfl⟩;refine dE [] ?_;refine gd ?_;rcases gB j8 with⟨sP,j8⟩|⟨sP,j8⟩;obtain⟨oB,qA,j8⟩:=aB j8;obtain⟨qE,kA,j8⟩:=aB j8;obtain rfl:=sI j8;refine gd ?_;refine RD.w rfl (eJ rfl rfl (lG c6 iJ.h (bQ fT.h) (by decide) pU (vo rfl) qA)) ?_;refine RD.w rfl (qN mI.h rfl (bQ mB.h) rfl (PW rfl) rfl) (RD.w (u:=.i6 oB.Feat) rfl (PI c6 AJ.h rfl pU rfl rfl (PY qA) rfl) ?_);refine gd ?_;refine bY kA ?_;refine gd ?_;refine aZ ⟨by kernel_rfl,trivial,?_⟩;refine go ?_;exact xC ⟨rfl,rfl⟩;obtain rfl:=sI j8;refine gd ?_;refine aZ ⟨by kernel_rfl,trivial,?_⟩;refine go ?_;exact xC ⟨rfl,rfl⟩;refine go ?_;exact xC ⟨l7,t8,J,rfl,rfl⟩
def S9(gC:Int)(bT:Int->(List Int)->(List Int)->Option ((List Int)×(List Int)))(sH:List Int)(SD:List Int):Option ((List Int)×(List Int)):=
 bT (IntKind.i64.wrap (gC+1)) sH SD
def Iq  (l27:List Int) (c9:List Int):Option ((List Int)×(List Int)):=
 some (l27,c9)
def GD(p2:List bS)(eY:List bE)(self:Int->(List bS)->(List Int)->(List Int)->Option ((List Int)×(List Int))):Nat->Int->(List Int)->(List Int)->Option ((List Int)×(List Int))
 |0,_,_,_=>none|m1+1,gC,jR,C2=>
  cond (decide (gC<(eY.length:Int))) (a8 (aC eY gC) fun qE=>
   a8 (aC jR qE.To) fun kC=>cond (decide (kC<0)) (a8 (aC eY gC) fun CB=>
    a8 (self CB.To p2 jR C2) fun AP=>
    S9 gC (GD p2 eY self m1) AP.1 AP.2) (S9 gC (GD p2 eY self m1) jR C2)) (Iq jR C2)
def Im(n:Nat)(self:Int->(List bS)->(List Int)->(List Int)->Option ((List Int)×(List Int)))(p1:Int)(p2:List bS)(p3:List Int)(p5:List Int):Option ((List Int)×(List Int)):=
 a8 (aC p3 p1) fun x7=>
 aH ((p5.length+1)*8<=140737488355328/\p5.length+1<=140737488355328) (
 a8 (aC p2 p1) fun iR=>
 a8 (WN n iR.Arcs) fun eY=>
 GD p2 eY self n 0 (p3.set (0+p1.toNat) (p5.length:Int)) (p5++[p1]))
def DV:Nat->Int->(List bS)->(List Int)->(List Int)->Option ((List Int)×(List Int))
 |0,_,_,_,_=>none|n+1,p1,p2,p3,p5=>Im n (DV n) p1 p2 p3 p5
theorem kf:∀(n:Nat)(p1:Int)(p2:List bS)(p3:List Int)(p5:List Int)(r:(List Int)×(List Int)),DV n p1 p2 p3 p5=some r->∀t4 t6:Nat,aO prog 141 [.ptr 0 0 0,.int .i64 p1] ⟨D4 p2 t4 t6 p3 p5,3⟩ (fun u σ'=>∃t:Nat->Nat,u=.tup []/\σ'=⟨D4 p2 t4 (t 0) r.1 r.2,3⟩)
 |0,p1,p2,p3,p5,r,J=>by cases J
 |n+1,p1,p2,p3,p5,r,J=>by have ih:=kf n;unfold DV Im at J;intro t4 t6;refine dF 62 yP ?_;obtain⟨x7,h8,J⟩:=aB J;refine gn ?_;refine dU (fun tm σ=>tm=fr 62 [(0,.ptr 0 0 0),(1,.i6 p1)]/\σ=⟨D4 p2 t4 t6 (p3.set (0+p1.toNat) (p5.length:Int)) p5,3⟩) ?_ ?_;rintro _ _ ⟨rfl,rfl⟩;obtain⟨h9,J⟩:=bU J;refine go ?_;refine bG (u:=.ptr 0 0 0) rfl (tI rfl rfl) ?_;refine go ?_;refine bV ?_;refine bV ?_;refine bG (u:=.ptr 0 0 0) rfl (tI rfl rfl) ?_;obtain⟨iR,iP,J⟩:=aB J;obtain⟨eY,cX,J⟩:=aB J;refine go ?_;refine bG (u:=.ptr 0 0 0) rfl (tI rfl rfl) ?_;refine go ?_;refine aP iP ?_;refine go ?_;refine i7 (R:=fun u σ'=>u=.vl 4 0 0 eY.length/\σ'=⟨(4,.bv c6 eY 105 2 0)::(3,.row [.i6 p1] 3)::D4 p2 t4 (t6+1) (p3.set (0+p1.toNat) (p5.length:Int)) (p5++[p1]),5⟩) (args:=[.iM c6 iR.Arcs]) rfl (wQ rfl rfl yO hb142 rfl rfl) (aO.own0 c6 (jt n iR.Arcs eY cX) _ 4 rfl) rfl rfl ?_;rintro _ _ ⟨rfl,rfl⟩;refine go ?_;refine gL (fun m tm σ=>∃gC jR,∃C2 TN,GD p2 eY (DV n) m gC jR C2=some r/\tm=fr 62 [(0,.ptr 0 0 0),(4,.vl 4 0 0 eY.length),(5,.i6 gC)]/\σ=⟨(4,.bv c6 eY 105 2 0)::(3,.row [.i6 p1] 3)::D4 p2 t4 TN jR C2,5⟩) (fun tm σ=>∃l27 c9 kK,Iq l27 c9=some r/\tm=fr 62 []/\σ=⟨(4,.bv c6 eY 105 2 0)::(3,.row [.i6 p1] 3)::D4 p2 t4 kK l27 c9,5⟩) n ⟨0,(p3.set (0+p1.toNat) (p5.length:Int)),(p5++[p1]),(t6+1),J,rfl,rfl⟩ ?_ ?_;rintro _ _ ⟨l27,c9,kK,J,rfl,rfl⟩;unfold Iq at J;refine go ?_;obtain rfl:=sI J;exact⟨.inl rfl,[],dX,.tup [],⟨D4 p2 t4 kK l27 c9,3⟩,NL,Gh.to (n1:=3) [] rfl rfl NL NL jC.h BH.h,Wq [kK],rfl,rfl⟩;rintro(_|m1) _ _ ⟨gC,jR,C2,TN,J,rfl,rfl⟩;cases J;unfold GD at J;refine gF J ?_ ?_<;>intro qA J;refine go ?_;apply aL;obtain⟨qE,kA,J⟩:=aB J;obtain⟨kC,j8,J⟩:=aB J;refine go ?_;refine dE [] ?_;refine gd ?_;refine bB (u:=.ptr 0 0 0) rfl (tI rfl rfl) ?_;refine gd ?_;refine bB rfl (eJ rfl rfl (lG c6 iJ.h (bQ fT.h) (by decide) pU (vo rfl) kA)) ?_;refine bB rfl (qN mI.h rfl (bQ mB.h) rfl (PW rfl) rfl) (bB (u:=.i6 qE.To) rfl (PI c6 AJ.h rfl pU rfl rfl (PY kA) rfl) ?_);refine bB rfl (eJ rfl rfl (lG (cI .i64) eC.h (bQ mB.h) (by decide) (nY .i64) (vo rfl) j8)) ?_;refine bB rfl (qQ (cI .i64) (fun x=>.i6 x) AJ.h rfl (fun _=>rfl) rfl rfl j8) ?_;refine gd ?_;refine aZ ⟨by kernel_rfl,trivial,?_⟩;refine gn ?_;refine dU (fun tm σ=>∃sH SD Lj,S9 gC (GD p2 eY (DV n) m1) sH SD=some r/\tm=fr 62 [(0,.ptr 0 0 0),(4,.vl 4 0 0 eY.length),(5,.i6 gC)]/\σ=⟨(4,.bv c6 eY 105 2 0)::(3,.row [.i6 p1] 3)::D4 p2 t4 Lj sH SD,5⟩) ?_ ?_;rintro _ _ ⟨sH,SD,Lj,J,rfl,rfl⟩;unfold S9 at J;refine go ?_;exact lC ⟨_,sH,SD,Lj,J,rfl,rfl⟩;refine cF J ?_ ?_<;>intro mU J;obtain⟨CB,y9,J⟩:=aB J;obtain⟨AP,y8,J⟩:=aB J;refine go ?_;refine bG rfl (eJ rfl rfl (lG c6 iJ.h (bQ fT.h) (by decide) pU (vo rfl) y9)) ?_;refine bG rfl (qN mI.h rfl (bQ mB.h) rfl (PW rfl) rfl) (bG (u:=.i6 CB.To) rfl (PI c6 AJ.h rfl pU rfl rfl (PY y9) rfl) (i7 (args:=[.ptr 0 0 0,.i6 CB.To]) rfl (wQ rfl rfl yP hb141 rfl rfl) (aO.st [0,1,2] (ih CB.To p2 jR C2 AP y8 t4 TN)) rfl rfl ?_));rintro _ _ ⟨P5,rfl,rfl⟩;refine go ?_;exact xC ⟨AP.1,AP.2,(P5 0),J,rfl,rfl⟩;refine go ?_;exact xC ⟨jR,C2,TN,J,rfl,rfl⟩;refine go ?_;exact xC ⟨jR,C2,TN,J,rfl,rfl⟩;refine dE [] ?_;refine gd ?_;refine bB (u:=.ptr 0 0 0) rfl (tI rfl rfl) ?_;refine gd ?_;refine bB (u:=.ptr 0 0 0) rfl (tI rfl rfl) ?_;refine gd ?_;refine bB rfl (eJ rfl rfl (lG (cI .i64) eC.h (bQ mB.h) (by decide) (nY .i64) (vo rfl) h8)) ?_;refine SN (u:=.junk) (σ':=⟨[(0,.row [.iM bM p2,.vl 1 t4 0 p3.length,.vl 2 t6 0 p5.length] 237),(1,.bv (cI .i64) (p3.set (0+p1.toNat) (p5.length:Int)) 3 1 t4),(2,.bv (cI .i64) p5 3 1 t6)],3⟩) rfl (TQ (cI .i64) (bQ mB.h) (nY .i64) rfl rfl rfl rfl rfl rfl rfl (PY h8) rfl) rfl ?_;refine aZ ⟨by kernel_rfl,trivial,?_⟩;refine go ?_;exact⟨_,_,⟨rfl,rfl⟩,NL,C8 ⟨rfl,rfl,trivial⟩ (by simp only[D4,List.length_set])⟩
def WU(mZ:Int)(l27:List bS)(jL:Int->(List bS)->Option (GFS))(kZ:bS)(DY:List bE):Option (GFS):=
 aH ((l27.length+1)*32<=140737488355328/\l27.length+1<=140737488355328) (
 jL (IntKind.i64.wrap (mZ+1)) (l27++[(bS.mk kZ.Typex DY)]))
def L5(gO:(List Int)×(List Int))(mZ:Int)(l27:List bS)(jL:Int->(List bS)->Option (GFS))(kZ:bS):Nat->Int->(List bE)->Option (GFS)
 |0,_,_=>none|m3+1,rI,lK=>
  cond (decide (rI<(lK.length:Int))) (a8 (aC lK rI) fun Kn=>
   a8 (aC gO.1 Kn.To) fun uL=>
   a8 (aC lK rI) fun IQ=>(L5 gO mZ l27 jL kZ m3) (IntKind.i64.wrap (rI+1)) (lK.set (0+rI.toNat) (bE.mk IQ.Feat uL))) (WU mZ l27 jL kZ lK)
def Fx  (MJ:List bS):Option (GFS):=
 some (GFS.mk MJ)
def DF(p1:GFS)(n:Nat)(gO:(List Int)×(List Int)):Nat->Int->(List bS)->Option (GFS)
 |0,_,_=>none|m2+1,mZ,l27=>
  cond (decide (mZ<(gO.2.length:Int))) (a8 (aC gO.2 mZ) fun qD=>
   a8 (aC p1.Nodes qD) fun kZ=>
   a8 (WN n kZ.Arcs) fun P8=>
   L5 gO mZ l27 (DF p1 n gO m2) kZ n 0 P8) (Fx l27)
def WV(p1:GFS)(p2:Int)(n:Nat)(iF:List Int):Option (GFS):=
 a8 (DV n p2 p1.Nodes iF ([]:List Int)) fun gO=>
 DF p1 n gO n 0 ([]:List bS)
def RP(p1:GFS)(p2:Int)(n:Nat):Nat->Int->(List Int)->Option (GFS)
 |0,_,_=>none|m1+1,z9,gX=>cond (decide (z9<(p1.Nodes.length:Int))) (aH ((gX.length+1)*8<=140737488355328/\gX.length+1<=140737488355328) ((RP p1 p2 n m1) (IntKind.i64.wrap (z9+1)) (gX++[(-1)]))) (WV p1 p2 n gX)
def W2(n:Nat)(p1:GFS)(p2:Int):Option (GFS):=
 RP p1 p2 n n 0 ([]:List Int)
theorem dt(n:Nat)(p1:GFS)(p2:Int)(r:GFS)(J:W2 n p1 p2=some r):cE prog 101 [.agg [.isl false (p1.Nodes.map bM)],.int .i64 p2] (.agg [.isl false (r.Nodes.map bM)]):=by
 unfold W2 at J;refine dF 88 I0 ?_;refine gr ?_;refine gr ?_;refine gr ?_;refine cR (tm':=fr 88 [(1,.i6 p2),(2,.ptr 0 0 0),(4,.ptr 1 0 0),(5,.ptr 2 0 0),(6,.i6 0)]) (σ':=⟨(3,.bv (cI .i64) ([]:List Int) 3 1 0)::(2,.row [.iM bM p1.Nodes,.vl 3 0 0 (([]:List Int).length),.nils] 237)::QP p1.Nodes,4⟩) (Gh.trans (vP 2 1 3 1 (by decide) NZ rfl rfl) (C8 ⟨rfl,rfl,rfl,rfl,rfl,trivial⟩ rfl)) NZ ?_;refine gL (fun m tm σ=>∃z9 gX w6,RP p1 p2 n m z9 gX=some r/\tm=fr 88 [(1,.i6 p2),(2,.ptr 0 0 0),(4,.ptr 1 0 0),(5,.ptr 2 0 0),(6,.i6 z9)]/\σ=⟨(3,.bv (cI .i64) gX 3 1 w6)::(2,.row [.iM bM p1.Nodes,.vl 3 w6 0 gX.length,.nils] 237)::QP p1.Nodes,4⟩) (fun tm σ=>∃iF jE,WV p1 p2 n iF=some r/\tm=fr 88 [(1,.i6 p2),(2,.ptr 0 0 0),(4,.ptr 1 0 0),(5,.ptr 2 0 0)]/\σ=⟨(3,.bv (cI .i64) iF 3 1 jE)::(2,.row [.iM bM p1.Nodes,.vl 3 jE 0 iF.length,.nils] 237)::QP p1.Nodes,4⟩) n ⟨0,([]:List Int),0,J,rfl,rfl⟩ ?_ ?_;rintro _ _ ⟨iF,jE,J,rfl,rfl⟩;unfold WV at J;refine gn ?_;refine cR (tm':=fr 88 [(1,.i6 p2),(2,.ptr 0 0 0),(4,.ptr 1 0 0),(5,.ptr 2 0 0)]) (σ':=⟨(4,.bv (cI .i64) ([]:List Int) 3 1 0)::(3,.bv (cI .i64) iF 3 1 jE)::(2,.row [.iM bM p1.Nodes,.vl 3 jE 0 iF.length,.vl 4 0 0 (([]:List Int).length)] 237)::QP p1.Nodes,5⟩) (Gh.trans (vP 2 2 3 1 (by decide) NZ rfl rfl) (C8 ⟨rfl,rfl,rfl,rfl,trivial⟩ rfl)) NZ ?_;obtain⟨gO,gS,J⟩:=aB J;refine go ?_;refine i7 (args:=[.ptr 2 0 0,.i6 p2]) rfl (wQ rfl rfl yP hb141 rfl rfl) (aO.st [2,3,4] (kf n p2 p1.Nodes iF ([]:List Int) gO gS jE 0)) rfl rfl ?_;rintro _ _ ⟨iS,rfl,rfl⟩;refine gr ?_;refine gr ?_;refine cR (tm':=fr 88 [(2,.ptr 0 0 0),(4,.ptr 1 0 0),(5,.ptr 2 0 0),(7,.ptr 5 0 0),(8,.i6 0)]) (σ':=⟨(6,.bv bM ([]:List bS) 79 2 0)::(5,.row [.vl 6 0 0 (([]:List bS).length)] 39)::(4,.bv (cI .i64) gO.2 3 1 (iS 0))::(3,.bv (cI .i64) gO.1 3 1 jE)::(2,.row [.iM bM p1.Nodes,.vl 3 jE 0 gO.1.length,.vl 4 (iS 0) 0 gO.2.length] 237)::QP p1.Nodes,7⟩) (Gh.trans (vP 5 0 79 2 (by decide) NZ rfl rfl) (C8 ⟨rfl,rfl,rfl,rfl,rfl,trivial⟩ rfl)) NZ ?_;refine gL (fun m tm σ=>∃mZ l27 AL,DF p1 n gO m mZ l27=some r/\tm=fr 88 [(2,.ptr 0 0 0),(4,.ptr 1 0 0),(5,.ptr 2 0 0),(7,.ptr 5 0 0),(8,.i6 mZ)]/\σ=⟨D5 l27 AL gO.2 (iS 0) gO.1 jE p1.Nodes p1.Nodes,7⟩) (fun tm σ=>∃MJ Lk,Fx MJ=some r/\tm=fr 88 [(4,.ptr 1 0 0),(7,.ptr 5 0 0)]/\σ=⟨D5 MJ Lk gO.2 (iS 0) gO.1 jE p1.Nodes p1.Nodes,7⟩) n ⟨0,([]:List bS),0,J,rfl,rfl⟩ ?_ ?_;rintro _ _ ⟨MJ,Lk,J,rfl,rfl⟩;unfold Fx at J;refine go ?_;obtain rfl:=sI J;exact rT (us:=[.agg [.vl 6 Lk 0 MJ.length]]) (u:=.agg [.iM bM MJ]) (qL (pP nB.h rfl (bQ oR.h) rfl rfl rfl) (dX)) (fR 6 2);rintro(_|m2) _ _ ⟨mZ,l27,AL,J,rfl,rfl⟩;cases J;unfold DF at J;refine go ?_;refine bG (u:=.ptr 2 0 0) rfl (tI rfl rfl) ?_;refine gF J ?_ ?_<;>intro uA J;refine go ?_;apply aL;obtain⟨qD,sO,J⟩:=aB J;obtain⟨kZ,mU,J⟩:=aB J;refine go ?_;refine dE [(0,11),(1,11),(2,11),(3,11),(4,11),(5,11),(6,11),(7,11),(8,11),(9,11),(10,11)] ?_;refine gd ?_;refine bB (u:=.ptr 2 0 0) rfl (tI rfl rfl) ?_;refine gd ?_;refine bB rfl (eJ rfl rfl (lG (cI .i64) eC.h (bQ mB.h) (by decide) (nY .i64) (vo rfl) sO)) ?_;refine bB rfl (qQ (cI .i64) (fun x=>.i6 x) AJ.h rfl (fun _=>rfl) rfl rfl sO) ?_;refine bY mU ?_;refine gd ?_;refine dT ?_;refine pI ?_;refine aZ ⟨by kernel_rfl,⟨qN nB.h rfl (bQ Sd.h) rfl rfl rfl,⟨CV nC.h rfl rfl rfl rfl,⟨lJ rfl,⟨tI rfl rfl,⟨qN EZ.h rfl (bQ YX.h) rfl rfl rfl,⟨CV eC.h rfl rfl rfl rfl,⟨lJ rfl,⟨eJ rfl rfl (lG (cI .i64) eC.h (bQ mB.h) (by decide) (nY .i64) (vo rfl) sO),⟨qQ (cI .i64) (fun x=>.i6 x) AJ.h rfl (fun _=>rfl) rfl rfl sO,⟨eJ rfl rfl (PZ bM nC.h (bQ mA.h) xa mU rfl),⟨Vn vT.h rfl (bQ mA.h) rfl rfl,trivial⟩⟩⟩⟩⟩⟩⟩⟩⟩⟩⟩,?_⟩;obtain⟨P8,C6,J⟩:=aB J;refine go ?_;refine i7 (R:=fun u σ'=>u=.vl 8 0 0 P8.length/\σ'=⟨(8,.bv c6 P8 105 2 0)::(7,.row (bM kZ) 79)::D5 l27 AL gO.2 (iS 0) gO.1 jE p1.Nodes p1.Nodes,9⟩) (args:=[.iM c6 kZ.Arcs]) rfl (wQ rfl rfl yO hb142 rfl rfl) (aO.own0 c6 (jt n kZ.Arcs P8 C6) _ 8 rfl) rfl rfl ?_;rintro _ _ ⟨rfl,rfl⟩;refine go ?_;refine gL (fun m tm σ=>∃rI lK,L5 gO mZ l27 (DF p1 n gO m2) kZ m rI lK=some r/\tm=fr 88 [(2,.ptr 0 0 0),(4,.ptr 1 0 0),(5,.ptr 2 0 0),(7,.ptr 5 0 0),(8,.i6 mZ),(9,.ptr 7 0 0),(10,.vl 8 0 0 lK.length),(11,.i6 rI)]/\σ=⟨(8,.bv c6 lK 105 2 0)::(7,.row (bM kZ) 79)::D5 l27 AL gO.2 (iS 0) gO.1 jE p1.Nodes p1.Nodes,9⟩) (fun tm σ=>∃DY,WU mZ l27 (DF p1 n gO m2) kZ DY=some r/\tm=fr 88 [(2,.ptr 0 0 0),(4,.ptr 1 0 0),(5,.ptr 2 0 0),(7,.ptr 5 0 0),(8,.i6 mZ),(9,.ptr 7 0 0),(10,.vl 8 0 0 DY.length)]/\σ=⟨(8,.bv c6 DY 105 2 0)::(7,.row (bM kZ) 79)::D5 l27 AL gO.2 (iS 0) gO.1 jE p1.Nodes p1.Nodes,9⟩) n ⟨0,P8,J,rfl,rfl⟩ ?_ ?_;rintro _ _ ⟨DY,J,rfl,rfl⟩;unfold WU at J;refine gn ?_;refine cR (tm':=fr 88 [(2,.ptr 0 0 0),(4,.ptr 1 0 0),(5,.ptr 2 0 0),(7,.ptr 5 0 0),(8,.i6 mZ),(9,.ptr 7 0 0),(10,.iM c6 DY)]) (σ':=⟨(7,.row (bM kZ) 79)::D5 l27 AL gO.2 (iS 0) gO.1 jE p1.Nodes p1.Nodes,9⟩) (Gh.trans (Gh.sub (l':=[(2,.ptr 0 0 0),(4,.ptr 1 0 0),(5,.ptr 2 0 0),(7,.ptr 5 0 0),(8,.i6 mZ),(9,.ptr 7 0 0),(10,.vl 8 0 0 DY.length)]) ⟨rfl,rfl,rfl,rfl,rfl,rfl,rfl,trivial⟩) (IH 8 2)) NZ ?_;obtain⟨Jf,J⟩:=bU J;refine go ?_;refine bV ?_;refine bV ?_;refine go ?_;exact lC ⟨_,(l27++[(bS.mk kZ.Typex DY)]),(AL+1),J,rfl,rfl⟩;rintro(_|m3) _ _ ⟨rI,lK,J,rfl,rfl⟩;cases J;unfold L5 at J;refine gF J ?_ ?_<;>intro Je J;refine go ?_;apply aL;obtain⟨Kn,Jd,J⟩:=aB J;obtain⟨uL,ZF,J⟩:=aB J;obtain⟨IQ,Jc,J⟩:=aB J;refine gn ?_;refine dU (fun tm σ=>tm=fr 88 [(2,.ptr 0 0 0),(4,.ptr 1 0 0),(5,.ptr 2 0 0),(7,.ptr 5 0 0),(8,.i6 mZ),(9,.ptr 7 0 0),(10,.vl 8 0 0 ((lK.set (0+rI.toNat) (bE.mk IQ.Feat uL)).length)),(11,.i6 rI)]/\σ=⟨(8,.bv c6 (lK.set (0+rI.toNat) (bE.mk IQ.Feat uL)) 105 2 0)::(7,.row (bM kZ) 79)::D5 l27 AL gO.2 (iS 0) gO.1 jE p1.Nodes p1.Nodes,9⟩) ?_ ?_;rintro _ _ ⟨rfl,rfl⟩;refine go ?_;exact lC ⟨_,(lK.set (0+rI.toNat) (bE.mk IQ.Feat uL)),J,rfl,rfl⟩;refine dE [] ?_;refine gd ?_;refine bB (u:=.ptr 2 0 0) rfl (tI rfl rfl) ?_;refine gd ?_;refine bB rfl (eJ rfl rfl (lG c6 iJ.h (bQ fT.h) (by decide) pU (vo rfl) Jd)) ?_;refine bB rfl (qN mI.h rfl (bQ mB.h) rfl (PW rfl) rfl) (bB (u:=.i6 Kn.To) rfl (PI c6 AJ.h rfl pU rfl rfl (PY Jd) rfl) ?_);refine bB rfl (eJ rfl rfl (lG (cI .i64) eC.h (bQ mB.h) (by decide) (nY .i64) (vo rfl) ZF)) ?_;refine bB rfl (qQ (cI .i64) (fun x=>.i6 x) AJ.h rfl (fun _=>rfl) rfl rfl ZF) ?_;refine bB rfl (eJ rfl rfl (lG c6 iJ.h (bQ fT.h) (by decide) pU (vo rfl) Jc)) ?_;refine bB rfl (qN mI.h rfl (bQ mB.h) rfl (PW rfl) rfl) (SN (u:=.junk) (σ':=⟨(8,.bv c6 (lK.set (0+rI.toNat) (bE.mk IQ.Feat uL)) 105 2 0)::(7,.row (bM kZ) 79)::D5 l27 AL gO.2 (iS 0) gO.1 jE p1.Nodes p1.Nodes,9⟩) rfl (st_vf (y:=(bE.mk IQ.Feat uL)) c6 (bQ mB.h) pU rfl rfl rfl rfl rfl rfl (PY Jc) rfl rfl) rfl ?_);refine aZ ⟨by kernel_rfl,trivial,?_⟩;refine go ?_;exact⟨_,_,⟨rfl,rfl⟩,NZ,C8 ⟨rfl,rfl,rfl,rfl,rfl,rfl,(by simp only[QP,D5,List.length_set];rfl),rfl,trivial⟩ rfl⟩;refine go ?_;exact xC ⟨lK,J,rfl,rfl⟩;refine go ?_;exact xC ⟨l27,AL,J,rfl,rfl⟩;rintro(_|m1) _ _ ⟨z9,gX,w6,J,rfl,rfl⟩;cases J;unfold RP at J;refine gF J ?_ ?_<;>intro z_ J;refine go ?_;apply aL;obtain⟨pZ,J⟩:=bU J;refine go ?_;refine bG (u:=.ptr 2 0 0) rfl (tI rfl rfl) ?_;refine go ?_;refine bV ?_;refine bV ?_;refine bG (u:=.ptr 2 0 0) rfl (tI rfl rfl) ?_;refine go ?_;exact lC ⟨_,(gX++[(-1)]),(w6+1),J,rfl,rfl⟩;refine go ?_;exact xC ⟨gX,w6,J,rfl,rfl⟩
end Go.Proofs
namespace Go.Proofs
open Go Go.Rx Go.Vx Tryz
instance:TbP prog tb:=⟨tb_ok⟩
set_option maxRecDepth 20000
set_option maxHeartbeats 4000000
set_option synthInstance.maxSize 4000
set_option synthInstance.maxHeartbeats 200000
abbrev Dx(a)(b)(c:B):=([(2,.row [.iM bM a] 39),(1,.row [.iM bM b] 39),(0,c)]:List (Nat×B))
def S7(n:Nat): Option (dY):=
 a8 (WX n) fun r3=>
 a8 (DG n r3) fun r5=>some (dY.mk r5.1.Types r5.1.Feats)
def Ib(n:Nat)(p1:List aT):Option (dY):=
 cond (decide ((p1.length:Int)<=12)) (a8 (DG n p1) fun r7=>cond (r7.2==0) (some (dY.mk r7.1.Types r7.1.Feats)) (S7 n)) (S7 n)
theorem nj(n:Nat)(p1:List aT)(r:dY)(J:Ib n p1=some r):cE prog 9 [.isl false (p1.map aX)] (.agg (iY r)):=by
 unfold Ib at J;refine gY 24 vn ?_;refine gr ?_;refine gr ?_;refine dU (fun tm σ=>S7 n=some r/\tm=fr 24 [(2,.ptr 0 0 0)]/\σ=⟨[(0,.row [.nils,.nils] 27)],1⟩) ?_ ?_;rintro _ _ ⟨J,rfl,rfl⟩;unfold S7 at J;obtain⟨r3,h4,J⟩:=aB J;obtain⟨r5,h6,J⟩:=aB J;refine go ?_;refine aI rfl (pC (iw n r3 h4) _) Ai (aI rfl (pC (Rg n r3 r5 h6) _) EE ?_);refine go ?_;obtain rfl:=sI J;exact rT (qL (pP nD.h rfl (bQ u6.h) rfl rfl rfl) (dX)) (vN _ rfl);refine cF J ?_ ?_<;>intro h2 J;obtain⟨r7,h8,J⟩:=aB J;refine go ?_;refine aI rfl (pC (Rg n p1 r7 h8) _) EE ?_;refine gF J ?_ ?_<;>intro h9 J;refine go ?_;obtain rfl:=sI J;exact rT (qL (pP nD.h rfl (bQ u6.h) rfl rfl rfl) (dX)) (vN _ rfl);refine go ?_;exact xC ⟨J,rfl,rfl⟩;refine go ?_;exact xC ⟨J,rfl,rfl⟩
def Gm: Option (Bool):=
 some true
def RV(p1:GFS):Nat->Int->Option (Bool)
 |0,_=>none|m1+1,z5=>cond (decide (z5<(p1.Nodes.length:Int))) (a8 (aC p1.Nodes z5) fun x7=>cond (decide ((x7.Arcs.length:Int)>12)) (some false) ((RV p1 m1) (IntKind.i64.wrap (z5+1)))) (Gm)
def W9(n:Nat)(p1:GFS):Option (Bool):=
 cond (decide ((p1.Nodes.length:Int)>12)) (some false) (RV p1 n 0)
theorem fm(n:Nat)(p1:GFS)(r:Bool)(J:W9 n p1=some r):cE prog 41 [.agg [.isl false (p1.Nodes.map bM)]] (.bool r):=by
 unfold W9 at J;refine gY 23 Ag ?_;refine gF J ?_ ?_<;>intro h2 J;exact gx J;refine go ?_;refine gL (fun m tm σ=>∃z5,RV p1 m z5=some r/\tm=fr 23 [(1,.ptr 0 0 0),(3,.i6 z5)]/\σ=⟨[(0,.row [.iM bM p1.Nodes] 39)],1⟩) (fun tm σ=>Gm=some r/\tm=fr 23 []/\σ=⟨[(0,.row [.iM bM p1.Nodes] 39)],1⟩) n ⟨0,J,rfl,rfl⟩ ?_ ?_;rintro _ _ ⟨J,rfl,rfl⟩;unfold Gm at J;exact gx J;rintro(_|m1) _ _ ⟨z5,J,rfl,rfl⟩;cases J;unfold RV at J;refine gF J ?_ ?_<;>intro h6 J;refine go ?_;apply aL;obtain⟨x7,h8,J⟩:=aB J;refine go ?_;refine aP h8 ?_;refine gF J ?_ ?_<;>intro h9 J;exact gx J;refine go ?_;exact lC ⟨_,J,rfl,rfl⟩;refine go ?_;exact xC ⟨J,rfl,rfl⟩
def Fv(z6:Int)(bT:Int->Option (Int)): Option (Int):=
 bT (IntKind.i64.wrap (z6+1))
def RO(p1:List bE)(z6:Int)(bT:Int->Option (Int)):Nat->Int->Option (Int)
 |0,_=>none|m2+1,gC=>cond (decide (gC<z6)) (a8 (aC p1 gC) fun AG=>a8 (aC p1 z6) fun uM=>cond (AG.Feat==uM.Feat) (some 4) ((RO p1 z6 bT m2) (IntKind.i64.wrap (gC+1)))) (Fv z6 bT)
def Fw: Option (Int):=
 some 0
def DE(p1:List bE)(p2:Int)(n:Nat):Nat->Int->Option (Int)
 |0,_=>none|m1+1,z6=>cond (decide (z6<(p1.length:Int))) (a8 (a8 (aC p1 z6) fun x8=>cond (decide (x8.Feat<0)) (some true) (a8 (aC p1 z6) fun mG=>cond (decide (mG.To<0)) (some true) (a8 (aC p1 z6) fun nR=>some (decide (nR.To>=p2))))) fun Uf=>cond Uf (some 2) (RO p1 z6 (DE p1 p2 n m1) n 0)) (Fw)
def Es(n:Nat)(p1:List bE)(p2:Int):Option (Int):=
 DE p1 p2 n n 0
theorem dr(n:Nat)(p1:List bE)(p2:Int)(r:Int)(J:Es n p1 p2=some r):cE prog 140 [.isl false (p1.map c6),.int .i64 p2] (.int .i64 r):=by
 unfold Es at J;refine dF 52 HL ?_;refine go ?_;refine gL (fun m tm σ=>∃z6,DE p1 p2 n m z6=some r/\tm=fr 52 [(0,.iM c6 p1),(1,.i6 p2),(5,.i6 z6)]/\σ=⟨[],0⟩) (fun tm σ=>Fw=some r/\tm=fr 52 []/\σ=⟨[],0⟩) n ⟨0,J,rfl,rfl⟩ ?_ ?_;rintro _ _ ⟨J,rfl,rfl⟩;unfold Fw at J;exact gx J;rintro(_|m1) _ _ ⟨z6,J,rfl,rfl⟩;cases J;unfold DE at J;refine gF J ?_ ?_<;>intro h7 J;refine go ?_;apply aL;obtain⟨Uf,fD,J⟩:=aB J;refine gn ?_;refine dU (fun tm σ=>tm=fr 52 [(0,.iM c6 p1),(1,.i6 p2),(5,.i6 z6),(35,.bool Uf)]/\σ=⟨[],0⟩) ?_ ?_;rintro _ _ ⟨rfl,rfl⟩;refine gF J ?_ ?_<;>intro cO J;exact gx J;refine go ?_;refine gL (fun m tm σ=>∃gC,RO p1 z6 (DE p1 p2 n m1) m gC=some r/\tm=fr 52 [(0,.iM c6 p1),(1,.i6 p2),(5,.i6 z6),(6,.i6 gC)]/\σ=⟨[],0⟩) (fun tm σ=>Fv z6 (DE p1 p2 n m1)=some r/\tm=fr 52 [(0,.iM c6 p1),(1,.i6 p2),(5,.i6 z6)]/\σ=⟨[],0⟩) n ⟨0,J,rfl,rfl⟩ ?_ ?_;rintro _ _ ⟨J,rfl,rfl⟩;unfold Fv at J;refine go ?_;exact lC ⟨_,J,rfl,rfl⟩;rintro(_|m2) _ _ ⟨gC,J,rfl,rfl⟩;cases J;unfold RO at J;refine gF J ?_ ?_<;>intro kX J;refine go ?_;apply aL;obtain⟨AG,jT,J⟩:=aB J;obtain⟨uM,sP,J⟩:=aB J;refine go ?_;refine dE [] ?_;refine gd ?_;refine bY jT ?_;refine gd ?_;refine bY sP ?_;refine gd ?_;refine aZ ⟨by kernel_rfl,trivial,?_⟩;refine gF J ?_ ?_<;>intro mV J;exact gx J;refine go ?_;exact lC ⟨_,J,rfl,rfl⟩;refine go ?_;exact xC ⟨J,rfl,rfl⟩;obtain⟨x8,h9,fD⟩:=aB fD;refine go ?_;refine aP h9 ?_;refine go ?_;rcases gB fD with⟨fA,fD⟩|⟨fA,fD⟩;exact gy fD;obtain⟨mG,eW,fD⟩:=aB fD;refine go ?_;refine aP eW ?_;refine go ?_;rcases gB fD with⟨cX,fD⟩|⟨cX,fD⟩;exact gy fD;obtain⟨nR,gS,fD⟩:=aB fD;obtain rfl:=sI fD;refine go ?_;refine aP gS ?_;refine go ?_;exact xC ⟨rfl,rfl⟩;refine go ?_;exact xC ⟨J,rfl,rfl⟩
def Fu: Option (Int):=
 some 0
def RN(p1:GFS)(n:Nat):Nat->Int->Option (Int)
 |0,_=>none|m1+1,z6=>cond (decide (z6<(p1.Nodes.length:Int))) (a8 (aC p1.Nodes z6) fun x8=>cond (decide (x8.Typex<0)) (some 2) (a8 (aC p1.Nodes z6) fun mG=>a8 (Es n mG.Arcs (p1.Nodes.length:Int)) fun i8=>cond (i8 != 0) (some i8) ((RN p1 n m1) (IntKind.i64.wrap (z6+1))))) (Fu)
def W0(n:Nat)(p1:GFS):Option (Int):=
 cond ((p1.Nodes.length:Int)==0) (some 1) (cond (decide ((p1.Nodes.length:Int)>4096)) (some 7) (RN p1 n n 0))
theorem dq(n:Nat)(p1:GFS)(r:Int)(J:W0 n p1=some r):cE prog 100 [.agg [.isl false (p1.Nodes.map bM)]] (.int .i64 r):=by
 unfold W0 at J;refine gY 40 I1 ?_;refine gF J ?_ ?_<;>intro h2 J;exact gx J;refine gF J ?_ ?_<;>intro h3 J;exact gx J;refine go ?_;refine gL (fun m tm σ=>∃z6,RN p1 n m z6=some r/\tm=fr 40 [(1,.ptr 0 0 0),(3,.i6 z6)]/\σ=⟨[(0,.row [.iM bM p1.Nodes] 39)],1⟩) (fun tm σ=>Fu=some r/\tm=fr 40 []/\σ=⟨[(0,.row [.iM bM p1.Nodes] 39)],1⟩) n ⟨0,J,rfl,rfl⟩ ?_ ?_;rintro _ _ ⟨J,rfl,rfl⟩;unfold Fu at J;exact gx J;rintro(_|m1) _ _ ⟨z6,J,rfl,rfl⟩;cases J;unfold RN at J;refine gF J ?_ ?_<;>intro h7 J;refine go ?_;apply aL;obtain⟨x8,h9,J⟩:=aB J;refine go ?_;refine aP h9 ?_;refine gF J ?_ ?_<;>intro fA J;exact gx J;obtain⟨mG,eW,J⟩:=aB J;obtain⟨i8,fE,J⟩:=aB J;refine go ?_;refine dE [] ?_;refine gd ?_;refine bY eW ?_;refine gd ?_;refine gZ rfl (pC (dr n mG.Arcs (p1.Nodes.length:Int) i8 fE)) HL ?_;refine gd ?_;refine aZ ⟨by kernel_rfl,trivial,?_⟩;refine gF J ?_ ?_<;>intro gS J;exact gx J;refine go ?_;exact lC ⟨_,J,rfl,rfl⟩;refine go ?_;exact xC ⟨J,rfl,rfl⟩
def WA(n:Nat)(p1:GFS):Option (GFS×Int):=
 a8 (W0 n p1) fun r2=>cond (r2 != 0) (some ((GFS.mk []),r2)) (a8 (W2 n p1 0) fun r5=>some (r5,0))
theorem fq(n:Nat)(p1:GFS)(r:GFS×Int)(J:WA n p1=some r):cE prog 63 [.agg [.isl false (p1.Nodes.map bM)]] (.tup [.agg [.isl false (r.1.Nodes.map bM)],.int .i64 r.2]):=by
 unfold WA at J;refine gY 13 ZY ?_;obtain⟨r2,h3,J⟩:=aB J;refine go ?_;refine aI rfl (pC (dq n p1 r2 h3) _) I1 ?_;refine gF J ?_ ?_<;>intro h4 J;refine go ?_;obtain rfl:=sI J;exact rT (us:=[.agg [.nils],.i6 r2]) (u:=.tup [.agg [.isl false []],.i6 r2]) (qL (pP nB.h rfl (bQ oR.h) rfl rfl rfl) (dO rfl (dX))) wR;obtain⟨r5,h6,J⟩:=aB J;refine go ?_;refine aI rfl (pC (dt n p1 0 r5 h6) _) I0 ?_;refine go ?_;obtain rfl:=sI J;exact rT (qL (pP nB.h rfl (bQ oR.h) rfl rfl rfl) (dO rfl (dX))) (vN _ rfl)
def Gn(iI:Int)(bT:Int->Option (Int)): Option (Int):=
 bT (IntKind.i64.wrap (iI+1))
def RW(p1:dY)(iI:Int)(bT:Int->Option (Int))(fU:bS):Nat->Int->Option (Int)
 |0,_=>none|m2+1,eX=>cond (decide (eX<(fU.Arcs.length:Int))) (a8 (aC fU.Arcs eX) fun oB=>cond (decide (oB.Feat>=(p1.Feats.length:Int))) (some 2) ((RW p1 iI bT fU m2) (IntKind.i64.wrap (eX+1)))) (Gn iI bT)
def RX(p2:GFS)(n:Nat)(r3:GFS×Int): Option (Int):=
 a8 (G1 n p2 (GFS.mk r3.1.Nodes)) fun eY=>cond (!eY) (some 3) (some 0)
def G5(p1:dY)(p2:GFS)(n:Nat)(r3:GFS×Int):Nat->Int->Option (Int)
 |0,_=>none|m1+1,iI=>cond (decide (iI<(p2.Nodes.length:Int))) (a8 (aC p2.Nodes iI) fun fU=>cond (decide (fU.Typex>=(p1.Types.length:Int))) (some 2) (RW p1 iI (G5 p1 p2 n r3 m1) fU n 0)) (RX p2 n r3)
def R5(n:Nat)(p1:dY)(p2:GFS):Option (Int):=
 a8 (WA n p2) fun r3=>cond (r3.2 != 0) (some r3.2) (G5 p1 p2 n r3 n 0)
theorem fp(n:Nat)(p1:dY)(p2:GFS)(r:Int)(J:R5 n p1 p2=some r):cE prog 42 [.agg (iY p1),.agg [.isl false (p2.Nodes.map bM)]] (.int .i64 r):=by
 unfold R5 at J;refine dF 57 Af ?_;obtain⟨r3,h4,J⟩:=aB J;refine go ?_;refine aI rfl (pC (fq n p2 r3 h4) _) ZY ?_;refine gF J ?_ ?_<;>intro h5 J;exact gx J;refine go ?_;refine gL (fun m tm σ=>∃iI,G5 p1 p2 n r3 m iI=some r/\tm=fr 57 [(2,.ptr 0 0 0),(3,.ptr 1 0 0),(5,.ptr 2 0 0),(7,.i6 iI)]/\σ=⟨Dx r3.1.Nodes p2.Nodes (.row (iY p1) 27),3⟩) (fun tm σ=>RX p2 n r3=some r/\tm=fr 57 [(3,.ptr 1 0 0),(5,.ptr 2 0 0)]/\σ=⟨Dx r3.1.Nodes p2.Nodes (.row (iY p1) 27),3⟩) n ⟨0,J,rfl,rfl⟩ ?_ ?_;rintro _ _ ⟨J,rfl,rfl⟩;unfold RX at J;obtain⟨eY,cX,J⟩:=aB J;refine go ?_;refine aI rfl (pC (Qw n p2 (GFS.mk r3.1.Nodes) eY cX) _) EF ?_;refine gF J ?_ ?_<;>intro fE J;exact gx J;exact gx J;rintro(_|m1) _ _ ⟨iI,J,rfl,rfl⟩;cases J;unfold G5 at J;refine gF J ?_ ?_<;>intro gS J;refine go ?_;apply aL;obtain⟨fU,fD,J⟩:=aB J;refine go ?_;refine aP fD ?_;refine gF J ?_ ?_<;>intro cO J;exact gx J;refine go ?_;refine gL (fun m tm σ=>∃eX,RW p1 iI (G5 p1 p2 n r3 m1) fU m eX=some r/\tm=fr 57 [(2,.ptr 0 0 0),(3,.ptr 1 0 0),(5,.ptr 2 0 0),(7,.i6 iI),(8,.ptr 3 0 0),(9,.i6 eX)]/\σ=⟨(3,.row (bM fU) 79)::Dx r3.1.Nodes p2.Nodes (.row (iY p1) 27),4⟩) (fun tm σ=>Gn iI (G5 p1 p2 n r3 m1)=some r/\tm=fr 57 [(2,.ptr 0 0 0),(3,.ptr 1 0 0),(5,.ptr 2 0 0),(7,.i6 iI)]/\σ=⟨(3,.row (bM fU) 79)::Dx r3.1.Nodes p2.Nodes (.row (iY p1) 27),4⟩) n ⟨0,J,rfl,rfl⟩ ?_ ?_;rintro _ _ ⟨J,rfl,rfl⟩;unfold Gn at J;refine go ?_;exact lC ⟨_,J,rfl,rfl⟩;rintro(_|m2) _ _ ⟨eX,J,rfl,rfl⟩;cases J;unfold RW at J;refine gF J ?_ ?_<;>intro sP J;refine go ?_;apply aL;obtain⟨oB,qA,J⟩:=aB J;refine go ?_;refine dE [] ?_;refine gd ?_;refine bY qA ?_;refine gd ?_;refine aZ ⟨by kernel_rfl,trivial,?_⟩;refine gF J ?_ ?_<;>intro uA J;exact gx J;refine go ?_;exact lC ⟨_,J,rfl,rfl⟩;refine go ?_;exact xC ⟨J,rfl,rfl⟩;refine go ?_;exact xC ⟨J,rfl,rfl⟩
def Gk: Option (Bool):=
 some true
def RT(p1:dY)(p2:List GFS)(n:Nat):Nat->Int->Option (Bool)
 |0,_=>none|m1+1,z8=>cond (decide (z8<(p2.length:Int))) (a8 (aC p2 z8) fun iR=>a8 (a8 (W9 n iR) fun eY=>cond (!eY) (some true) (a8 (R5 n p1 iR) fun nF=>some (nF != 0))) fun pF=>cond pF (some false) ((RT p1 p2 n m1) (IntKind.i64.wrap (z8+1)))) (Gk)
def Qf(n:Nat)(p1:dY)(p2:List GFS):Option (Bool):=
 RT p1 p2 n n 0
theorem fh(n:Nat)(p1:dY)(p2:List GFS)(r:Bool)(J:Qf n p1 p2=some r):cE prog 17 [.agg (iY p1),.isl false (p2.map fV)] (.bool r):=by
 unfold Qf at J;refine dF 23 Aj ?_;refine go ?_;refine gL (fun m tm σ=>∃z8,RT p1 p2 n m z8=some r/\tm=fr 23 [(2,.ptr 0 0 0),(7,.iM fV p2),(8,.i6 (p2.length:Int)),(9,.i6 z8)]/\σ=⟨[(0,.row (iY p1) 27)],1⟩) (fun tm σ=>Gk=some r/\tm=fr 23 []/\σ=⟨[(0,.row (iY p1) 27)],1⟩) n ⟨0,J,rfl,rfl⟩ ?_ ?_;rintro _ _ ⟨J,rfl,rfl⟩;unfold Gk at J;exact gx J;rintro(_|m1) _ _ ⟨z8,J,rfl,rfl⟩;cases J;unfold RT at J;refine gF J ?_ ?_<;>intro h9 J;refine go ?_;apply aL;obtain⟨iR,iP,J⟩:=aB J;refine go ?_;refine aP iP ?_;obtain⟨pF,cO,J⟩:=aB J;refine gn ?_;refine dU (fun tm σ=>tm=fr 23 [(2,.ptr 0 0 0),(7,.iM fV p2),(8,.i6 (p2.length:Int)),(9,.i6 z8),(21,.bool pF)]/\σ=⟨[(1,.row [.iM bM iR.Nodes] 39),(0,.row (iY p1) 27)],2⟩) ?_ ?_;rintro _ _ ⟨rfl,rfl⟩;refine gF J ?_ ?_<;>intro g8 J;exact gx J;refine go ?_;exact lC ⟨_,J,rfl,rfl⟩;obtain⟨eY,cX,cO⟩:=aB cO;refine go ?_;refine aI rfl (pC (fm n iR eY cX) _) Ag ?_;refine go ?_;rcases gB cO with⟨fE,cO⟩|⟨fE,cO⟩;exact gy cO;obtain⟨nF,rG,cO⟩:=aB cO;obtain rfl:=sI cO;refine go ?_;refine aI rfl (pC (fp n p1 iR nF rG) _) Af ?_;refine go ?_;exact xC ⟨rfl,rfl⟩;refine go ?_;exact xC ⟨J,rfl,rfl⟩
end Go.Proofs
namespace Go.Proofs
open Go Go.Rx Go.Vx Go.Shelf Go.Sort
theorem Qr:∀a b:List UInt8,gE a b=true↔a=b
 |[],[]=>by simp[gE]
 |[],_::_=>by simp[gE]
 |_::_,[]=>by simp[gE]
 |x::a,y::b=>by have h:(x.toNat=y.toNat)↔x=y:=UInt8.toNat_inj;simp only[gE,beq_eq];by_cases e:x=y;subst e;simp[Qr a b];simp[e,mt h.1 e]
theorem ub(a b:Nat):Nat.blt a b=true↔a<b:=by
 unfold Nat.blt;rw[Nat.ble_eq];exact Iff.rfl
theorem lS(a b:Nat):Nat.blt a b=decide (a<b):=by
 rw[Bool.eq_iff_iff,ub];simp
theorem ju:∀a:List UInt8,fS a a=false
 |[]=>rfl|x::a=>by simp[fS,lS,ju a]
theorem jq:∀a b c:List UInt8,fS a b=true->fS b c=true->fS a c=true
 |_,[],_,h,_=>by simp[fS]at h
 |_,_::_,[],_,h=>by simp[fS]at h
 |[],_::_,_::_,_,_=>by simp[fS]
 |x::a,y::b,z::c,h1,h2=>by
  simp only[fS,lS,beq_eq]at*;by_cases h:x.toNat<y.toNat;by_cases h':y.toNat<z.toNat;have:x.toNat<z.toNat:=by omega
  simp[this];simp only[h',yB,zD]at h2;by_cases e:y.toNat=z.toNat;have:x.toNat<z.toNat:=by omega
  simp[this];simp[e]at h2;simp only[h,yB,zD]at h1;by_cases e:x.toNat=y.toNat;simp only[e,yC,zC]at h1;by_cases h':y.toNat<z.toNat;simp[e,h'];simp only[h',yB,zD]at h2;by_cases e':y.toNat=z.toNat;simp only[e',yC,zC]at h2;have:=jq a b c h1 h2;simp[e,e',this];simp[e']at h2;simp[e]at h1
theorem jr:∀a b:List UInt8,fS a b=false->fS b a=false->a=b
 |[],[],_,_=>rfl|[],_::_,h,_=>by simp[fS]at h
 |_::_,[],_,h=>by simp[fS]at h
 |x::a,y::b,h1,h2=>by
  simp only[fS,lS,beq_eq]at*;by_cases h:x.toNat<y.toNat;simp[h]at h1;by_cases h':y.toNat<x.toNat;simp[h']at h2;have e:x.toNat=y.toNat:=by omega
  simp only[e,Nat.lt_irrefl,yB,zD,yC,zC]at h1 h2;rw[jr a b h1 h2,UInt8.toNat_inj.1 e]
variable{α:Type}
theorem aM{β:Type}(a:α)(k:α->Option β):a8 (some a) k=k a:=rfl
theorem wr{z:Int}(h1 : -9223372036854775808<=z)(h2:z<=9223372036854775807):IntKind.i64.wrap z=z:=kR (by omega) (by omega)
variable{i:Nat}
theorem mH{len:Nat}(h:i<len)(hl:len<=9223372036854775807):IntKind.i64.wrap ((i:Int)+1)=((i+1:Nat):Int):=by rw[wr (by omega) (by omega)];simp
theorem IU{z:Int}{k:Nat}(h:z=k)(h2:k<=9223372036854775807):IntKind.i64.wrap z=(k:Int):=by subst h;exact wr (by omega) (by omega)
variable{l:List α}
theorem fB(h:i<l.length):∃x,l[i]? = some x/\x∈l:=⟨l[i],by simp[h],by simp⟩
variable{x:α}
theorem gQ(h:l[i]? = some x):l.take (i+1)=l.take i++[x]:=by rw[List.take_add_one,h];rfl
theorem aR(h:l[i]? = some x):l.drop i=x::l.drop (i+1):=by
 have hlt:i<l.length:=(zG.1 h).1;rw[List.drop_eq_getElem_cons hlt];congr 1;rw[List.getElem?_eq_getElem hlt]at h;exact Option.some.inj h
theorem kB{n:Nat}(h:i<n):decide ((i:Int)<(n:Int))=true:=by simp;omega
theorem kL{n:Nat}(h:¬ i<n):decide ((i:Int)<(n:Int))=false:=by simp;omega
theorem bP(h:¬ i<l.length):l.drop i=[]:=List.drop_eq_nil_of_le (by omega)
structure Cmp{α:Type}(c:α->α->Int):Prop where
 val:∀x y,c x y= -1\/c x y=0\/c x y=1
 anti:∀x y,c y x= - c x y
 trans:∀x y z,c x y<=0->c y z<=0->c x z<=0
variable{c:α->α->Int}
theorem Cmp.self(h:Cmp c)(x:α):c x x=0:=by have:=h.anti x x;omega
variable{y:α}
theorem Cmp.congr(h:Cmp c)(hxy:c x y=0)(z:α):c x z=c y z:=by
 have h1:=h.val x z;have h2:=h.val y z;have a1:=h.anti x y;have a2:=h.anti x z;have a3:=h.anti y z;have t1:=h.trans x y z;have t2:=h.trans y x z;have t3:=h.trans z x y;have t4:=h.trans z y x;omega
theorem Cmp.congr'(h:Cmp c)(hxy:c x y=0)(z:α):c z x=c z y:=by
 have h1:=h.congr hxy z;have a2:=h.anti x z;have a3:=h.anti y z;omega
theorem Cmp.lt_of(h:Cmp c){z:α}(h1:c x y<0)(h2:c y z<=0):c x z<0:=by
 have t1:=h.trans x y z (by omega) h2;rcases Int.lt_or_eq_of_le t1 with h3 |h3;exact h3;have:=h.congr h3 y;have a3:=h.anti y z;omega
def uV{α:Type}(c d:α->α->Int)(x y:α):Int:=if c x y≠0 then c x y else d x y
theorem Cmp.lex{d:α->α->Int}(hc:Cmp c)(hd:Cmp d):Cmp (uV c d) where
 val x y:=by unfold uV;split;exact hc.val x y;exact hd.val x y
 anti x y:=by
  unfold uV;have a1:=hc.anti x y;have a2:=hd.anti x y;by_cases h:c x y=0;have:c y x=0:=by omega
  simp[h,this,a2];have:¬ c y x=0:=by omega
  simp[h,this,a1]
 trans x y z h1 h2:=by
  unfold uV at*;by_cases h:c x y=0;have e:=hc.congr h z;simp only[h,ne_eq,not_true,if_false]at h1;rw[e];by_cases h':c y z=0;simp only[h',ne_eq,not_true,if_false]at h2 ⊢;exact hd.trans x y z h1 h2;simp only[h',ne_eq,not_false_eq_true,if_true]at h2 ⊢;exact h2;simp only[h,ne_eq,not_false_eq_true,if_true]at h1;have mW:c x y<0:=by omega
  by_cases h':c y z=0;have e:=hc.congr' h' x;rw[<-e];simp only[h,ne_eq,not_false_eq_true,if_true];exact h1;simp only[h',ne_eq,not_false_eq_true,if_true]at h2;have:=hc.lt_of mW h2;have hne:¬ c x z=0:=by omega
  simp only[hne,ne_eq,not_false_eq_true,if_true];omega
theorem Pq{d:α->α->Int}:uV c d x y=0↔c x y=0/\d x y=0:=by
 unfold uV;by_cases h:c x y=0<;>simp[h]
theorem Cmp.pull{β:Type}(h:Cmp c)(f:β->α):Cmp (fun x y=>c (f x) (f y)):=⟨fun x y=>h.val _ _,fun x y=>h.anti _ _,fun x y z=>h.trans _ _ _⟩
def jO(a b:Int):Int:=if a<b then -1 else if b<a then 1 else 0
theorem VX{a b:Int}:jO a b=0↔a=b:=by
 unfold jO;split;omega;split<;>omega
theorem QH:Cmp jO where
  val x y := by unfold jO; split; · simp
                split<;>simp
  anti x y:=by unfold jO;split<;>split<;>(try split)<;>omega
  trans x y z:=by unfold jO;intro h1 h2;split at h1<;>split at h2<;>(try split at h1)<;>(try split at h2)<;>(try split)<;>(try split)<;>omega
theorem su(c:α->α->Int)(x y:α):ltOf c x y=true↔c x y<0:=by simp[ltOf]
theorem Cmp.swo(h:Cmp c):SWO (ltOf c) where
 irrefl x:=by have:=h.self x;simp[ltOf,this]
 trans x y z h1 h2:=by rw[su]at*;exact h.lt_of h1 (by omega)
 ntrans x y z h1 h2:=by
  have e:∀a b,ltOf c a b=false↔c b a<=0:=fun a b=>by have:=h.anti a b;simp[ltOf];omega
  rw[e]at*;exact h.trans z y x h2 h1
section
variable{α:Type}{c:α->α->Int}
theorem JV(hc:Cmp c)(l:List α):(srt (ltOf c) l).Pairwise (fun x y=>c x y<=0):=by
 have:=Ww hc.swo l;refine List.Pairwise.imp ?_ this;intro x y h;have:=hc.anti x y;simp[ltOf]at h;omega
end
end Go.Proofs
namespace Go.Proofs
open Go Go.Rx Go.Vx Go.Shelf Go.Sort
set_option maxRecDepth 10000
def j4{α:Type}(c:α->α->Int):List α->List α->Int
 |[],[]=>0|[],_::_=>-1
 |_::_,[]=>1|x::xs,y::ys=>if c x y≠0 then c x y else j4 c xs ys
theorem Cmp.list{α:Type}{c:α->α->Int}(h:Cmp c):Cmp (j4 c) where
 val:=by
  intro x;induction x with
  |nil=>intro y;cases y<;>simp[j4]|cons a x ih=>intro y;rcases y with _|⟨b,y⟩;simp[j4];simp only[j4];split;exact h.val a b;exact ih y
 anti:=by
  intro x;induction x with
  |nil=>intro y;cases y<;>simp[j4]|cons a x ih=>
   intro y;rcases y with _|⟨b,y⟩;simp[j4];simp only[j4];have a1:=h.anti a b;have a2:=ih y;by_cases e:c a b=0;have:c b a=0:=by omega
   simp[e,this,a2];have:¬ c b a=0:=by omega
   simp[e,this,a1]
 trans:=by
  intro x;induction x with
  |nil=>intro y z h1 h2;cases z<;>simp[j4]|cons a x ih=>
   intro y z h1 h2;rcases y with _|⟨b,y⟩;simp[j4]at h1;rcases z with _|⟨d,z⟩;simp[j4]at h2;simp only[j4]at*;by_cases e:c a b=0;have e2:=h.congr e d;simp only[e,ne_eq,not_true,if_false]at h1;rw[e2];by_cases e3:c b d=0;simp only[e3,ne_eq,not_true,if_false]at h2 ⊢;exact ih y z h1 h2;simp only[e3,ne_eq,not_false_eq_true,if_true]at h2 ⊢;exact h2;simp only[e,ne_eq,not_false_eq_true,if_true]at h1;have mW:c a b<0:=by omega
   by_cases e3:c b d=0;have e4:=h.congr' e3 a;rw[<-e4];simp only[e,ne_eq,not_false_eq_true,if_true];exact h1;simp only[e3,ne_eq,not_false_eq_true,if_true]at h2;have:=h.lt_of mW h2;have hne:¬ c a d=0:=by omega
   simp only[hne,ne_eq,not_false_eq_true,if_true];omega
theorem Pp{α:Type}{c:α->α->Int}:∀{xs ys:List α},(∀x∈xs,∀y,c x y=0->x=y)->j4 c xs ys=0->xs=ys
 |[],[],_,_=>rfl|[],_::_,_,h=>by simp[j4]at h
 |_::_,[],_,h=>by simp[j4]at h
 |x::xs,y::ys,hc,h=>by simp only[j4]at h;by_cases e:c x y=0;simp only[e,ne_eq,not_true,if_false]at h;rw[hc x (by simp) y e,Pp (fun a ha=>hc a (by simp[ha])) h];simp[e]at h
def EH:bE->bE->Int:=uV (fun x y=>jO x.Feat y.Feat) (fun x y=>jO x.To y.To)
theorem OM:Cmp EH:=(QH.pull _).lex (QH.pull _)
theorem gz{x y:bE}(h:EH x y=0):x=y:=by
 simp only[EH,Pq,VX]at h;cases x;cases y;simp only at h;obtain⟨rfl,rfl⟩:=h;rfl
def I6:bS->bS->Int:=uV (uV (fun x y=>jO x.Typex y.Typex) (fun x y=>jO x.Arcs.length y.Arcs.length)) (fun x y=>j4 EH x.Arcs y.Arcs)
theorem OJ:Cmp I6:=((QH.pull _).lex (QH.pull (fun x:bS=>(x.Arcs.length:Int)))).lex (OM.list.pull _)
theorem gw{x y:bS}(h:I6 x y=0):x=y:=by
 simp only[I6,Pq,VX]at h;have:=Pp (fun a _ b h=>gz h) h.2;cases x;cases y;simp only at h this;obtain⟨⟨rfl,_⟩,_⟩:=h;subst this;rfl
def OL:GFS->GFS->Int:=uV (fun x y=>jO x.Nodes.length y.Nodes.length) (fun x y=>j4 I6 x.Nodes y.Nodes)
theorem OK:Cmp OL:=(QH.pull (fun x:GFS=>(x.Nodes.length:Int))).lex (OJ.list.pull _)
theorem qk{x y:GFS}:OL x y=0↔x=y:=⟨fun h=>by
 simp only[OL,Pq,VX]at h;have:=Pp (fun a _ b h=>gw h) h.2;cases x;cases y;simp only at this;subst this;rfl,fun h=>by subst h;exact OK.self x⟩
structure cA(f:GFS)(k:Nat):Prop where
 nodes:f.Nodes.length<=k
 arcs:∀x∈f.Nodes,x.Arcs.length<=k
def AX(l:List bE):List Int:=l.flatMap fun a=>[a.Feat,a.To]
def FD(x:bS):List Int:=[x.Typex,(x.Arcs.length:Int)]++AX x.Arcs
def wB(f:GFS):List Int:=(f.Nodes.length:Int)::f.Nodes.flatMap FD
theorem Pd:∀l:List bE,(AX l).length=2*l.length
 |[]=>rfl|a::l=>by have:=Pd l;simp only[AX,List.flatMap_cons,zU,zO,zS]at*;omega
theorem Xu{x:bS}{i:Int}{rc:Int->List Int->Option (List Int)}(hx:x.Arcs.length<=1000000):∀(m k:Nat)(acc:List Int),x.Arcs.length-k<m->k<=x.Arcs.length->acc.length+2*(x.Arcs.length-k)<=1000000000->
  S5 i rc x m k acc=rc (IntKind.i64.wrap (i+1)) (acc++AX (x.Arcs.drop k))
 |0,k,acc,hm,_,_=>by omega
 |m+1,k,acc,hm,hk,ha=>by
  unfold S5;by_cases hlt:k<x.Arcs.length;obtain⟨a,h1,_⟩:=fB hlt;have hn:(acc.length+2)*8<=140737488355328/\acc.length+2<=140737488355328:=by omega
  simp only[kB hlt,zC,cP,h1,aM,aH,hn,and_self,if_true,mH hlt (show x.Arcs.length<=9223372036854775807 by omega)];rw[Xu hx m (k+1) _ (by omega) (by omega) (by simp only[zU,zO,zS];omega),aR h1];simp[AX];simp only[kL hlt,zD,Ic,bP hlt,AX,List.flatMap_nil,List.append_nil]
theorem Xv{f:GFS}{n:Nat}(hf:cA f 1000)(hn:1001<=n):∀(m i:Nat)(acc:List Int),f.Nodes.length-i<m->i<=f.Nodes.length->acc.length+2002*(f.Nodes.length-i)<=900000000->
  DT f n m i acc=some (acc++(f.Nodes.drop i).flatMap FD)
 |0,i,acc,hm,_,_=>by omega
 |m+1,i,acc,hm,hi,ha=>by
  unfold DT;have hl:=hf.nodes;by_cases hlt:i<f.Nodes.length;obtain⟨x,hx,hxm⟩:=fB hlt;have h2:=hf.arcs x hxm;have hn:(acc.length+2)*8<=140737488355328/\acc.length+2<=140737488355328:=by omega
  have h0:=Xu (i:=(i:Int)) (rc:=DT f n m) (x:=x) (by omega) n 0 (acc++[x.Typex,(x.Arcs.length:Int)]) (by omega) (by omega) (by simp only[zU,zO,zS];omega);rw[zV,List.drop_zero]at h0;simp only[kB hlt,zC,cP,hx,aM,aH,hn,and_self,if_true,h0,mH hlt (show f.Nodes.length<=9223372036854775807 by omega)];rw[Xv hf (by omega) m (i+1) _ (by omega) (by omega) (by simp only[zU,zO,zS,Pd];omega),aR hx];simp[FD];simp only[kL hlt,zD,Ie,bP hlt,List.flatMap_nil,List.append_nil]
variable{f:GFS}
variable{n:Nat}
theorem Xt(hf:cA f 1000)(hn:1001<=n):RM n f=some (wB f):=by
 have hl:=hf.nodes;have:=Xv hf hn n 0 [(f.Nodes.length:Int)] (by omega) (by omega) (by simp only[zO,zS];omega);rw[zV,List.drop_zero]at this;simp only[RM,this,wB,List.singleton_append]
def qH:List Int->List Int->Int
 |x::xs,y::ys=>if jO x y≠0 then jO x y else qH xs ys|_,_=>0
theorem Za{l m:List Int}(hl:l.length<=1000000000):∀(n i:Nat),l.length-i<n->i<=l.length->S6 l m n i=some (qH (l.drop i) (m.drop i))
 |0,i,hn,_=>by omega
 |n+1,i,hn,hi=>by unfold S6;by_cases h1:i<l.length;obtain⟨x,hx,_⟩:=fB h1;by_cases h2:i<m.length;obtain⟨y,hy,_⟩:=fB h2;simp only[kB h1,kB h2,zC,aM,cP,hx,hy,mH h1 (show l.length<=9223372036854775807 by omega),aR hx,aR hy,qH,jO];by_cases h3:x<y;simp[h3];by_cases h4:y<x;simp[h3,h4];simp only[h3,h4,yB,zD,if_false,ne_eq,not_true,gt_iff_lt];exact Za hl n (i+1) (by omega) (by omega);simp only[kB h1,kL h2,zC,zD,aM,XK,aR hx,bP h2,qH];simp only[kL h1,zD,aM,XK,bP h1,qH]
theorem sk{k:Nat}(hf:cA f k):(wB f).length<=1+f.Nodes.length*(2+2*k):=by
 have:∀l:List bS,(∀x∈l,x.Arcs.length<=k)->(l.flatMap FD).length<=l.length*(2+2*k):=by
  intro l;induction l with
  |nil=>intro _;simp|cons x l ih=>
   intro h;have h1:=ih fun y hy=>h y (List.mem_cons_of_mem _ hy);have h2:=h x (by simp);have h3:(l.length+1)*(2+2*k)=l.length*(2+2*k)+(2+2*k):=by rw[Nat.add_mul,Nat.one_mul]
   simp only[List.flatMap_cons,zU,FD,zO,zS,Pd];rw[h3];omega
 have:=this f.Nodes hf.arcs;simp only[wB,zO];omega
theorem ec{g:GFS}(hf:cA f 1000)(hg:cA g 1000)(hn:3000000<=n):WW n f g=some (qH (wB f) (wB g)):=by
 have h1:=sk hf;have h2:=hf.nodes;have h3:f.Nodes.length*(2+2*1000)<=1000*(2+2*1000):=Nat.mul_le_mul_right _ h2;have:=Za (l:=wB f) (m:=wB g) (by omega) n 0 (by omega) (by omega);rw[zV,List.drop_zero,List.drop_zero]at this;simp only[WW,Xt hf (show 1001<=n by omega),Xt hg (show 1001<=n by omega),aM,this]
theorem zl{c d:List Int}:∀{xs ys:List bE},xs.length=ys.length->qH (AX xs++c) (AX ys++d)=if j4 EH xs ys≠0 then j4 EH xs ys else qH c d
 |[],[],_=>by simp[AX,j4]
 |[],_::_,h=>by simp at h
 |_::_,[],h=>by simp at h
 |x::xs,y::ys,h=>by simp only[zO,Nat.add_right_cancel_iff]at h;have ih:=zl (c:=c) (d:=d) h;simp only[AX,List.flatMap_cons,List.cons_append,List.nil_append,qH,j4]at ih ⊢;rw[ih];unfold EH uV;by_cases e:jO x.Feat y.Feat=0;by_cases e2:jO x.To y.To=0<;>simp[e,e2];simp[e]
theorem wy{c d:List Int}:∀{xs ys:List bS},xs.length=ys.length->qH (xs.flatMap FD++c) (ys.flatMap FD++d)=if j4 I6 xs ys≠0 then j4 I6 xs ys else qH c d
 |[],[],_=>by simp[j4]
 |[],_::_,h=>by simp at h
 |_::_,[],h=>by simp at h
 |x::xs,y::ys,h=>by
  simp only[zO,Nat.add_right_cancel_iff]at h;have ih:=wy (c:=c) (d:=d) h;simp only[List.flatMap_cons,FD,zT,List.cons_append,List.nil_append,qH,j4];have hN:I6 x y=(if(if jO x.Typex y.Typex≠0 then jO x.Typex y.Typex else jO (x.Arcs.length:Int) y.Arcs.length)≠0 then(if jO x.Typex y.Typex≠0 then jO x.Typex y.Typex else jO (x.Arcs.length:Int) y.Arcs.length)else j4 EH x.Arcs y.Arcs):=rfl;simp only[hN];by_cases e:jO x.Typex y.Typex=0;by_cases e2:jO (x.Arcs.length:Int) y.Arcs.length=0;have hl:x.Arcs.length=y.Arcs.length:=by have:=VX.1 e2;omega
  simp only[e,e2,ne_eq,not_true,if_false];rw[zl hl,ih];by_cases e3:j4 EH x.Arcs y.Arcs=0<;>simp[e3];simp[e,e2];simp[e]
theorem ua(f g:GFS):qH (wB f) (wB g)=OL f g:=by
 simp only[wB,qH,OL];unfold uV;by_cases e:jO (f.Nodes.length:Int) g.Nodes.length=0;have hl:f.Nodes.length=g.Nodes.length:=by have:=VX.1 e;omega
 have:=wy (c:=[]) (d:=[]) hl;simp only[List.append_nil,qH]at this;simp only[e,ne_eq,not_true,if_false,this];by_cases e2:j4 I6 f.Nodes g.Nodes=0<;>simp[e2];simp[e]
theorem Yz{g:GFS}(hf:cA f 1000)(hg:cA g 1000)(hn:3000000<=n):G1 n f g=some (OL f g==0):=by
 simp only[G1,ec hf hg hn,aM,ua]
theorem Zx{f:GFS}(hl:f.Nodes.length<=12):∀(m i:Nat),f.Nodes.length-i<m->i<=f.Nodes.length->∃b,RV f m i=some b/\(b=true->∀x∈f.Nodes.drop i,x.Arcs.length<=12)
 |0,i,hm,_=>by omega
 |m+1,i,hm,hi=>by unfold RV;by_cases hlt:i<f.Nodes.length;obtain⟨x,hx,_⟩:=fB hlt;simp only[kB hlt,zC,cP,hx,aM,mH hlt (show f.Nodes.length<=9223372036854775807 by omega)];by_cases h:(x.Arcs.length:Int)>12;simp only[h,yC,zC];exact⟨false,rfl,fun h=>by cases h⟩;simp only[h,yB,zD];obtain⟨b,h1,h2⟩:=Zx hl m (i+1) (by omega) (by omega);refine⟨b,h1,fun hb=>?_⟩;rw[aR hx];intro y hy;rcases zI.1 hy with rfl |hy;omega;exact h2 hb y hy;simp only[kL hlt,zD,Gm,bP hlt];exact⟨true,rfl,fun _ x hx=>by cases hx⟩
theorem pe(f:GFS)(hn:20<=n):∃b,W9 n f=some b/\(b=true->cA f 12):=by
 unfold W9;by_cases h:(f.Nodes.length:Int)>12;simp only[h,yC,zC];exact⟨false,rfl,fun h=>by cases h⟩;simp only[h,yB,zD];obtain⟨b,h1,h2⟩:=Zx (f:=f) (by omega) n 0 (by omega) (by omega);rw[zV]at h1;rw[List.drop_zero]at h2;exact⟨b,h1,fun hb=>⟨by omega,h2 hb⟩⟩
theorem cA.up{k k':Nat}(h:cA f k)(hk:k<=k'):cA f k':=⟨by have:=h.nodes;omega,fun x hx=>by have:=h.arcs x hx;omega⟩
def cF(a b:bE):Int:=jO a.Feat b.Feat
theorem As:Cmp cF:=QH.pull bE.Feat
def nT(l:List bE):List bE:=srt (ltOf cF) l
theorem D8(l:List bE):(nT l).Perm l:=QM _ l
def rH(l:List bE):Prop:=l.Pairwise (fun a b=>a.Feat≠b.Feat)
variable{l:List bE}
theorem rH.perm{m:List bE}(h:l.Perm m)(hd:rH l):rH m:=(h.pairwise_iff (fun{a b} h=>Ne.symm h)).1 hd
def lT(l:List bE):Prop:=l.Pairwise (fun a b=>a.Feat<b.Feat)
theorem At{a b:bE}:cF a b<=0↔a.Feat<=b.Feat:=by
 unfold cF jO;by_cases h1:a.Feat<b.Feat;simp[h1];omega;by_cases h2:b.Feat<a.Feat;simp[h1,h2];simp[h1,h2];omega
theorem Da(h:rH l):lT (nT l):=by
 have h1:=JV As l;have h2:rH (nT l):=h.perm (D8 l).symm;refine(List.Pairwise.and h1 h2).imp fun{a b} h=>?_;have:=At.1 h.1;have:=h.2;omega
theorem Yp:∀{a b:List bE},lT a->lT b->a.Perm b->a=b
 |[],b,_,_,h=>(List.nil_perm.1 h).symm|x::a,[],_,_,h=>by have:=h.length_eq;simp at this
 |x::a,y::b,ha,hb,h=>by
  obtain⟨h1,h2⟩:=List.pairwise_cons.1 ha;obtain⟨h3,h4⟩:=List.pairwise_cons.1 hb;have hxy:x=y:=by rcases zI.1 (h.mem_iff.1 (List.mem_cons_self))with hx |hx;exact hx;rcases zI.1 (h.mem_iff.2 (List.mem_cons_self))with hy |hy;exact hy.symm;have h5:=h1 y hy;have h6:=h3 x hx;omega
  subst hxy;rw[Yp h2 h4 (h.cons_inv)]
theorem Wx{m:List bE}(hd:rH l)(h:m.Perm l)(hm:lT m):nT l=m:=Yp (Da hd) hm ((D8 l).trans h.symm)
theorem lT.dis(h:lT l):rH l:=h.imp fun{a b} h=>by omega
structure Un(x:bS)(N:Nat):Prop where
 ty:0<=x.Typex
 dis:rH x.Arcs
 arc:∀a∈x.Arcs,0<=a.Feat/\0<=a.To/\a.To<N
def qB(f:GFS):Prop:=∀x∈f.Nodes,Un x f.Nodes.length
def nd(f:GFS)(v:Int):bS:=(f.Nodes[v.toNat]?).getD (bS.mk 0 [])
def kY(f:GFS)(v:Int):Prop:=0<=v/\v<f.Nodes.length
variable{f:GFS}
variable{v:Int}
theorem PD(h:kY f v):aC f.Nodes v=some (nd f v)/\nd f v∈f.Nodes:=by
 have hv:v.toNat<f.Nodes.length:=by have:=h.1;have:=h.2;omega
 have h1:0<=v/\v<(f.Nodes.length:Int):=h;simp[aC,h1,nd,hv]
def sar(f:GFS)(v:Int):List bE:=nT (nd f v).Arcs
theorem FN{a:bE}:a∈sar f v↔a∈(nd f v).Arcs:=(D8 _).mem_iff
def iA(g:List Int->Int->List Int)(o:List Int)(a:bE):List Int:=if a.To∈o then o else g o a.To
def dfs(f:GFS):Nat->List Int->Int->List Int
 |0,o,_=>o|k+1,o,v=>(sar f v).foldl (iA (dfs f k)) (o++[v])
structure Seen(f:GFS)(o:List Int):Prop where
 nd:o.Nodup
 ing:∀v∈o,kY f v
theorem xm:∀(N:Nat){o:List Int},o.Nodup->(∀v∈o,0<=v/\v<N)->o.length<=N
 |0,o,_,h=>by rcases o with _|⟨v,o⟩;simp;have:=h v (by simp);omega
 |N+1,o,hn,h=>by
  have h1:=xm N (o:=o.filter (fun v=>v != (N:Int))) (hn.filter _) fun v hv=>by rw[List.mem_filter]at hv;have:=h v hv.1;have h2:=hv.2;simp at h2;omega
  have h2:o.length<=(o.filter (fun v=>v != (N:Int))).length+1:=by
   clear h1 h;induction o with
   |nil=>simp|cons x o ih=>
    obtain⟨h3,h4⟩:=List.nodup_cons.1 hn;have:=ih h4;by_cases e:x=N;subst e;have:o.filter (fun v=>v != (N:Int))=o:=List.filter_eq_self.2 fun v hv=>by simp only[bne_iff_ne,ne_eq];intro e;subst e;exact h3 hv
    simp[this];have e2:(x != (N:Int))=true:=by simpa using e
    rw[List.filter_cons_of_pos (by simpa using e)];simp only[zO];omega
  omega
theorem Seen.len{o:List Int}(h:Seen f o):o.length<=f.Nodes.length:=xm _ h.nd h.ing
theorem Seen.snoc{o:List Int}(h:Seen f o)(hv:kY f v)(hn:v ∉ o):Seen f (o++[v]):=⟨by
 rw[List.nodup_append];refine⟨h.nd,by simp,?_⟩;intro a ha b hb;simp at hb;subst hb;intro e;subst e;exact hn ha,fun u hu=>by
 rcases yD.1 hu with hu |hu;exact h.ing u hu;simp at hu;subst hu;exact hv⟩
theorem Cu{f:GFS}(hg:qB f):∀(k:Nat)(o:List Int)(v:Int),Seen f o->kY f v->v ∉ o->f.Nodes.length-o.length<=k->
  Seen f (dfs f k o v)/\(∃t,dfs f k o v=o++v::t)/\(∀u∈dfs f k o v,u ∉ o->∀a∈(nd f u).Arcs,a.To∈dfs f k o v)/\(∀k',f.Nodes.length-o.length<=k'->dfs f k' o v=dfs f k o v)
 |0,o,v,hs,hv,hn,hk=>by have h1:=(hs.snoc hv hn).len;simp only[zU,zO,zS]at h1;omega
 |k+1,o,v,hs,hv,hn,hk=>by
  have C3:=hs.snoc hv hn;have C4:=C3.len;simp only[zU,zO,zS]at C4;have key:∀(l:List bE),(∀a∈l,kY f a.To)->∀(p:List Int),Seen f p->(∃t,p=o++v::t)->(∀u∈p,u ∉ o->u≠v->∀a∈(nd f u).Arcs,a.To∈p)->
    Seen f (l.foldl (iA (dfs f k)) p)/\(∃t,l.foldl (iA (dfs f k)) p=p++t)/\(∀u∈l.foldl (iA (dfs f k)) p,u ∉ o->u≠v->∀a∈(nd f u).Arcs,a.To∈l.foldl (iA (dfs f k)) p)/\(∀a∈l,a.To∈l.foldl (iA (dfs f k)) p)/\
     (∀k',f.Nodes.length-(o.length+1)<=k'->l.foldl (iA (dfs f k')) p=l.foldl (iA (dfs f k)) p):=by
   intro l;induction l with
   |nil=>intro _ p hp hpre hcl;exact⟨hp,⟨[],by simp⟩,hcl,⟨fun a ha=>(List.not_mem_nil ha).elim,fun _ _=>rfl⟩⟩|cons a l ih=>
    intro hl p hp hpre hcl;have hla:=hl a (by simp);have hll:=fun b hb=>hl b (List.mem_cons_of_mem a hb);simp only[List.foldl_cons];by_cases hm:a.To∈p;have e:∀k',iA (dfs f k') p a=p:=fun k'=>by simp[iA,hm]
    simp only[e];obtain⟨g1,⟨t,g2⟩,g3,g4,g5⟩:=ih hll p hp hpre hcl;refine⟨g1,⟨t,g2⟩,g3,fun b hb=>?_,g5⟩;rcases zI.1 hb with rfl |hb;rw[g2];exact List.mem_append_left _ hm;exact g4 b hb;have e:∀k',iA (dfs f k') p a=dfs f k' p a.To:=fun k'=>by simp[iA,hm]
    obtain⟨t0,hpre⟩:=hpre;have hpl:o.length+1<=p.length:=by rw[hpre];simp
    obtain⟨d1,⟨t1,d2⟩,d3,d4⟩:=Cu hg k p a.To hp hla hm (by omega);have hsub:∀u∈p,u∈dfs f k p a.To:=fun u hu=>by rw[d2];exact List.mem_append_left _ hu
    obtain⟨g1,⟨t,g2⟩,g3,g4,g5⟩:=ih hll (dfs f k p a.To) d1 ⟨t0++a.To::t1,by rw[d2,hpre];simp⟩ (fun u hu h1 h2 b hb=>by by_cases hup:u∈p;exact hsub _ (hcl u hup h1 h2 b hb);exact d3 u hu hup b hb);rw[e k];refine⟨g1,⟨a.To::t1++t,by rw[g2,d2];simp⟩,g3,fun b hb=>?_,fun k' hk'=>?_⟩;rcases zI.1 hb with rfl |hb;rw[g2,d2];simp;exact g4 b hb;rw[e k',d4 k' (by omega)];exact g5 k' hk'
  have hla:∀a∈sar f v,kY f a.To:=fun a ha=>by have h1:=(hg _ (PD hv).2).arc a (FN.1 ha);exact⟨h1.2.1,h1.2.2⟩
  obtain⟨g1,⟨t,g2⟩,g3,g4,g5⟩:=key (sar f v) hla (o++[v]) C3 ⟨[],rfl⟩ (fun u hu h1 h2=>by rcases yD.1 hu with hu |hu;exact absurd hu h1;simp at hu;exact absurd hu h2);refine⟨g1,⟨t,by show(sar f v).foldl _ _=_;rw[g2];simp⟩,fun u hu h1 a ha=>?_,fun k' hk'=>?_⟩;by_cases e:u=v;subst e;exact g4 a (FN.2 ha);exact g3 u hu h1 e a ha;cases k' with
  |zero=>omega|succ k'=>exact g5 k' (by omega)
def mM(f:GFS)(r:Int):List Int:=dfs f f.Nodes.length [] r
theorem Seen.nil(f:GFS):Seen f []:=⟨List.nodup_nil,fun v hv=>by cases hv⟩
structure IE(f:GFS)(r:Int)(o:List Int):Prop where
 seen:Seen f o
 head:∃t,o=r::t
 clo:∀u∈o,∀a∈(nd f u).Arcs,a.To∈o
theorem QA(hg:qB f){r:Int}(hr:kY f r):IE f r (mM f r)/\∀k,f.Nodes.length<=k->dfs f k [] r=mM f r:=by
 obtain⟨h1,⟨t,h2⟩,h3,h4⟩:=Cu hg f.Nodes.length [] r (Seen.nil f) hr (by simp) (by simp);exact⟨⟨h1,⟨t,by have h5:=h2;rw[List.nil_append]at h5;exact h5⟩,fun u hu=>h3 u hu (by simp)⟩,fun k hk=>h4 k (by simpa using hk)⟩
def kM(o:List Int)(a:bE):bE:=⟨a.Feat,(o.idxOf a.To:Int)⟩
def kO(f:GFS)(o:List Int)(v:Int):bS:=⟨(nd f v).Typex,(sar f v).map (kM o)⟩
def j6(f:GFS)(r:Int):GFS:=⟨(mM f r).map (kO f (mM f r))⟩
theorem JX{α:Type}(a b:List α)(x y:α):(a++x::b).set a.length y=a++y::b:=by simp
def tD(N:Nat)(seen:List Int):List bE->Int
 |[]=>0|a::l=>if a.Feat<0\/a.To<0\/a.To>=(N:Int)then 2 else if a.Feat∈seen then 4 else tD N (a.Feat::seen) l
def uE(N:Nat)(x:bS):Int:=if x.Typex<0 then 2 else tD N [] x.Arcs
theorem zz{N:Nat}:∀{l:List bE}{seen:List Int},tD N seen l=0↔(∀a∈l,0<=a.Feat/\0<=a.To/\a.To<N)/\rH l/\∀a∈l,a.Feat ∉ seen
 |[],seen=>by simp[tD,rH]
 |a::l,seen=>by
  simp only[tD];by_cases h1:a.Feat<0\/a.To<0\/a.To>=(N:Int);simp only[h1,if_true];refine⟨fun h=>absurd h (by decide),fun h=>?_⟩;have:=h.1 a (by simp);omega;by_cases h2:a.Feat∈seen;simp only[h1,h2,if_true,if_false];exact⟨fun h=>absurd h (by decide),fun h=>absurd h2 (h.2.2 a (by simp))⟩;simp only[h1,h2,if_false];rw[zz (l:=l)];unfold rH;rw[List.pairwise_cons];constructor;rintro⟨g1,g2,g3⟩;refine⟨fun b hb=>?_,⟨fun b hb=>?_,g2⟩,fun b hb=>?_⟩;rcases zI.1 hb with rfl |hb;omega;exact g1 b hb;have:=g3 b hb;simp only[zI,not_or]at this;exact fun e=>this.1 e.symm
  rcases zI.1 hb with rfl |hb;exact h2;have:=g3 b hb;simp only[zI,not_or]at this;exact this.2;rintro⟨g1,⟨g2,g3⟩,g4⟩;refine⟨fun b hb=>g1 b (by simp[hb]),g3,fun b hb=>?_⟩;simp only[zI,not_or];exact⟨fun e=>g2 b hb e.symm,g4 b (by simp[hb])⟩
theorem zw{N:Nat}{x:bS}:uE N x=0↔Un x N:=by
 unfold uE;by_cases h:x.Typex<0;simp only[h,if_true];exact⟨fun h=>absurd h (by decide),fun h'=>by have:=h'.ty;omega⟩;simp only[h,if_false];rw[zz];exact⟨fun⟨h1,h2,_⟩=>⟨by omega,h2,h1⟩,fun h=>⟨h.arc,h.dis,fun _ _=>by simp⟩⟩
def ET(N:Nat):List bS->Int
 |[]=>0|x::l=>if uE N x≠0 then uE N x else ET N l
theorem zx{N:Nat}:∀{l:List bS},ET N l=0↔∀x∈l,Un x N
 |[]=>by simp[ET]
 |x::l=>by simp only[ET];by_cases h:uE N x=0;simp only[h,ne_eq,not_true,if_false,zx (l:=l),zI,forall_eq_or_imp,zw.1 h,true_and];simp only[h,ne_eq,not_false_eq_true,if_true,zI,forall_eq_or_imp,false_iff,not_and];exact fun h2=>absurd (zw.2 h2) h
def wC(f:GFS):Int:=if f.Nodes.length=0 then 1 else if f.Nodes.length>4096 then 7 else ET f.Nodes.length f.Nodes
variable{f:GFS}
theorem zy:wC f=0↔f.Nodes.length≠0/\f.Nodes.length<=4096/\qB f:=by
 unfold wC;by_cases h0:f.Nodes.length=0;simp[h0];by_cases h1:f.Nodes.length>4096;simp[h0,h1];intro _;omega;simp only[h0,h1,if_false,zx];exact⟨fun h=>⟨by simpa using h0,by omega,h⟩,fun h=>h.2.2⟩
structure kH(f g:GFS)(π:Int->Int)(S:Int->Prop):Prop where
 clo:∀v,S v->∀a∈sar f v,S a.To
 inj:∀u v,S u->S v->π u=π v->u=v
 ty:∀v,S v->(nd g (π v)).Typex=(nd f v).Typex
 arc:∀v,S v->sar g (π v)=(sar f v).map fun a=>⟨a.Feat,π a.To⟩
theorem kH.dfs{f g:GFS}{π:Int->Int}{S:Int->Prop}(h:kH f g π S):∀(k:Nat)(o:List Int)(v:Int),S v->(∀u∈o,S u)->dfs g k (o.map π) (π v)=(Go.Proofs.dfs f k o v).map π/\∀u∈Go.Proofs.dfs f k o v,S u
 |0,o,v,hv,ho=>⟨rfl,ho⟩|k+1,o,v,hv,ho=>by
  have key:∀(l:List bE)(p:List Int),(∀a∈l,S a.To)->(∀u∈p,S u)->
    (l.map fun a=>(⟨a.Feat,π a.To⟩:bE)).foldl (iA (Go.Proofs.dfs g k)) (p.map π)=(l.foldl (iA (Go.Proofs.dfs f k)) p).map π/\∀u∈l.foldl (iA (Go.Proofs.dfs f k)) p,S u:=by
   intro l;induction l with
   |nil=>intro p _ hp;exact⟨rfl,hp⟩|cons a l ih=>
    intro p hl hp;have hla:=hl a (by simp);simp only[zQ,List.foldl_cons];have hm:π a.To∈p.map π↔a.To∈p:=by rw[List.mem_map];exact⟨fun⟨u,hu,e⟩=>by rw[<-h.inj u a.To (hp u hu) hla e];exact hu,fun hu=>⟨_,hu,rfl⟩⟩
    by_cases hin:a.To∈p;have e1:iA (Go.Proofs.dfs g k) (p.map π) (⟨a.Feat,π a.To⟩:bE)=p.map π:=by simp only[iA,hm.2 hin,if_true]
    have e2:iA (Go.Proofs.dfs f k) p a=p:=by simp only[iA,hin,if_true]
    rw[e1,e2];exact ih p (fun b hb=>hl b (List.mem_cons_of_mem _ hb)) hp;have e1:iA (Go.Proofs.dfs g k) (p.map π) (⟨a.Feat,π a.To⟩:bE)=Go.Proofs.dfs g k (p.map π) (π a.To):=by simp only[iA,mt hm.1 hin,if_false]
    have e2:iA (Go.Proofs.dfs f k) p a=Go.Proofs.dfs f k p a.To:=by simp only[iA,hin,if_false]
    obtain⟨g1,g2⟩:=kH.dfs h k p a.To hla hp;rw[e1,e2,g1];exact ih _ (fun b hb=>hl b (List.mem_cons_of_mem _ hb)) g2
  have ol:∀u∈o++[v],S u:=fun u hu=>by rcases yD.1 hu with hu |hu;exact ho u hu;simp at hu;subst hu;exact hv
  have:=key (sar f v) (o++[v]) (h.clo v hv) ol;refine⟨?_,this.2⟩;show(sar g (π v)).foldl _ (o.map π++[π v])=_;have e:=this.1;simp only[List.map_append,zQ,List.map_nil]at e;rw[h.arc v hv];exact e
theorem zo{π:Int->Int}:∀{o:List Int}{x:Int},(∀u∈o,π u=π x->u=x)->(o.map π).idxOf (π x)=o.idxOf x
 |[],x,_=>rfl|u::o,x,h=>by
  simp only[zQ,List.idxOf_cons];have ih:=zo (o:=o) (x:=x) fun w hw=>h w (List.mem_cons_of_mem _ hw);by_cases e:u=x;subst e;simp;have e2:¬ π u=π x:=fun h2=>e (h u (by simp) h2);have e3:(u==x)=false:=by simpa using e
  have e4:(π u==π x)=false:=by simpa using e2
  simp only[e3,e4,zD,ih]
variable{r:Int}
theorem kH.canon{g:GFS}{π:Int->Int}{S:Int->Prop}(h:kH f g π S)(hf:qB f)(hg:qB g)(hr:kY f r)(hS:S r)(hr':kY g (π r)):mM g (π r)=(mM f r).map π/\j6 g (π r)=j6 f r:=by
 obtain⟨o1,s1⟩:=QA hf hr;obtain⟨o2,s2⟩:=QA hg hr';have h1:=h.dfs (f.Nodes.length+g.Nodes.length) [] r hS (by simp);rw[List.map_nil,s1 _ (by omega),s2 _ (by omega)]at h1;refine⟨h1.1,?_⟩;unfold j6;rw[h1.1,List.map_map];congr 1;refine List.map_congr_left fun v hv=>?_;have hSv:=h1.2 v hv;simp only[Function.comp,kO,h.ty v hSv,h.arc v hSv,List.map_map];congr 1;refine List.map_congr_left fun a ha=>?_;have hSa:=h.clo v hSv a ha;simp only[Function.comp,kM];rw[zo fun u hu e=>h.inj u a.To (h1.2 u hu) hSa e]
theorem Mt{l:List bE}(h:lT l):nT l=l:=Wx h.dis (List.Perm.refl _) h
theorem Pr{o:List Int}{v:Int}(h:v∈o):o[o.idxOf v]? = some v:=by
 have h1:=List.idxOf_lt_length_of_mem h;rw[List.getElem?_eq_getElem h1,List.getElem_idxOf]
structure Bh(f:GFS)(r:Int)(c:GFS):Prop where
 len:c.Nodes.length=(mM f r).length
 le:c.Nodes.length<=f.Nodes.length
 pos:0<c.Nodes.length
 ok:qB c
 at_:∀v∈mM f r,nd c ((mM f r).idxOf v:Int)=kO f (mM f r) v
 up:∀x∈c.Nodes,lT x.Arcs
 sim:kH f c (fun v=>((mM f r).idxOf v:Int)) (fun v=>v∈mM f r)
theorem IZ{o:List Int}{l:List bE}(h:lT l):lT (l.map (kM o)):=by
 unfold lT at*;rw[List.pairwise_map];exact h
theorem Yi(hf:qB f)(hr:kY f r):Bh f r (j6 f r):=by
 obtain⟨o1,_⟩:=QA hf hr;have hat:∀v∈mM f r,nd (j6 f r) ((mM f r).idxOf v:Int)=kO f (mM f r) v:=fun v hv=>by simp only[nd,j6,zZ,List.getElem?_map,Pr hv,zM,Option.getD_some]
 have hin:∀v∈mM f r,kY f v:=o1.seen.ing;have hup:∀v∈mM f r,lT (kO f (mM f r) v).Arcs:=fun v hv=>IZ (Da (hf _ (PD (hin v hv)).2).dis);refine⟨by simp[j6],by simp only[j6,yA];exact o1.seen.len,?_,?_,hat,?_,?_⟩;obtain⟨t,ht⟩:=o1.head;simp[j6,ht];intro x hx;simp only[j6,List.mem_map]at hx;obtain⟨v,hv,rfl⟩:=hx;have hn:=hf _ (PD (hin v hv)).2;refine⟨hn.ty,(hup v hv).dis,fun a ha=>?_⟩;simp only[kO,List.mem_map]at ha;obtain⟨b,hb,rfl⟩:=ha;have hb':=FN.1 hb;refine⟨(hn.arc b hb').1,by simp only[kM];omega,?_⟩;have:=List.idxOf_lt_length_of_mem (o1.clo v hv b hb');simp only[kM,j6,yA];omega;intro x hx;simp only[j6,List.mem_map]at hx;obtain⟨v,hv,rfl⟩:=hx;exact hup v hv;refine⟨fun v hv a ha=>o1.clo v hv a (FN.1 ha),fun u v hu hv e=>?_,fun v hv=>?_,fun v hv=>?_⟩;have h1:=Pr hu;have h2:=Pr hv;have e':(mM f r).idxOf u=(mM f r).idxOf v:=Int.ofNat.inj e;rw[e',h2]at h1;exact(Option.some.inj h1).symm;simp only[hat v hv,kO];simp only[sar,hat v hv];rw[Mt (hup v hv)];rfl
theorem cA.canon{k:Nat}(hs:cA f k)(hf:qB f)(hr:kY f r):cA (j6 f r) k:=by
 have hc:=Yi hf hr;obtain⟨o1,_⟩:=QA hf hr;refine⟨Nat.le_trans hc.le hs.nodes,fun x hx=>?_⟩;simp only[j6,List.mem_map]at hx;obtain⟨v,hv,rfl⟩:=hx;simp only[kO,yA,sar];rw[(D8 _).length_eq];exact hs.arcs _ (PD (o1.seen.ing v hv)).2
end Go.Proofs
namespace Go.Proofs
open Go Go.Rx Go.Vx
set_option maxRecDepth 10000
def gA(a:eE):bE:=⟨a.f,(a.to:Int)⟩
def cN(x:PN):bS:=⟨x.kind,x.arcs.map gA⟩
def core(N:List PN):GFS:=⟨N.map cN⟩
def iN(l:List Nat):List Int:=l.map fun(i:Nat)=>(i:Int)
theorem Q0{l:List Nat}{u:Nat}:(u:Int)∈iN l↔u∈l:=by
 simp only[iN,List.mem_map];constructor;rintro⟨a,ha,e⟩;have:a=u:=by omega
 subst this;exact ha;exact fun h=>⟨u,h,rfl⟩
theorem Mi(a b:List Nat):iN (a++b)=iN a++iN b:=by simp[iN]
theorem Vt(l:List Nat):(iN l).length=l.length:=by simp[iN]
theorem Mh{u:Nat}:∀{l:List Nat},(iN l).idxOf (u:Int)=l.idxOf u
 |[]=>rfl|a::l=>by
  rw[show iN (a::l)=(a:Int)::iN l from rfl,List.idxOf_cons,List.idxOf_cons,Mh];have:((a:Int)==(u:Int))=(a==u):=by rw[Bool.eq_iff_iff];simp;omega
  rw[this]
structure CO(N:List PN):Prop where
 gok:qB (core N)
 up:∀x∈N,lT (x.arcs.map gA)
 len:N.length<=1000000
 sm:∀x∈N,x.arcs.length<=1000000
theorem pT(N:List PN):(core N).Nodes.length=N.length:=by simp[core]
variable{N:List PN}
theorem UY{i:Nat}{x:PN}(hx:N[i]? = some x):nd (core N) (i:Int)=cN x:=by
 simp only[nd,core,zZ,List.getElem?_map,hx,zM,Option.getD_some]
theorem CO.sar{N:List PN}(c:CO N){i:Nat}{x:PN}(hx:N[i]? = some x):Go.Proofs.sar (core N) (i:Int)=x.arcs.map gA:=by
 rw[Go.Proofs.sar,UY hx];exact Mt (c.up x (zX hx))
theorem CO.to{N:List PN}(c:CO N){i:Nat}{x:PN}(hx:N[i]? = some x):∀a∈x.arcs,a.to<N.length:=fun a ha=>by
 have:=((c.gok (cN x) (List.mem_map_of_mem (zX hx))).arc (gA a) (List.mem_map_of_mem ha)).2.2;rw[pT]at this;simp only[gA]at this;omega
theorem Lx(q:Nat):∀(l:List Nat)(s:Nat),GH q l s=if q∈l then some (s+l.idxOf q)else none
 |[],s=>rfl|k::l,s=>by
  rw[GH];by_cases e:k=q;subst e;simp[beq_eq];have e1:Nat.beq k q=false:=by simp[beq_eq,e]
  have e2:(k==q)=false:=by simp[e]
  rw[e1,zD,Lx q l,List.idxOf_cons,e2,zD];simp only[zI,Ne.symm e,false_or];split;congr 1;omega;rfl
structure ID(N:List PN)(s:List Nat×List bS):Prop where
 nd:s.1.Nodup
 ing:∀v∈s.1,v<N.length
 len:s.2.length=s.1.length
theorem pn{l:List Nat}(h:l.Nodup):(iN l).Nodup:=by
 unfold iN List.Nodup at*;rw[List.pairwise_map];exact h.imp fun{a b} q e=>q (by omega)
theorem ID.seen{s:List Nat×List bS}(h:ID N s):Seen (core N) (iN s.1):=⟨pn h.nd,fun v hv=>by
 obtain⟨u,hu,rfl⟩:=List.mem_map.1 hv;have:=h.ing u hu;exact⟨by omega,by rw[pT];omega⟩⟩
theorem ID.le{s:List Nat×List bS}(h:ID N s):s.1.length<=N.length:=by
 have:=h.seen.len;rw[Vt,pT]at this;exact this
theorem ct(a b:List bS)(k:Int)(l:List bE):B2 (a++[⟨k,[]⟩]++b) a.length l=a++⟨k,l⟩::b:=by
 simp[B2]
theorem qV{f:GFS}{o t:List Int}{u:Int}(hu:∀a∈(nd f u).Arcs,a.To∈o):kO f (o++t) u=kO f o u:=by
 simp only[kO,bS.mk.injEq,true_and];refine List.map_congr_left fun a ha=>?_;simp only[kM,List.idxOf_append,hu a (FN.1 ha),if_true]
theorem Zg{N:List PN}(c:CO N):∀(k:Nat)(s:List Nat×List bS)(v:Nat),ID N s->v<N.length->N.length-s.1.length<k->v ∉ s.1->
  ∃t,dfs (core N) k (iN s.1) (v:Int)=iN (s.1++v::t)/\rR N k v s=some (s.1.length,s.1++v::t,s.2++(v::t).map fun(u:Nat)=>kO (core N) (iN (s.1++v::t)) (u:Int))
 |0,s,v,hs,hv,hk,_=>by omega
 |k+1,s,v,hs,hv,hk,hm=>by
  obtain⟨x,hx⟩:∃x,N[v]? = some x:=⟨N[v],List.getElem?_eq_getElem hv⟩;have C3:ID N (s.1++[v],s.2++[⟨x.kind,[]⟩]):=⟨by
   show(s.1++[v]).Nodup;rw[List.nodup_append];refine⟨hs.nd,by simp,fun a ha b hb=>?_⟩;simp at hb;subst hb;intro e;subst e;exact hm ha,fun u hu=>by
   rcases yD.1 hu with hu |hu;exact hs.ing u hu;simp at hu;subst hu;exact hv,by simp[hs.len]⟩
  have C4:=C3.le;simp only[zU,zO,zS]at C4;have hlen:=c.len;have hsm:=c.sm x (zX hx);have key:∀(l:List eE),(∀a∈l,a.to<N.length)->∀(s':List Nat×List bS)(acc:List bE),ID N s'->s.1.length+1<=s'.1.length->acc.length+l.length<=1000000->
    ∃t,(l.map gA).foldl (iA (dfs (core N) k)) (iN s'.1)=iN (s'.1++t)/\(∀a∈l,a.to∈s'.1++t)/\(∀u∈t,∀a∈(nd (core N) (u:Int)).Arcs,a.To∈iN (s'.1++t))/\
     KA (rR N k) l s' acc=some (acc++l.map (fun a=>kM (iN (s'.1++t)) (gA a)),s'.1++t,s'.2++t.map fun(u:Nat)=>kO (core N) (iN (s'.1++t)) (u:Int)):=by
   intro l;induction l with
   |nil=>intro _ s' acc h1 h2 _;exact⟨[],by simp,by simp,by simp,by simp[KA]⟩|cons a l ih=>
    intro hl s' acc h1 h2 h3;have ha:=hl a (by simp);simp only[zO]at h3;rw[KA,aH,if_pos (by omega)];have hle:=h1.le;by_cases hin:a.to∈s'.1;have e1:rR N k a.to s'=some (s'.1.idxOf a.to,s'):=by obtain⟨k',rfl⟩:=Nat.exists_eq_add_of_le' (show 1<=k by omega);rw[rR,Lx,if_pos hin,Nat.zero_add]
    rw[e1,aM];obtain⟨t,q1,q2,q3,q4⟩:=ih (fun b hb=>hl b (List.mem_cons_of_mem _ hb)) s' (acc++[⟨a.f,(s'.1.idxOf a.to:Int)⟩]) h1 h2 (by simp;omega);refine⟨t,?_,?_,q3,?_⟩;rw[zQ,List.foldl_cons];have:iA (dfs (core N) k) (iN s'.1) (gA a)=iN s'.1:=by rw[iA];exact if_pos (Q0.2 hin)
    rw[this,q1];intro b hb;rcases zI.1 hb with rfl |hb;exact List.mem_append_left _ hin
    exact q2 b hb;rw[q4];have:kM (iN (s'.1++t)) (gA a)=⟨a.f,(s'.1.idxOf a.to:Int)⟩:=by simp only[kM,gA,Mh,List.idxOf_append,hin,if_true]
    rw[zQ,this];simp;obtain⟨t1,e1,e2⟩:=Zg c k s' a.to h1 ha (by omega) hin
    have hg:kY (core N) (a.to:Int):=⟨by omega,by rw[pT];omega⟩;obtain⟨d1,_,d3,_⟩:=Cu c.gok k (iN s'.1) (a.to:Int) h1.seen hg (fun h=>hin (Q0.1 h)) (by rw[pT,Vt];omega);rw[e1]at d1 d3;rw[e2,aM];have Ry:(s'.1++a.to::t1).Nodup:=by have:=d1.nd;unfold iN List.Nodup at this;rw[List.pairwise_map]at this;exact this.imp fun{p q} h e=>h (by omega)
    have SH:∀u∈a.to::t1,∀b∈(nd (core N) (u:Int)).Arcs,b.To∈iN (s'.1++a.to::t1):=fun u hu b hb=>by refine d3 u (Q0.2 (List.mem_append_right _ hu)) (fun h=>?_) b hb;rw[List.nodup_append]at Ry;exact Ry.2.2 u (Q0.1 h) u hu rfl
    have v1:ID N (s'.1++a.to::t1,s'.2++(a.to::t1).map fun(u:Nat)=>kO (core N) (iN (s'.1++a.to::t1)) (u:Int)):=⟨Ry,fun u hu=>by have:=(d1.ing u (Q0.2 hu)).2;rw[pT]at this;omega,by simp[h1.len]⟩;obtain⟨t,q1,q2,q3,q4⟩:=ih (fun b hb=>hl b (List.mem_cons_of_mem _ hb)) _ (acc++[⟨a.f,(s'.1.length:Int)⟩]) v1 (by simp only[zU,zO];omega) (by simp;omega);simp only at q1 q2 q3 q4;have Jh:s'.1++(a.to::t1++t)=s'.1++a.to::t1++t:=by simp
    refine⟨a.to::t1++t,?_,?_,?_,?_⟩;rw[zQ,List.foldl_cons];have:iA (dfs (core N) k) (iN s'.1) (gA a)=iN (s'.1++a.to::t1):=by rw[iA];exact(if_neg (fun h=>hin (Q0.1 h))).trans e1
    rw[this,q1,Jh];intro b hb;rw[Jh];rcases zI.1 hb with rfl |hb;simp;exact q2 b hb;intro u hu b hb;rw[Jh];rcases yD.1 hu with hu |hu;rw[Mi];exact List.mem_append_left _ (SH u hu b hb);exact q3 u hu b hb;rw[q4,Jh];have e3:kM (iN (s'.1++a.to::t1++t)) (gA a)=⟨a.f,(s'.1.length:Int)⟩:=by simp only[kM,gA,Mh,List.idxOf_append,yD,hin,zI,true_or,or_true,if_true,if_false,List.idxOf_cons_self];simp
    have e4:((a.to::t1).map fun(u:Nat)=>kO (core N) (iN (s'.1++a.to::t1++t)) (u:Int))=(a.to::t1).map fun(u:Nat)=>kO (core N) (iN (s'.1++a.to::t1)) (u:Int):=List.map_congr_left fun u hu=>by rw[Mi _ t];exact qV (SH u hu)
    rw[List.map_append,e4,zQ (f:=fun a=>kM _ (gA a)),e3];simp only[zT,List.singleton_append,List.cons_append,List.nil_append]
  obtain⟨t,q1,q2,q3,q4⟩:=key _ (c.to hx) (s.1++[v],s.2++[⟨x.kind,[]⟩]) [] C3 (by simp) (by simp;omega);simp only at q1 q2 q3 q4;have e0:s.1++v::t=s.1++[v]++t:=by simp
  refine⟨t,?_,?_⟩;rw[dfs,c.sar hx,e0,<-q1,Mi];rfl;have GX:=hs.len;rw[rR,Lx,if_neg hm];simp only[hx,aM];rw[aH,if_pos ⟨by omega,by omega⟩,q4,aM];simp only;rw[ct,e0,GX,List.nil_append];have e2:kO (core N) (iN (s.1++[v]++t)) (v:Int)=⟨x.kind,x.arcs.map fun a=>kM (iN (s.1++[v]++t)) (gA a)⟩:=by rw[kO,UY hx,c.sar hx,List.map_map];rfl
  rw[zQ,e2]
theorem sb{P:PP}(c:CO P.N){n:Nat}(hn:P.N.length<n){k:Int}{r:Nat}(h0:0<=k)(hr:P.roots[k.toNat]? = some r)(hl:r<P.N.length):rX n P k=some (j6 (core P.N) (r:Int),true):=by
 have h1:k.toNat<P.roots.length:=(zG.1 hr).1;obtain⟨t,e1,e2⟩:=Zg c n ([],[]) r ⟨List.nodup_nil,nofun,rfl⟩ hl (by simp;omega) (by simp);obtain⟨o1,o2⟩:=QA c.gok (r:=(r:Int)) ⟨by omega,by rw[pT];omega⟩;simp only[List.nil_append]at e1 e2;have e3:dfs (core P.N) n [] (r:Int)=iN (r::t):=e1;rw[o2 n (by rw[pT];omega)]at e3;have h2:aC P.roots k=some r:=by rw[show k=((k.toNat:Nat):Int) by omega,cP,hr]
 rw[rX,decide_eq_false (by omega),zD,decide_eq_false (by omega),zD,h2,aM,e2,aM];simp only[j6,e3,iN,List.map_map];rfl
theorem en{P:PP}{n:Nat}{k:Int}(h:¬ (0<=k/\k<(P.roots.length:Int))):rX n P k=some (⟨[]⟩,false):=by
 rw[rX];by_cases h0:k<0;rw[decide_eq_true h0,zC];rw[decide_eq_false h0,zD,decide_eq_true (by omega),zC]
end Go.Proofs
