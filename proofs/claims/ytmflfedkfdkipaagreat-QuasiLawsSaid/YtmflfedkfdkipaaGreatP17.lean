import Derived.Test.YtmflfedkfdkipaaGreatP16
set_option linter.all false
namespace Go.Proofs
open Go Go.Rx Go.Vx Tryz
set_option maxRecDepth 20000
set_option maxHeartbeats 4000000
set_option synthInstance.maxSize 4000
set_option synthInstance.maxHeartbeats 200000
def CG{v11 v09:Type}(f:v11->I v09):Z v11->I (Z v09)
 |[]=>some []|a::l=>a8 (f a) fun b=>a8 (CG f l) fun bs=>some (b::bs)
theorem Mx{v11 v09:Type}{f:v11->I v09}:∀{l:Z v11}{bs:Z v09},CG f l=some bs->bs.length=l.length/\∀(i:Nat)(a:v11),l[i]? = some a->∃b,bs[i]? = some b/\f a=some b
 |[],bs,h=>by obtain rfl:=sI h;exact⟨rfl,fun i a h=>by simp at h⟩
 |a::l,bs,h=>by
  obtain⟨b,hb,h⟩:=aL h;obtain⟨bs',hbs,h⟩:=aL h;obtain rfl:=sI h;obtain⟨h1,h2⟩:=Mx hbs;refine⟨by simp[h1],fun i c hc=>?_⟩;cases i with
  |zero=>simp at hc;subst hc;exact⟨b,rfl,hb⟩|succ i=>simp at hc;obtain⟨d,h3,h4⟩:=h2 i c hc;exact⟨d,by simpa using h3,h4⟩
def Xm(n0 len:Nat)(a:aT):I dR:=cond (decide (0<=a.To/\a.To<(len:Int))) (some ⟨a.Feat,n0+a.To.toNat⟩) none
variable{n0:Nat}
variable{len:Nat}
theorem ip{a:aT}{b:dR}(h:Xm n0 len a=some b):0<=a.To/\a.To<(len:Int)/\b=⟨a.Feat,n0+a.To.toNat⟩:=by unfold Xm at h;rcases hd:decide (0<=a.To/\a.To<(len:Int))with _|_;rw[hd]at h;cases h;rw[hd]at h;have:=of_decide_eq_true hd;exact⟨this.1,this.2,(sI h).symm⟩
def R4(n0 len:Nat)(x:aU):I PN:=aG (x.Arcs.length<=1000000) (a8 (CG (Xm n0 len) x.Arcs) fun l=>some (gC x.Typex l))
def sH(P:PP)(f:GFS):I (Int×PP):=
 aG (0<f.Nodes.length/\f.Nodes.length<=1000000/\P.roots.length<=1000000) (a8 (CG (R4 P.N.length f.Nodes.length) f.Nodes) fun L=>some ((P.roots.length:Int),{ P with N:=P.N++L,size:=IntKind.i64.wrap (P.size+f.Nodes.length),roots:=P.roots++[P.N.length] }))
def JC(x:PN):PN:=gC x.kind []
def uB(N L:Z PN)(t:Nat):Z PN:=N++(L.take t++(L.drop t).map JC)
theorem z3v(N L:Z PN)(t:Nat):(uB N L t).length=N.length+L.length:=by simp[uB];omega
variable{N:Z PN}
variable{t:Nat}
theorem z3u{L:Z PN}{x:PN}(h:L[t]? = some x):(uB N L t)[N.length+t]? = some (JC x):=by have ht:=(zG.1 h).1;unfold uB;rw[List.getElem?_append_right (by omega),show N.length+t-N.length=t by omega,List.getElem?_append_right (by simp;omega)];simp;rw[Nat.min_eq_left (by omega),Nat.sub_self,Nat.add_zero];exact⟨x,h,rfl⟩
theorem z3w{L:Z PN}{x:PN}(h:L[t]? = some x):(uB N L t).set (N.length+t) x=uB N L (t+1):=by
 have ht:=(zG.1 h).1;have e:L.drop t=x::L.drop (t+1):=by rw[List.drop_eq_getElem_cons ht];rw[List.getElem?_eq_getElem ht]at h;cases h;rfl
 unfold uB;rw[List.set_append_right _ _ (by omega),show N.length+t-N.length=t by omega,List.set_append_right _ _ (by simp;omega),e];congr 1;simp only[List.length_take,Nat.min_eq_left (Nat.le_of_lt ht),Nat.sub_self,zQ,List.set_cons_zero];rw[List.take_add_one,h];simp
def mG(nm:Nat->Nat)(o:I Nat):Z U:=[po nm o]
def kT(n0 len t:Nat):Z (I Nat):=(List.range len).map fun i=>if i<t then some (n0+i)else none
theorem QA{i:Nat}(h:i<len):(kT n0 len t)[i]? = some (if i<t then some (n0+i)else none):=by simp[kT,h]
theorem z3t(h:t<len):(kT n0 len t).set t (some (n0+t))=kT n0 len (t+1):=by apply List.ext_getElem?;intro i;rw[List.getElem?_set];by_cases e:t=i;subst e;rw[if_pos rfl,if_pos (by simp[kT,h]),QA h,if_pos (zN _)];rw[if_neg e];by_cases hi:i<len;rw[QA hi,QA hi];by_cases h2:i<t;rw[if_pos h2,if_pos (by omega)];rw[if_neg h2,if_neg (by omega)];rw[List.getElem?_eq_none (by simp[kT];omega),List.getElem?_eq_none (by simp[kT];omega)]
theorem qzl(n0 len:Nat):kT n0 len 0=List.replicate len none:=by apply List.ext_getElem?;intro i;by_cases hi:i<len;rw[QA hi];simp[hi];rw[List.getElem?_eq_none (by simp[kT];omega),List.getElem?_eq_none (by simp;omega)]
section
variable{kp kr st:Nat}{nm:Nat->Nat}{P:PP}{h:Z (Nat×B)}{nx:Nat}
theorem oT.more{nm1:Nat->Nat}{N:Z PN}{s:Int}{c:Nat}{H:Z (Nat×B)}{M:Nat}(m:oT kp kr st nm P h nx nm1 N s c H M)(hw:nN ⟨H,M⟩)(b:B):oT kp kr st nm P h nx nm1 N s c ((M,b)::H) (M+1):=
 ⟨m.ph.more fun k c hc=>by rw[jQ (hw k c hc).1];exact hc,m.nmE,m.new,fun k k1 k2 k3=>by rw[jQ (Nat.lt_of_lt_of_le k1 m.le)];exact m.fr k k1 k2 k3,Nat.le_succ_of_le m.le,m.len,m.cl⟩
theorem oT.add{nm1:Nat->Nat}{N:Z PN}{s:Int}{c:Nat}{H:Z (Nat×B)}{M:Nat}(m:oT kp kr st nm P h nx nm1 N s c H M)(hw:nN ⟨H,M⟩)(hc:c<=N.length)(k:Int):oT kp kr st nm P h nx (tG nm1 N.length M) (N++[gC k []]) s c ((M,.row (pP (tG nm1 N.length M) (gC k []) .nils) 103)::H) (M+1):=by
 refine⟨m.ph.add hw hc k (by simp[aQ]) (fun k b hb=>by rw[jQ (hw k b hb).1];exact hb),fun k hk=>by rw[uI k (Nat.lt_of_lt_of_le hk m.len)];exact m.nmE k hk,fun k ha hb=>?_,fun k k1 k2 k3=>by rw[jQ (Nat.lt_of_lt_of_le k1 m.le)];exact m.fr k k1 k2 k3,Nat.le_succ_of_le m.le,by simp;exact Nat.le_succ_of_le m.len,m.cl⟩;rw[zU]at hb;rcases Nat.lt_or_ge k N.length with h9 |h9;rw[uI k h9];exact m.new k ha h9;have:k=N.length:=by simp at hb;omega
 subst this;rw[WN];exact m.le
theorem oT.oth{nm1:Nat->Nat}{s:Int}{c:Nat}{H:Z (Nat×B)}{M K:Nat}{q:Z U}(m:oT kp kr st nm P h nx nm1 N s c H M)(hK:nx<=K)(hg:gt H K=some (.row q 92))(b:B):oT kp kr st nm P h nx nm1 N s c (ug H K b) M:=by
 have cT:∀k b',gt H k=some b'->(∀q,b'≠.row q 92)->gt (ug H K b) k=some b':=fun k b' hk hn=>by rw[c7,if_neg fun e=>?_];exact hk;rw[<-e,hg]at hk;exact hn q (Option.some.inj hk).symm
 refine⟨⟨cT _ _ m.ph.pool (by simp),cT _ _ m.ph.roots (by simp),fun i x hx hi=>cT _ _ (m.ph.node i x hx hi) (by simp),fun i x hx hi=>⟨cT _ _ (m.ph.pend i x hx hi).1 (by simp),(m.ph.pend i x hx hi).2⟩,m.ph.inj,m.ph.wf,m.ph.rt⟩,m.nmE,m.new,fun k k1 k2 k3=>?_,m.le,m.len,m.cl⟩;rw[c7,if_neg (by omega)];exact m.fr k k1 k2 k3
theorem qx9{nm':Nat->Nat}{n:Nat}(hn:∀k,k<n->nm' k=nm k)(ht:n0+t<=n):(kT n0 len t).map (mG nm')=(kT n0 len t).map (mG nm):=by refine List.map_congr_left fun o ho=>?_;simp only[kT,List.mem_map]at ho;obtain⟨i,_,rfl⟩:=ho;by_cases hi:i<t;rw[if_pos hi];simp only[mG,po,pt,hn (n0+i) (by omega)];rw[if_neg hi];rfl
theorem XS(p:PH kp kr st nm P h){f:GFS}{r:Int×PP}(J:sH P f=some r):
  aV prog 18 [.ptr kp 0 0,.agg (kH f)] ⟨h,nx⟩ (fun u X'=>u=.i6 r.1/\X'=⟨cH kp kr (st+1) (iT nm P.N.length nx) r.2 h,nx+(r.2.N.length-P.N.length)⟩):=by
 refine aV.wf fun uP _=>?_;obtain⟨⟨AW,AV,AU⟩,J⟩:=cQ J;obtain⟨L,hL,J⟩:=aL J;obtain rfl:=sI J;obtain⟨Ay,li⟩:=Mx hL
 haveI:SuC nx (nx+1):=⟨rfl⟩
 haveI:SuC (nx+1) (nx+2):=⟨rfl⟩
 refine eO 99 wC ?_;refine goN ?_;refine RS.w rfl (ba (c:=mG nm) (none:I Nat) rfl rfl gM.h iC.h rfl rfl rfl rfl ⟨by omega,by omega,by omega⟩) ?_;change RU _ _ _ _ _ (Sg.mk ((nx+1,.row ((List.replicate f.Nodes.length (none:I Nat)).map (mG nm)).flatten 92)::(nx,.row (kH f) 39)::h) (nx+2)) _
 haveI:Nq (nx+1) nx:=⟨by rw[beq_eq];simp⟩
 refine goN ?_;have hPN:P.N++(L.take 0).map JC=P.N:=by simp
 have c0:oT kp kr st nm P h nx nm (P.N++(L.take 0).map JC) P.size P.N.length ((nx+1,.row ((kT P.N.length f.Nodes.length 0).map (mG nm)).flatten 92)::(nx,.row (kH f) 39)::h) (nx+2):=by rw[hPN];refine⟨p.pq.more fun k b hb=>?_,fun _ _=>rfl,fun k a b=>by omega,fun k k1 _ _=>?_,by omega,zF _,zF _⟩;have:k<nx:=(uP k b hb).1;rw[aQ,if_neg (by omega),aQ,if_neg (by omega)];exact hb;rw[aQ,if_neg (by omega),aQ,if_neg (by omega)]
 refine WPU.eqv rfl (X':=⟨(nx+1,.row ((kT P.N.length f.Nodes.length 0).map (mG nm)).flatten 92)::(nx,.row (kH f) 39)::h,nx+2⟩) (by rw[qzl]) ?_;refine gL (fun m tm X=>∃(t:Nat)(nm1:Nat->Nat)(H:Z (Nat×B))(M:Nat),m=f.Nodes.length-t/\t<=f.Nodes.length/\tm=fr 99 [(0,.ptr kp 0 0),(3,.ptr nx 0 0),(5,.sl (nx+1) 0 f.Nodes.length f.Nodes.length),(17,.iM bD f.Nodes),(18,.i6 f.Nodes.length),(19,.i6 t)]/\X=⟨H,M⟩/\oT kp kr st nm P h nx nm1 (P.N++(L.take t).map JC) P.size P.N.length H M/\gt H (nx+1)=some (.row ((kT P.N.length f.Nodes.length t).map (mG nm1)).flatten 92)/\gt H nx=some (.row (kH f) 39)/\nx+1<M)
  (fun tm X=>∃(nm1:Nat->Nat)(H:Z (Nat×B))(M:Nat),tm=fr 99 [(0,.ptr kp 0 0),(3,.ptr nx 0 0),(5,.sl (nx+1) 0 f.Nodes.length f.Nodes.length)]/\X=⟨H,M⟩/\oT kp kr st nm P h nx nm1 (uB P.N L 0) P.size P.N.length H M/\gt H (nx+1)=some (.row ((kT P.N.length f.Nodes.length f.Nodes.length).map (mG nm1)).flatten 92)/\gt H nx=some (.row (kH f) 39)/\nx+1<M) f.Nodes.length
  ⟨0,nm,_,nx+2,rfl,Nat.zero_le _,rfl,rfl,c0,by rw[aQ,if_pos rfl],by rw[aQ,if_neg (by omega),aQ,if_pos rfl],zN _⟩ ?_ ?_ (by show nx<=nx+2;omega)
 ·rintro _ _ ⟨nm1,H,M,rfl,rfl,hm,xO,yu,hM⟩
  haveI:eK H nx (.row [.iM bD f.Nodes] 39):=⟨yu⟩
  refine goN ?_;refine gL (fun m tm X=>∃(t:Nat)(H:Z (Nat×B))(M:Nat),m=f.Nodes.length-t/\t<=f.Nodes.length/\tm=fr 99 [(0,.ptr kp 0 0),(5,.sl (nx+1) 0 f.Nodes.length f.Nodes.length),(33,.iM bD f.Nodes),(34,.i6 f.Nodes.length),(35,.i6 t)]/\X=⟨H,M⟩/\oT kp kr st nm P h nx nm1 (uB P.N L t) P.size (P.N.length+t) H M/\gt H (nx+1)=some (.row ((kT P.N.length f.Nodes.length f.Nodes.length).map (mG nm1)).flatten 92)/\nx+1<M)
   (fun tm X=>∃(H:Z (Nat×B))(M:Nat),tm=fr 99 [(0,.ptr kp 0 0),(5,.sl (nx+1) 0 f.Nodes.length f.Nodes.length)]/\X=⟨H,M⟩/\oT kp kr st nm P h nx nm1 (P.N++L) P.size (P.N.length+L.length) H M/\gt H (nx+1)=some (.row ((kT P.N.length f.Nodes.length f.Nodes.length).map (mG nm1)).flatten 92)/\nx+1<M) f.Nodes.length
   ⟨0,H,M,rfl,Nat.zero_le _,rfl,rfl,hm,xO,hM⟩ ?_ ?_ hm.le
  rintro _ _ ⟨H,M,rfl,rfl,hm,xO,hM⟩;refine WPU.wf fun fJ _=>?_;have ZW:live (Sg.mk H M) (nx+1) 0=true:=by simp[live,xO,B.st]
  have H8:=hm.ph.ph (Nat.le_of_eq (by simp))
  haveI:=H8.gp
  haveI:SuC M (M+1):=⟨rfl⟩
  refine goN ?_;refine RS.w rfl (JK rfl rfl rfl (z5j gM.h ZW)) ?_;refine goN ?_
  let sz:Int:=IntKind.i64.wrap (P.size+(f.Nodes.length:Nat))
  let P2:PP:={ P with N:=P.N++L,size:=sz }
  let H2:Z (Nat×B):=ug H kp (.row (qN kr st P2) 83)
  have oC:PH kp kr st nm1 P2 H2:=H8.setP sz P.gen (by simp only[H2];rw[c7,if_pos rfl,H8.pool];rfl) fun k b hb hk=>by simp only[H2];rw[c7,if_neg (Ne.symm hk)];exact hb
  have rV:kp<M:=(fJ _ _ H8.pool).1;have AX:kr<M:=(fJ _ _ H8.roots).1;have hlx:kp≠nx+1:=fun e=>by have:=H8.pool;rw[e,xO]at this;simp at this
  have hlr:kr≠nx+1:=fun e=>by have:=H8.roots;rw[e,xO]at this;cases this
  have vX:gt H2 (nx+1)=some (.row ((kT P.N.length f.Nodes.length f.Nodes.length).map (mG nm1)).flatten 92):=by simp only[H2];rw[c7,if_neg hlx];exact xO
  have ZU:live (Sg.mk H2 M) (nx+1) 0=true:=by simp[live,vX,B.st]
  have jS:nR (kT P.N.length f.Nodes.length f.Nodes.length) 0 f.Nodes.length 0=some (some P.N.length):=by rw[nR,if_pos ⟨by omega,by omega⟩];simp only[Int.toNat_zero,Nat.zero_add];rw[QA AW,if_pos AW];simp
  change WPU _ _ _ _ (Sg.mk H2 M) _
  haveI:=oC.gp
  haveI:Nq M kp:=⟨by rw[beq_eq];simp;omega⟩
  haveI:Nq M kr:=⟨by rw[beq_eq];simp;omega⟩
  refine dE [(0,8),(0,9),(1,8),(2,8),(3,8),(4,8)] ?_;refine cU ?_;refine bM rfl (fA rfl rfl (FQ (X:=⟨H2,M⟩) gM.h (bZ iC.h) ZU jS)) (bM (u:=pt nm1 P.N.length) rfl (Q0 (X:=⟨H2,M⟩) (mG nm1) (po nm1) gK.h rfl (fun _=>rfl) rfl vX jS) ?_);refine cU ?_;refine fO ?_;have tS:gt ((M,.row [pt nm1 P.N.length] 92)::H2) kr=some (.vec (P.roots.map (dL nm1)).flatten 92 1 st):=by rw[aQ,if_neg (by omega)];exact oC.roots
  have eR:rowOf (Sg.mk ((M,.row [pt nm1 P.N.length] 92)::H2) (M+1)) M=some [pt nm1 P.N.length]:=by simp[rowOf,aQ]
  refine RD.act rfl (rN rfl rfl rfl rfl (C0 (dL nm1) [P.N.length] gM.h gM.h iC.h rfl (fun _=>rfl) tS (E8 (dL nm1) [P.N.length] (q:=[pt nm1 P.N.length]) eR rfl rfl rfl) ⟨by show(P.roots.length+1)*_<=_;omega,by show P.roots.length+1<=_;omega⟩)) rfl rfl ?_;have Tu:eK (ug ((M,.row [pt nm1 P.N.length] 92)::H2) kr (.vec (List.map (dL nm1) (P.roots++[P.N.length])).flatten 92 1 (st+1))) kp (.row [.iM m4 P2.H.Types,.iM pA P2.H.Feats,.vl kr st 0 P2.roots.length,.i6 P2.size,.i6 P2.gen] 83):=⟨by rw[c7,if_neg oC.krp,aQ,if_neg (by omega)];exact oC.pool⟩
  haveI:=Tu
  refine cU ?_;refine wO ?_;refine bN ⟨by kernel_rfl,⟨opm,opm,opm,opm,opm,opm,trivial⟩,?_⟩
  let v06:B:=.vec (List.map (dL nm1) (P.roots++[P.N.length])).flatten 92 1 (st+1)
  let P3:PP:={ P with N:=P.N++L,size:=sz,roots:=P.roots++[P.N.length] }
  let T:Z (Nat×B):=(M,.row [pt nm1 P.N.length] 92)::H2
  let T2:Z (Nat×B):=ug (ug T kr v06) kp (.row (qN kr (st+1) P3) 83)
  have hT:∀k,k≠kp->k≠kr->k<M->gt T2 k=gt H k:=fun k k1 k2 k3=>by simp only[T2,T,H2];rw[c7,if_neg (Ne.symm k1),c7,if_neg (Ne.symm k2),aQ,if_neg (by omega),c7,if_neg (Ne.symm k1)]
  have p5:PH kp kr (st+1) nm1 P3 T2:=by refine⟨?_,?_,fun i x hx=>?_,oC.inj,oC.wf,fun r hr=>?_⟩;simp only[T2];rw[c7,if_pos rfl,Tu.h];rfl;simp only[T2];rw[c7,if_neg (Ne.symm oC.krp),c7,if_pos rfl];simp only[T];rw[tS];rfl;have hi:=nJ hx;rw[hT _ (H8.kpn hi) (H8.krn hi) (H8.lt fJ hi)];exact H8.node i x hx;rcases yD.1 hr with hr |hr;exact oC.rt r hr;simp at hr;subst hr;show P.N.length<(P.N++L).length;simp;omega
  change WPU _ _ _ _ (Sg.mk T2 (M+1)) _
  haveI:=p5.gp
  haveI:=p5.gr
  refine goN ?_;have kN:IntKind.i64.wrap (((P.roots++[P.N.length]).length:Int)-1)=P.roots.length:=by rw[zU,oA (by simp) (by simp;omega)];simp
  refine Xn rfl rfl rfl (Nat.le_add_right _ _) (canon (P1:=P3) (nm1:=nm1) (tm':=[.i6 P.roots.length]) p uP p5 (by show P.N.length<=(P.N++L).length;simp) hm.nmE hm.new (fun k k1 k2 k3 k4=>?_) ?_ (by simp[aF,aP])) ⟨rfl,rfl⟩;have k1':k<nx:=k1;rw[hT k k2 k3 (by have:=hm.le;omega)];exact hm.fr k k1 k2 k4;simp only[eM,rU];rw[<-kN];rintro _ _ _ ⟨t,H,M,rfl,ht,rfl,rfl,hm,xO,hM⟩;refine WPU.wf fun fJ _=>?_
  haveI:SuC M (M+1):=⟨rfl⟩
  refine goN ?_;refine dS rfl (fun h7=>?_) (fun h7=>?_)
  ·have eQ:t<f.Nodes.length:=by simpa using h7
   obtain⟨x,hx⟩:∃a,f.Nodes[t]? = some a:=⟨_,List.getElem?_eq_getElem eQ⟩;obtain⟨y,hy,kM⟩:=li t x hx;obtain⟨oF,kM⟩:=cQ kM;obtain⟨l2,k?,kM⟩:=aL kM;obtain⟨Tk,Tl⟩:=Mx k?;have lH:aC f.Nodes (t:Int)=some x:=by rw[aC,if_pos ⟨by omega,by omega⟩];simpa using hx
   have kN:IntKind.i64.wrap ((t:Int)+1)=((t+1:Nat):Int):=by rw[oA (by omega) (by omega)];rfl
   refine goN ?_;apply aR;refine goN ?_;refine aW lH ?_;refine goN ?_;obtain rfl:=sI kM
   let q:=P.N.length+t
   have hq:(uB P.N L t)[q]? = some (gC x.Typex []):=z3u hy;have ZN:q<(uB P.N L t).length:=nJ hq;obtain⟨KN,_⟩:=hm.ph.pend q _ hq (zF _);have KN:gt H (nm1 q)=some (.row (pP nm1 (gC x.Typex []) .nils) 103):=KN;have hqM:nm1 q<M:=(fJ _ _ KN).1;have rV:kp<M:=(fJ _ _ hm.ph.pool).1;have ZM:nm1 q≠kp:=hm.ph.kpn ZN;have hqx:nm1 q≠nx+1:=fun e=>by rw[e,xO]at KN;simp at KN
   have Sb:gt ((M,.row (bD x) 79)::H) (nm1 q)=some (.row (pP nm1 (gC x.Typex []) .nils) 103):=by rw[aQ,if_neg (by omega)];exact KN
   refine dY (ES (X:=⟨(M,.row (bD x) 79)::H,M+1⟩) (nm1 q) 1 107 2 (by decide) (Nat.le_succ_of_le hm.le) Sb rfl) (Nat.le_succ_of_le (Nat.le_succ_of_le hm.le)) ?_;refine gL (fun m tm X=>∃(j:Nat)(s:Nat)(H':Z (Nat×B))(M':Nat),m=x.Arcs.length-j/\j<=x.Arcs.length/\tm=fr 99 [(0,.ptr kp 0 0),(5,.sl (nx+1) 0 f.Nodes.length f.Nodes.length),(8,.i6 t),(33,.iM bD f.Nodes),(34,.i6 f.Nodes.length),(35,.i6 t),(41,.iM dA x.Arcs),(42,.i6 x.Arcs.length),(43,.i6 j)]/\X=⟨H',M'⟩/\M+1<M'/\gt H' (M+1)=some (.bv (bX nm1) (l2.take j) 107 2 s)/\gt H' (nm1 q)=some (.row (pP nm1 (gC x.Typex []) (.vl (M+1) s 0 (l2.take j).length)) 103)/\∀k,k<M->k≠nm1 q->gt H' k=gt H k)
    (fun tm X=>∃(s:Nat)(H':Z (Nat×B))(M':Nat),tm=fr 99 [(0,.ptr kp 0 0),(5,.sl (nx+1) 0 f.Nodes.length f.Nodes.length),(33,.iM bD f.Nodes),(34,.i6 f.Nodes.length),(35,.i6 t)]/\X=⟨H',M'⟩/\M+1<M'/\gt H' (M+1)=some (.bv (bX nm1) l2 107 2 s)/\gt H' (nm1 q)=some (.row (pP nm1 (gC x.Typex []) (.vl (M+1) s 0 l2.length)) 103)/\∀k,k<M->k≠nm1 q->gt H' k=gt H k) x.Arcs.length
    ⟨0,0,_,M+2,rfl,Nat.zero_le _,rfl,rfl,zN _,by rw[c7,if_neg (by omega)];simp[newU,aQ],by rw[c7,if_pos rfl];simp only[newU];rw[aQ,if_neg (by omega),Sb];rfl,fun k hk nL=>by rw[c7,if_neg (Ne.symm nL)];simp only[newU];rw[aQ,if_neg (by omega),aQ,if_neg (by omega)]⟩ ?_ ?_ (Nat.le_succ_of_le (Nat.le_succ_of_le hm.le))
   ·rintro _ _ ⟨s,H',M',rfl,rfl,Us,hv,xJ,fP⟩;refine goN ?_;have B2:∀k,k<(uB P.N L t).length->nm1 k<M:=fun k hk=>hm.ph.lt fJ hk;have gtfz:∀k,k<M->k≠nm1 q->gt (fzH (M+1) (.bv (bX nm1) l2 107 2 s) 2 H') k=gt H k:=fun k hk nL=>by rw[FX,if_neg (by omega),fP k hk nL];rcases hq:gt H k with _|b';rfl;simp only[zM];rw[Ez _ _ (Fc (Nat.le_succ M) (fJ k b' hq).2)]
    have kY:∀a∈l2,a.to<(uB P.N L t).length:=fun b hb=>by
     obtain⟨j,hj⟩:=List.getElem?_of_mem hb;have gZ:j<x.Arcs.length:=by rw[<-Tk];exact(zG.1 hj).1
     obtain⟨b',h1,h2⟩:=Tl j _ (List.getElem?_eq_getElem gZ);rw[hj]at h1;cases h1;obtain⟨h3,h4,h5⟩:=ip h2;rw[h5,z3v,Ay];show P.N.length+_<_;omega
    have EK:oT kp kr st nm P h nx nm1 (uB P.N L (t+1)) P.size (P.N.length+(t+1)) (fzH (M+1) (.bv (bX nm1) l2 107 2 s) 2 H') M':=by rw[<-z3w hy];refine⟨hm.ph.upd hq (show P.N.length+t<P.N.length+(t+1) by omega) (fun j hj=>by have:j≠P.N.length+t:=hj;omega) ⟨kY,trivial,nofun,trivial⟩ ?_ fun k b hb hk=>by rw[gtfz k (fJ k b hb).1 hk];exact hb,hm.nmE,fun k a b=>hm.new k a (by simpa using b),fun k a b e=>?_,by have:=hm.le;omega,by simpa using hm.len,by omega⟩;show gt _ (nm1 q)=_;rw[FX,if_neg (by omega),xJ];have e1:=LN (c:=bX nm1) (sz:=2) (fun _=>rfl) l2 (M+1) 2 107 s;simp only[zM,fzB,pP,gC,po,G0,M8,LV,LU,Q6];rw[e1];rfl;rw[gtfz k (by have:=hm.le;omega) fun e2=>by have:=hm.new q (Nat.le_add_right _ _) ZN;omega];exact hm.fr k a b e
    refine⟨f.Nodes.length-(t+1),_,_,by omega,⟨t+1,_,M',rfl,eQ,rfl,rfl,EK,?_,by omega⟩,by have:=hm.le;show nx<=M';omega,Gh.trans (Gh.sub ?_) (Gh.fz (X:=⟨H',M'⟩) (M+1) (.bv (bX nm1) l2 107 2 s) 2 hv nofun (yH _ _ _ (Ml ?_)) rfl)⟩;rw[gtfz (nx+1) hM (Ne.symm hqx)];exact xO
    ·rw[<-kN];(repeat refine⟨rfl,?_⟩);exact trivial
    simp only[BelS,aP,and_true,true_and];exact⟨by omega,by omega,uJ _ (fun q=>yK _ q) _⟩
   rintro _ _ _ ⟨j,s,H',M',rfl,hj,rfl,rfl,Us,hv,xJ,fP⟩
   haveI:SuC M' (M'+1):=⟨rfl⟩
   haveI:SuC (M'+1) (M'+2):=⟨rfl⟩
   refine goN ?_;refine dS rfl (fun h9=>?_) (fun h9=>?_)
   ·have gZ:j<x.Arcs.length:=by simpa using h9
    obtain⟨a,ha⟩:∃a,x.Arcs[j]? = some a:=⟨_,List.getElem?_eq_getElem gZ⟩;obtain⟨b,hb,D5⟩:=Tl j a ha;obtain⟨ha1,ha2,rfl⟩:=ip D5;have yW:aC x.Arcs (j:Int)=some a:=by rw[aC,if_pos ⟨by omega,by omega⟩];simpa using ha
    have yQ:IntKind.i64.wrap ((j:Int)+1)=((j+1:Nat):Int):=by rw[oA (by omega) (by omega)];rfl
    have yh:l2.take (j+1)=l2.take j++[⟨a.Feat,P.N.length+a.To.toNat⟩]:=by rw[List.take_add_one,hb];rfl
    have Sn:(l2.take j).length=j:=by rw[List.length_take,Nat.min_eq_left (by omega)]
    have hxM:nx+1<M:=hM
    let A0:Z (Nat×B):=(M',.row (dA a) 105)::H'
    have Ae:∀{v10:Z (Nat×B)},gt v10 (nx+1)=gt H' (nx+1)->gt v10 (nx+1)=some (.row ((kT P.N.length f.Nodes.length f.Nodes.length).map (mG nm1)).flatten 92):=fun e=>by rw[e,fP _ hxM (Ne.symm hqx)];exact xO
    have jS:nR (kT P.N.length f.Nodes.length f.Nodes.length) 0 f.Nodes.length (t:Int)=some (some q):=by rw[nR,if_pos ⟨by omega,by omega⟩];simp only[zZ,Nat.zero_add];rw[QA eQ,if_pos eQ]
    have Ts:nR (kT P.N.length f.Nodes.length f.Nodes.length) 0 f.Nodes.length a.To=some (some (P.N.length+a.To.toNat)):=by rw[nR,if_pos ⟨ha1,ha2⟩];simp only[Nat.zero_add];rw[QA (by omega),if_pos (by omega)]
    have NU:gt A0 (nx+1)=some (.row ((kT P.N.length f.Nodes.length f.Nodes.length).map (mG nm1)).flatten 92):=Ae (by simp only[A0];rw[aQ,if_neg (by omega)]);have ZV:live (Sg.mk A0 (M'+1)) (nx+1) 0=true:=by simp[live,NU,B.st]
    haveI:Nq M' (nm1 q):=⟨by rw[beq_eq];simp;omega⟩
    haveI:Nq (M'+1) (nm1 q):=⟨by rw[beq_eq];simp;omega⟩
    haveI:Nq (M'+1) M':=⟨by rw[beq_eq];simp⟩
    haveI:eK H' (nm1 q) (.row [.i6 x.Typex,.vl (M+1) s 0 (l2.take j).length,.nilp,.i6 0,.i6 0,.i6 0,.isl false [],.i6 0,.nilp,.i6 0,.bool false,.i6 0] 103):=⟨xJ⟩
    refine goN ?_;apply aR;refine goN ?_;refine aW yW ?_;refine goN ?_;refine dE [(0,19),(0,20),(1,19),(1,20),(2,19),(2,20),(3,19),(3,20),(4,19),(5,19),(6,19),(7,19),(8,19),(9,19),(10,19)] ?_;refine cU ?_;refine bM rfl (fA rfl rfl (FQ (X:=⟨A0,M'+1⟩) gM.h (bZ iC.h) ZV jS)) (bM (u:=pt nm1 q) rfl (Q0 (X:=⟨A0,M'+1⟩) (mG nm1) (po nm1) gK.h rfl (fun _=>rfl) rfl NU jS) ?_);refine cU ?_;refine bM rfl (fA rfl rfl (FQ (X:=⟨A0,M'+1⟩) gM.h (bZ iC.h) ZV jS)) (bM (u:=pt nm1 q) rfl (Q0 (X:=⟨A0,M'+1⟩) (mG nm1) (po nm1) gK.h rfl (fun _=>rfl) rfl NU jS) ?_);refine cU ?_;refine bM rfl (fA rfl rfl (FQ (X:=⟨A0,M'+1⟩) gM.h (bZ iC.h) ZV Ts)) (bM (u:=pt nm1 (P.N.length+a.To.toNat)) rfl (Q0 (X:=⟨A0,M'+1⟩) (mG nm1) (po nm1) gK.h rfl (fun _=>rfl) rfl NU Ts) ?_);refine cU ?_;refine fO ?_
    let A1:Z (Nat×B):=(M'+1,.row [.i6 a.Feat,pt nm1 (P.N.length+a.To.toNat)] 107)::A0
    have tS:gt A1 (M+1)=some (.vec ((l2.take j).map (bX nm1)).flatten 107 2 s):=by simp only[A1,A0];rw[aQ,if_neg (by omega),aQ,if_neg (by omega)];exact hv
    have eR:rowOf (Sg.mk A1 (M'+2)) (M'+1)=some [.i6 a.Feat,pt nm1 (P.N.length+a.To.toNat)]:=by simp[A1,rowOf,aQ]
    refine RD.act rfl (rN rfl rfl rfl rfl (C0 (bX nm1) [⟨a.Feat,P.N.length+a.To.toNat⟩] BO.h BO.h AK.h rfl (fun _=>rfl) tS (E8 (bX nm1) [⟨a.Feat,P.N.length+a.To.toNat⟩] (q:=[.i6 a.Feat,pt nm1 (P.N.length+a.To.toNat)]) eR rfl rfl rfl) ⟨by rw[Sn];simp;omega,by rw[Sn];simp;omega⟩)) rfl rfl ?_
    let v06:B:=.vec (List.map (bX nm1) (l2.take j++[⟨a.Feat,P.N.length+a.To.toNat⟩])).flatten 107 2 (s+1)
    haveI:eK (ug A1 (M+1) v06) (nm1 q) (.row [.i6 x.Typex,.vl (M+1) s 0 (l2.take j).length,.nilp,.i6 0,.i6 0,.i6 0,.isl false [],.i6 0,.nilp,.i6 0,.bool false,.i6 0] 103):=⟨by rw[c7,if_neg (by omega)];simp only[A1,A0];rw[aQ,if_neg (by omega),aQ,if_neg (by omega)];exact xJ⟩
    have Af:gt A1 (nx+1)=some (.row ((kT P.N.length f.Nodes.length f.Nodes.length).map (mG nm1)).flatten 92):=Ae (by simp only[A1,A0];rw[aQ,if_neg (by omega),aQ,if_neg (by omega)]);have vX:gt (ug A1 (M+1) v06) (nx+1)=some (.row ((kT P.N.length f.Nodes.length f.Nodes.length).map (mG nm1)).flatten 92):=Ae (by rw[c7,if_neg (by omega)];simp only[A1,A0];rw[aQ,if_neg (by omega),aQ,if_neg (by omega)]);have Tg:live (Sg.mk A1 (M'+2)) (nx+1) 0=true:=by simp[live,Af,B.st]
    have ZU:live (Sg.mk (ug A1 (M+1) v06) (M'+2)) (nx+1) 0=true:=by simp[live,vX,B.st]
    refine cU ?_;refine wO ?_;refine bN ⟨by kernel_rfl,⟨opm,opm,opm,opm,fA rfl rfl (FQ (X:=⟨A1,M'+2⟩) gM.h (bZ iC.h) Tg jS),fA rfl rfl (FQ (X:=⟨ug A1 (M+1) v06,M'+2⟩) gM.h (bZ iC.h) ZU jS),Q0 (X:=⟨A1,M'+2⟩) (mG nm1) (po nm1) gK.h rfl (fun _=>rfl) rfl Af jS,Q0 (X:=⟨ug A1 (M+1) v06,M'+2⟩) (mG nm1) (po nm1) gK.h rfl (fun _=>rfl) rfl vX jS,opm,opm,fA rfl rfl (FQ (X:=⟨A1,M'+2⟩) gM.h (bZ iC.h) Tg jS),Q0 (X:=⟨A1,M'+2⟩) (mG nm1) (po nm1) gK.h rfl (fun _=>rfl) rfl Af jS,opm,opm,opm,trivial⟩,?_⟩;refine goN ?_;refine⟨x.Arcs.length-(j+1),_,_,by omega,⟨j+1,s+1,_,M'+2,rfl,gZ,rfl,rfl,by omega,?_,?_,fun k hk nL=>?_⟩,by have:=hm.le;show nx<=M'+2;omega,Gh.sub ?_⟩;rw[c7,if_neg (by omega),c7,if_pos rfl];show Option.map _ (gt A1 (M+1))=_;rw[tS,yh];rfl;rw[c7,if_pos rfl,c7,if_neg (by omega)];show Option.map _ (gt A1 (nm1 q))=_;simp only[A1,A0];rw[aQ,if_neg (by omega),aQ,if_neg (by omega),xJ,yh];rfl;rw[c7,if_neg (Ne.symm nL),c7,if_neg (by omega)];show gt A1 k=_;simp only[A1,A0];rw[aQ,if_neg (by omega),aQ,if_neg (by omega)];exact fP k hk nL
    ·rw[<-yQ];(repeat refine⟨rfl,?_⟩);exact trivial
   ·refine goN ?_;have gZ:j=x.Arcs.length:=by
     have:¬ (j:Int)<x.Arcs.length:=by simpa using h9
     omega
    subst gZ;have e:l2.take x.Arcs.length=l2:=by rw[<-Tk,List.take_length]
    rw[e]at hv xJ;exact⟨_,_,⟨s,H',M',rfl,rfl,Us,hv,xJ,fP⟩,by have:=hm.le;show nx<=M';omega,Gh.sub (by((repeat refine⟨rfl,?_⟩);exact trivial))⟩
  ·refine goN ?_;have eQ:t=f.Nodes.length:=by
    have:¬ (t:Int)<f.Nodes.length:=by simpa using h7
    omega
   subst eQ;refine⟨_,_,⟨H,M,rfl,rfl,?_,xO,hM⟩,hm.le,Gh.sub (by((repeat refine⟨rfl,?_⟩);exact trivial))⟩;have e:uB P.N L f.Nodes.length=P.N++L:=by rw[<-Ay];simp[uB]
   rw[e,<-Ay]at hm;exact hm
 rintro _ _ _ ⟨t,nm1,H,M,rfl,ht,rfl,rfl,hm,xO,yu,hM⟩;refine WPU.wf fun fJ _=>?_
 haveI:SuC M (M+1):=⟨rfl⟩
 haveI:SuC (M+1) (M+2):=⟨rfl⟩
 refine goN ?_;refine dS rfl (fun h7=>?_) (fun h7=>?_)
 ·have eQ:t<f.Nodes.length:=by simpa using h7
  obtain⟨x,hx⟩:∃a,f.Nodes[t]? = some a:=⟨_,List.getElem?_eq_getElem eQ⟩;obtain⟨y,hy,kM⟩:=li t x hx;have lH:aC f.Nodes (t:Int)=some x:=by rw[aC,if_pos ⟨by omega,by omega⟩];simpa using hx
  have kN:IntKind.i64.wrap ((t:Int)+1)=((t+1:Nat):Int):=by rw[oA (by omega) (by omega)];rfl
  haveI:Nq (M+1) (nx+1):=⟨by rw[beq_eq];simp;omega⟩
  haveI:Nq M (nx+1):=⟨by rw[beq_eq];simp;omega⟩
  refine goN ?_;apply aR;refine goN ?_;refine aW lH ?_;refine goN ?_
  let N1:Z PN:=P.N++(L.take t).map JC
  have B2:N1.length=P.N.length+t:=by simp[N1];omega
  let j7:Nat->Nat:=tG nm1 N1.length (M+1)
  let R0:B:=.row [.i6 x.Typex,.nils,.nilp,.i6 0,.i6 0,.i6 0,.nils,.i6 0,.nilp,.i6 0,.bool false,.i6 0] 103
  let R2:B:=.row (pP j7 (gC x.Typex []) .nils) 103
  let H2:Z (Nat×B):=(M+1,R0)::(M,.row (bD x) 79)::H
  have i?:=hm.more fJ (.row (bD x) 79);have mO:nN ⟨(M,.row (bD x) 79)::H,M+1⟩:=fun k b hb=>by have hb:gt ((M,B.row (bD x) 79)::H) k=some b:=hb;rw[aQ]at hb;by_cases e:M=k;rw[if_pos e]at hb;cases hb;exact⟨by show k<M+1;omega,yK _ x⟩;rw[if_neg e]at hb;obtain⟨h1,h2⟩:=fJ k b hb;exact⟨Nat.lt_succ_of_lt h1,Fc (Nat.le_succ _) h2⟩
  have tP:=i?.add mO (by rw[B2];omega) x.Typex;have yz:(kT P.N.length f.Nodes.length t).map (mG nm1)=(kT P.N.length f.Nodes.length t).map (mG j7):=(qx9 (nm':=j7) (nm:=nm1) (n:=N1.length) uI (by omega)).symm;have vX:gt H2 (nx+1)=some (.row ((kT P.N.length f.Nodes.length t).map (mG j7)).flatten 92):=by simp only[H2];rw[aQ,if_neg (by omega),aQ,if_neg (by omega),xO,yz]
  have ZW:live (Sg.mk H2 (M+2)) (nx+1) 0=true:=by simp[live,vX,B.st]
  have jS:nR (kT P.N.length f.Nodes.length t) 0 f.Nodes.length (t:Int)=some none:=by rw[nR,if_pos ⟨by omega,by omega⟩];simp only[zZ,Nat.zero_add];rw[QA eQ,if_neg (Nat.lt_irrefl _)]
  refine RS.w rfl (fA rfl rfl (FQ (X:=⟨H2,M+2⟩) gM.h (bZ iC.h) ZW jS)) ?_;have D1:([.ptr (M+1) 0 0]:Z U)=mG j7 (some (P.N.length+t)):=by simp only[mG,po,pt,j7,<-B2,WN]
  refine RS.wn rfl (uf (X:=⟨H2,M+2⟩) (y:=some (P.N.length+t)) (mG j7) (bZ iC.h) (fun _=>rfl) rfl rfl rfl rfl D1 vX jS rfl) ?_;refine goN ?_;have hug:∀b,ug H2 (M+1) b=(M+1,b)::(M,.row (bD x) 79)::H:=fun b=>by simp[H2,ug,beq_eq]
  have k_:JC y=gC x.Typex []:=by obtain⟨_,kM⟩:=cQ kM;obtain⟨l2,_,kM⟩:=aL kM;obtain rfl:=sI kM;rfl
  have hH3:oT kp kr st nm P h nx j7 (P.N++(L.take (t+1)).map JC) P.size P.N.length (ug ((M+1,R2)::(M,.row (bD x) 79)::H) (nx+1) (.row ((kT P.N.length f.Nodes.length (t+1)).map (mG j7)).flatten 92)) (M+2):=by
   have e:P.N++(L.take (t+1)).map JC=N1++[gC x.Typex []]:=by rw[List.take_add_one,hy];simp[N1,k_]
   rw[e];refine tP.oth (Nat.le_succ _) (q:=((kT P.N.length f.Nodes.length t).map (mG j7)).flatten) ?_ _;rw[aQ,if_neg (by omega),aQ,if_neg (by omega),xO,yz]
  refine⟨f.Nodes.length-(t+1),_,_,by omega,⟨t+1,j7,_,M+2,rfl,eQ,rfl,rfl,hH3,?_,?_,by omega⟩,hH3.le,Gh.trans (Gh.sub (l':=[(0,.ptr kp 0 0),(3,.ptr nx 0 0),(5,.sl (nx+1) 0 f.Nodes.length f.Nodes.length),(17,.iM bD f.Nodes),(18,.i6 f.Nodes.length),(19,.i6 ((t+1:Nat):Int))]) ?_) ?_⟩;rw[c7,if_pos rfl,aQ,if_neg (by omega),aQ,if_neg (by omega),xO];rfl;rw[c7,if_neg (by omega),aQ,if_neg (by omega),aQ,if_neg (by omega)];exact yu
  ·rw[<-kN];(repeat refine⟨rfl,?_⟩);exact trivial
  have e3:(kT P.N.length f.Nodes.length t).set ((t:Int)).toNat (some (P.N.length+t))=kT P.N.length f.Nodes.length (t+1):=z3t eQ;rw[e3];have Sk:∀(b c:B),ug ((M+1,b)::(M,.row (bD x) 79)::H) (nx+1) c=(M+1,b)::(M,.row (bD x) 79)::ug H (nx+1) c:=fun b c=>by simp only[ug,beq_eq];rw[decide_eq_false (by omega),decide_eq_false (by omega)];rfl
  have A_:∀(T:Z (Nat×B))(b:B),ug ((M+1,R0)::T) (M+1) b=(M+1,b)::T:=fun T b=>by simp[ug,beq_eq]
  have t?:∀T:Z (Nat×B),gt ((M+1,R0)::T) (M+1)=some R0:=fun T=>by simp[aQ]
  refine(Gh.eqv rfl (congrArg (fun T=>(⟨T,M+2⟩:Sg)) (Sk R0 _))).trans ((Gh.rowW (X:=⟨_,M+2⟩) (K:=M+1) (t? _) (q':=pP j7 (gC x.Typex []) .nils) rfl ?_).trans (Gh.eqv rfl ?_));exact .cons (.refl _) (.cons (.refl _) (.cons (.refl _) (.cons (.refl _) (.cons (.refl _) (.cons (.refl _) (.cons (.nil false) (o3.refl _)))))));exact congrArg (fun T=>(⟨T,M+2⟩:Sg)) ((A_ _ _).trans (Sk R2 _).symm)
 ·refine goN ?_;have eQ:t=f.Nodes.length:=by
   have:¬ (t:Int)<f.Nodes.length:=by simpa using h7
   omega
  subst eQ;refine⟨_,_,⟨nm1,H,M,rfl,rfl,?_,xO,yu,hM⟩,hm.le,Gh.sub (by((repeat refine⟨rfl,?_⟩);exact trivial))⟩;have e:P.N++(L.take f.Nodes.length).map JC=uB P.N L 0:=by rw[<-Ay,List.take_length];simp[uB]
  rw[<-e];exact hm
end
end Go.Proofs
namespace Go.Proofs
open Go Go.Rx Go.Vx Tryz
set_option maxRecDepth 20000
set_option maxHeartbeats 4000000
def rg(n:Nat)(t:Int):I GFS:=a8 (K0 n 0 [0,1]) fun a=>a8 (K0 n t []) fun b=>Fi n [a,b]
def pEx(n:Nat):I BQ :=
 a8 (zn n) fun H=>a8 (rg n 1) fun f0=>a8 (sH (tI H) f0) fun r0=>aG (r0.1=0) (a8 (rg n 0) fun f1=>a8 (sH r0.2 f1) fun r1=>aG (r1.1=1) (a8 (rg n 2) fun f2=>a8 (sH r1.2 f2) fun r2=>aG (r2.1=2) (a8 (yF n r2.2 0 1) fun u=>aG (u.1.1=3/\u.1.2=true) (a8 (DZ n u.2 3) fun g=>aG (g.2=true) (a8 (yF n u.2 0 2) fun v=>aG (v.1.1=0/\v.1.2=false) (a8 (QM n g.1 f0) fun e=>aG (e=true) (a8 (W6 n v.2 1 2) fun t1=>aG (t1.1=true) (a8 (W6 n t1.2 0 2) fun t2=>aG (t2.1=false) (a8 (yF n t2.2 1 2) fun w=>aG (w.1.1=4/\w.1.2=true) (a8 (DZ n w.2 5) fun x=>aG (x.2=false/\w.2.size>=2/\w.2.size<=10) (some true)))))))))))
theorem rh(m:Nat):pEx (m+200)=some true:=by kernel_rfl
theorem Y0{n:Nat}(h:200<=n):pEx n=some true:=by
 have:=rh (n-200)
 rwa [Nat.sub_add_cancel h]at this
end Go.Proofs
namespace Go.Proofs
open Go Go.Rx Go.Vx Tryz
set_option maxRecDepth 20000
set_option maxHeartbeats 4000000
set_option synthInstance.maxSize 4000
set_option synthInstance.maxHeartbeats 200000
variable{P:PP}
variable{f:GFS}
theorem tz{r:Int×PP}(h:sH P f=some r)(w:Wf P.N)(hr:∀k∈P.roots,k<P.N.length):Wf r.2.N/\(∀k∈r.2.roots,k<r.2.N.length)/\P.N.length<=r.2.N.length:=by
 obtain⟨⟨AW,_,_⟩,h⟩:=cQ h;obtain⟨L,hL,h⟩:=aL h;obtain rfl:=sI h;obtain⟨Ay,li⟩:=Mx hL;have aN:(P.N++L).length=P.N.length+f.Nodes.length:=by simp[Ay]
 refine⟨fun x hx=>?_,fun k hk=>?_,by show _<=(P.N++L).length;omega⟩;show jK (P.N++L).length x;rw[aN];rcases yD.1 hx with hx |hx;exact(w x hx).le (Nat.le_add_right _ _);obtain⟨i,hi⟩:=List.getElem?_of_mem hx;have lV:i<f.Nodes.length:=by rw[<-Ay];exact nJ hi
 obtain⟨y,h1,h2⟩:=li i _ (List.getElem?_eq_getElem lV);rw[hi]at h1;cases h1;obtain⟨_,h2⟩:=cQ h2;obtain⟨l,h3,h2⟩:=aL h2;obtain rfl:=sI h2;obtain⟨h4,h5⟩:=Mx h3;refine⟨fun a ha=>?_,trivial,nofun,trivial⟩;obtain⟨j,hj⟩:=List.getElem?_of_mem ha;have hj:l[j]? = some a:=hj;have gZ:j<l.length:=(zG.1 hj).1;rw[h4]at gZ;obtain⟨b,h6,h7⟩:=h5 j _ (List.getElem?_eq_getElem gZ);rw[hj]at h6;cases h6;obtain⟨h8,h9,iR⟩:=ip h7;rw[iR];show P.N.length+_<_;omega;show k<(P.N++L).length;rcases yD.1 hk with hk |hk;have:=hr k hk;omega;simp at hk;subst hk;omega
variable{a:Int}
variable{b:Int}
theorem qze{n:Nat}{r:(Int×BQ)×PP}(h:yF n P a b=some r)(w:Wf P.N)(hr:∀k∈P.roots,k<P.N.length):Wf r.2.N/\(∀k∈r.2.roots,k<r.2.N.length)/\P.N.length<=r.2.N.length:=by
 obtain⟨r1,h1,h⟩:=aL h;obtain⟨s1,s2,s3,s4,s5,s6⟩:=Zd h1 w;cases hq:r1.1 with
 |none=>rw[hq]at h;obtain rfl:=sI h;exact⟨s2,fun k hk=>by rw[s4]at hk;rw[s1.len];exact hr k hk,by rw[s1.len];exact zF _⟩
 |some q=>rw[hq]at h;obtain⟨c,hc,h⟩:=aL h;obtain⟨_,h⟩:=cQ h;obtain rfl:=sI h;obtain⟨e1,e2,e3⟩:=quf hc s2;have hl:r1.2.N.length<=c.2.1.length:=e1.len;refine⟨e2,fun k hk=>?_,by show P.N.length<=c.2.1.length;rw[<-s1.len];exact hl⟩;show k<c.2.1.length;rcases yD.1 hk with hk |hk;rw[s4]at hk;have:=hr k hk;rw[<-s1.len]at this;omega;simp at hk;subst hk;exact e3
theorem z3q{n:Nat}{r:BQ×PP}(h:W6 n P a b=some r)(w:Wf P.N)(hr:∀k∈P.roots,k<P.N.length):Wf r.2.N/\(∀k∈r.2.roots,k<r.2.N.length)/\r.2.N.length=P.N.length:=by obtain⟨r1,h1,h⟩:=aL h;obtain rfl:=sI h;obtain⟨s1,s2,s3,s4,s5,s6⟩:=Zd h1 w;exact⟨s2,fun k hk=>by rw[s4]at hk;rw[s1.len];exact hr k hk,s1.len⟩
def NP(b:B):Prop:=(∀l,b≠.row l 83)/\(∀l,b≠.row l 103)/\∀l s t,b≠.vec l 92 s t
structure PL(n0:Nat)(h0:Z (Nat×B))(kp:Nat)(P:PP)(h:Z (Nat×B))(nx:Nat):Prop where
 ex:∃kr st nm,PH kp kr st nm P h/\n0<=kr/\(∀i,i<P.N.length->n0<=nm i)/\kr<nx/\kp<nx/\∀i,i<P.N.length->nm i<nx
 kp:n0<=kp
 lo:∀k,k<n0->gt h k=gt h0 k
 le:n0<=nx
structure PS(n0:Nat)(h0:Z (Nat×B))(kp:Nat)(P:PP)(h:Z (Nat×B))(nx:Nat)(h':Z (Nat×B))(nx':Nat):Prop where
 pl:PL n0 h0 kp P h' nx'
 le:nx<=nx'
 np:∀k b,k<nx->gt h k=some b->NP b->gt h' k=some b
section
variable{n0 kp:Nat}{h0:Z (Nat×B)}{P:PP}{h:Z (Nat×B)}{nx:Nat}
theorem PL.more(p:PL n0 h0 kp P h nx)(b:B):PL n0 h0 kp P ((nx,b)::h) (nx+1):=by obtain⟨kr,st,nm,h1,h2,h3,h4,h5,h6⟩:=p.ex;exact⟨⟨kr,st,nm,⟨by rw[jQ h5];exact h1.pool,by rw[jQ h4];exact h1.roots,fun i x hx=>by rw[jQ (h6 i (zG.1 hx).1)];exact h1.node i x hx,h1.inj,h1.wf,h1.rt⟩,h2,h3,by omega,by omega,fun i hi=>by have:=h6 i hi;omega⟩,p.kp,fun k hk=>by rw[jQ (Nat.lt_of_lt_of_le hk p.le)];exact p.lo k hk,Nat.le_succ_of_le p.le⟩
theorem PL.up(p:PL n0 h0 kp P h nx){nx':Nat}(hn:nx<=nx'):PL n0 h0 kp P h nx':=by obtain⟨kr,st,nm,h1,h2,h3,h4,h5,h6⟩:=p.ex;exact⟨⟨kr,st,nm,h1,h2,h3,by omega,by omega,fun i hi=>by have:=h6 i hi;omega⟩,p.kp,p.lo,Nat.le_trans p.le hn⟩
theorem PL.wf(p:PL n0 h0 kp P h nx):Wf P.N:=by obtain⟨_,_,_,h1,_⟩:=p.ex;exact h1.wf
theorem PL.rt(p:PL n0 h0 kp P h nx):∀k∈P.roots,k<P.N.length:=by obtain⟨_,_,_,h1,_⟩:=p.ex;exact h1.rt
theorem qxd{kr st:Nat}{nm:Nat->Nat}{bG:Nat}{P1:PP}(p:PH kp kr st nm P h)(rV:kp<nx)(AX:kr<nx)(AS:∀i,i<P.N.length->nm i<nx)(UM:∀x∈P1.N,jK P1.N.length x)(rt1:∀r∈P1.roots,r<P1.N.length):PH kp kr bG (iT nm P.N.length nx) P1 (cH kp kr bG (iT nm P.N.length nx) P1 h):=by
 have hc:∀i,(i<P.N.length/\iT nm P.N.length nx i=nm i)\/(P.N.length<=i/\iT nm P.N.length nx i=nx+(i-P.N.length)):=fun i=>by rcases Nat.lt_or_ge i P.N.length with h1 |h1;exact .inl ⟨h1,wY i h1⟩;exact .inr ⟨h1,by rw[iT,if_neg (by omega)]⟩
 refine uo (Ne.symm p.krp) (fun i _=>?_) (fun i _=>?_) (fun i j _ _ e=>?_) UM rt1;rcases hc i with⟨h1,h2⟩|⟨h1,h2⟩;rw[h2];exact p.kpn h1;omega;rcases hc i with⟨h1,h2⟩|⟨h1,h2⟩;rw[h2];exact p.krn h1;omega;rcases hc i with⟨h1,h2⟩|⟨h1,h2⟩<;>rcases hc j with⟨h3,h4⟩|⟨h3,h4⟩;rw[h2,h4]at e;exact p.inj i j h1 h3 e;have:=AS i h1;omega;have:=AS j h3;omega;omega
theorem R3{kr st:Nat}{nm:Nat->Nat}(p:PH kp kr st nm P h)(q1:kp<nx)(q2:kr<nx)(q3:∀i,i<P.N.length->nm i<nx)(lo:∀k,k<n0->gt h k=gt h0 k)(le:n0<=nx)(rV:n0<=kp)(AX:n0<=kr)(NM:∀i,i<P.N.length->n0<=nm i){bG:Nat}{P1:PP}(UM:Wf P1.N)(rt1:∀r∈P1.roots,r<P1.N.length)(N:Nat)(hN:nx+(P1.N.length-P.N.length)<=N):PS n0 h0 kp P1 h nx (cH kp kr bG (iT nm P.N.length nx) P1 h) N:=by
 have fF:∀k,k<nx->k≠kp->k≠kr->(∀i,i<P.N.length->nm i≠k)->gt (cH kp kr bG (iT nm P.N.length nx) P1 h) k=gt h k:=fun k k0 k1 k2 k3=>Xs k1 k2 fun i hi e=>by rcases Nat.lt_or_ge i P.N.length with h5 |h5;rw[wY i h5]at e;exact k3 i h5 e;rw[iT,if_neg (by omega)]at e;omega
 refine⟨⟨⟨kr,bG,_,qxd p q1 q2 q3 UM rt1,AX,fun i hi=>?_,by omega,by omega,fun i hi=>?_⟩,rV,fun k hk=>?_,by omega⟩,by omega,fun k b hk hb hn=>?_⟩;rcases Nat.lt_or_ge i P.N.length with h5 |h5;rw[wY i h5];exact NM i h5;rw[iT,if_neg (by omega)];omega;rcases Nat.lt_or_ge i P.N.length with h5 |h5;rw[wY i h5];have:=q3 i h5;omega;rw[iT,if_neg (by omega)];omega;rw[fF k (by omega) (by omega) (by omega) fun i hi e=>by have:=NM i hi;omega];exact lo k hk;rw[fF k hk (fun e=>?_) (fun e=>?_) fun i hi e=>?_];exact hb;rw[e,p.pool]at hb;cases hb;exact hn.1 _ rfl;rw[e,p.roots]at hb;cases hb;exact hn.2.2 _ _ _ rfl;rw[<-e,p.node i _ (List.getElem?_eq_getElem hi)]at hb;cases hb;exact hn.2.1 _ rfl
variable{k:Int}
variable{P':PP}
theorem Me(p:PL n0 h0 kp P h nx)(J:sH P f=some (k,P')):∃h' nx',aV prog 18 [.ptr kp 0 0,.agg (kH f)] ⟨h,nx⟩ (fun u X'=>u=.i6 k/\X'=⟨h',nx'⟩)/\PS n0 h0 kp P' h nx h' nx':=by obtain⟨kr,st,nm,h1,h2,h3,h4,h5,h6⟩:=p.ex;obtain⟨w1,w2,w3⟩:=tz J p.wf p.rt;exact⟨_,_,XS h1 J,R3 h1 h5 h4 h6 p.lo p.le p.kp h2 h3 w1 w2 _ (zF _)⟩
theorem z88(p:PL n0 h0 kp P h nx)(J:sH P f=some (k,P')):aV prog 18 [.ptr kp 0 0,.agg (kH f)] ⟨h,nx⟩ (fun u X'=>∃h' nx',u=.i6 k/\X'=⟨h',nx'⟩/\PS n0 h0 kp P' h nx h' nx'):=by obtain⟨h',nx',g1,g2⟩:=Me p J;exact g1.mono fun u X' ⟨e1,e2⟩=>⟨h',nx',e1,e2,g2⟩
theorem gk(p:PL n0 h0 kp P h nx){r:Int×PP}(J:sH P f=some r):aV prog 18 [.ptr kp 0 0,.agg (kH f)] ⟨h,nx⟩ (fun u X'=>∃h' nx',u=.i6 r.1/\X'=⟨h',nx'⟩/\PS n0 h0 kp r.2 h nx h' nx'):=z88 p J
theorem Zk(p:PL n0 h0 kp P h nx)(n:Nat){r:(Int×BQ)×PP}(J:yF n P a b=some r):aV prog 21 [.ptr kp 0 0,.i6 a,.i6 b] ⟨h,nx⟩ (fun u X'=>∃h' nx',u=.tup [.i6 r.1.1,.bool r.1.2]/\X'=⟨h',nx'⟩/\PS n0 h0 kp r.2 h nx h' nx'):=by obtain⟨kr,st,nm,h1,h2,h3,h4,h5,h6⟩:=p.ex;obtain⟨w1,w2,w3⟩:=qze J p.wf p.rt;exact(z4i h1 n J).mono fun u X' ⟨bG,e1,e2⟩=>⟨_,_,e1,e2,R3 h1 h5 h4 h6 p.lo p.le p.kp h2 h3 w1 w2 _ (zF _)⟩
theorem qv6(p:PL n0 h0 kp P h nx)(n:Nat){r:BQ×PP}(J:W6 n P a b=some r):∃h',aV prog 22 [.ptr kp 0 0,.i6 a,.i6 b] ⟨h,nx⟩ (fun u X'=>u=.bool r.1/\X'=⟨h',nx⟩)/\PS n0 h0 kp r.2 h nx h' nx:=by obtain⟨kr,st,nm,h1,h2,h3,h4,h5,h6⟩:=p.ex;obtain⟨w1,w2,w3⟩:=z3q J p.wf p.rt;have fF:∀k,k≠kp->k≠kr->(∀i,i<P.N.length->nm i≠k)->gt (cH kp kr st nm r.2 h) k=gt h k:=fun k k1 k2 k3=>Xs k1 k2 fun i hi=>k3 i (by omega);refine⟨_,z8m h1 n J,⟨⟨kr,st,nm,qoz h1 w3 w1 w2,h2,fun i hi=>h3 i (by omega),h4,h5,fun i hi=>h6 i (by omega)⟩,p.kp,fun k hk=>?_,p.le⟩,zF _,fun k b _ hb hn=>?_⟩;rw[fF k (by have:=p.kp;omega) (by omega) fun i hi e=>by have:=h3 i hi;omega];exact p.lo k hk;rw[fF k (fun e=>?_) (fun e=>?_) fun i hi e=>?_];exact hb;rw[e,h1.pool]at hb;cases hb;exact hn.1 _ rfl;rw[e,h1.roots]at hb;cases hb;exact hn.2.2 _ _ _ rfl;rw[<-e,h1.node i _ (List.getElem?_eq_getElem hi)]at hb;cases hb;exact hn.2.1 _ rfl
theorem td(p:PL n0 h0 kp P h nx)(n:Nat){r:GFS×BQ}(J:DZ n P k=some r):aV prog 19 [.ptr kp 0 0,.i6 k] ⟨h,nx⟩ (fun u X'=>u=.tup [.agg (kH r.1),.bool r.2]/\X'=⟨h,nx⟩):=by obtain⟨kr,st,nm,h1,_⟩:=p.ex;exact tf h1 n J
theorem Nn(p:PL n0 h0 kp P h nx)(n:Nat){ok:BQ}(J:yF n P a b=some ((k,ok),P')):aV prog 21 [.ptr kp 0 0,.i6 a,.i6 b] ⟨h,nx⟩ (fun u X'=>∃h' nx',u=.tup [.i6 k,.bool ok]/\X'=⟨h',nx'⟩/\PS n0 h0 kp P' h nx h' nx'):=Zk p n J
theorem av(p:PL n0 h0 kp P h nx)(n:Nat){ok:BQ}(J:DZ n P k=some (f,ok)):aV prog 19 [.ptr kp 0 0,.i6 k] ⟨h,nx⟩ (fun u X'=>u=.tup [.agg (kH f),.bool ok]/\X'=⟨h,nx⟩):=td p n J
theorem ef(p:PL n0 h0 kp P h nx):aV prog 16 [.ptr kp 0 0] ⟨h,nx⟩ (fun u X'=>u=.i6 P.size/\X'=⟨h,nx⟩):=by obtain⟨kr,st,nm,h1,_⟩:=p.ex;exact z8h h1
theorem z5o(H:eD)(hn:n0<=nx)(hl:∀k,k<n0->gt h k=gt h0 k):PL n0 h0 (nx+1) (tI H) (FH H nx h) (nx+3):=
 ⟨⟨nx+2,0,id,z7r H nx h id,by omega,fun i hi=>by simp[tI]at hi,by omega,by omega,fun i hi=>by simp[tI]at hi⟩,by omega,fun k hk=>by rw[FH,aQ,if_neg (by omega),aQ,if_neg (by omega),aQ,if_neg (by omega)];exact hl k hk,by omega⟩
end
structure ExR(n:Nat)(H:eD)(a0 b0 a1 b1 a2 b2:aU)(f0 f1 f2:GFS)(r0 r1 r2:Int×PP)(u v w:(Int×BQ)×PP)(g x:GFS×BQ)(t1 t2:BQ×PP):Prop where
 hH:zn n=some H
 ha0:K0 n 0 [0,1]=some a0
 hb0:K0 n 1 []=some b0
 hf0:Fi n [a0,b0]=some f0
 hr0:sH (tI H) f0=some r0
 hv0:r0.1=0
 ha1:K0 n 0 [0,1]=some a1
 hb1:K0 n 0 []=some b1
 hf1:Fi n [a1,b1]=some f1
 hr1:sH r0.2 f1=some r1
 hv1:r1.1=1
 ha2:K0 n 0 [0,1]=some a2
 hb2:K0 n 2 []=some b2
 hf2:Fi n [a2,b2]=some f2
 hr2:sH r1.2 f2=some r2
 hv2:r2.1=2
 hu:yF n r2.2 0 1=some u
 hvu:u.1.1=3/\u.1.2=true
 hg:DZ n u.2 3=some g
 hvg:g.2=true
 hv:yF n u.2 0 2=some v
 hvv:v.1.1=0/\v.1.2=false
 he:QM n g.1 f0=some true
 ht1:W6 n v.2 1 2=some t1
 hvt1:t1.1=true
 ht2:W6 n t1.2 0 2=some t2
 hvt2:t2.1=false
 hw:yF n t2.2 1 2=some w
 hvw:w.1.1=4/\w.1.2=true
 hx:DZ n w.2 5=some x
 hvx:x.2=false/\w.2.size>=2/\w.2.size<=10
theorem exR{n:Nat}(hn:200<=n):∃H a0 b0 a1 b1 a2 b2 f0 f1 f2 r0 r1 r2 u v w g x t1 t2,ExR n H a0 b0 a1 b1 a2 b2 f0 f1 f2 r0 r1 r2 u v w g x t1 t2:=by have hE:=Y0 hn;obtain⟨H,hH,hE⟩:=aL hE;obtain⟨f0,hf0,hE⟩:=aL hE;obtain⟨r0,hr0,hE⟩:=aL hE;obtain⟨v0,hE⟩:=cQ hE;obtain⟨f1,hf1,hE⟩:=aL hE;obtain⟨r1,hr1,hE⟩:=aL hE;obtain⟨v1,hE⟩:=cQ hE;obtain⟨f2,hf2,hE⟩:=aL hE;obtain⟨r2,hr2,hE⟩:=aL hE;obtain⟨v2,hE⟩:=cQ hE;obtain⟨u,hu,hE⟩:=aL hE;obtain⟨vu,hE⟩:=cQ hE;obtain⟨g,hg,hE⟩:=aL hE;obtain⟨vg,hE⟩:=cQ hE;obtain⟨v,hv,hE⟩:=aL hE;obtain⟨vv,hE⟩:=cQ hE;obtain⟨e,he,hE⟩:=aL hE;obtain⟨ve,hE⟩:=cQ hE;obtain⟨t1,ht1,hE⟩:=aL hE;obtain⟨vt1,hE⟩:=cQ hE;obtain⟨t2,ht2,hE⟩:=aL hE;obtain⟨vt2,hE⟩:=cQ hE;obtain⟨w,hw,hE⟩:=aL hE;obtain⟨vw,hE⟩:=cQ hE;obtain⟨x,hx,hE⟩:=aL hE;obtain⟨vx,hE⟩:=cQ hE;obtain⟨a0,ha0,hf0⟩:=aL hf0;obtain⟨b0,hb0,hf0⟩:=aL hf0;obtain⟨a1,ha1,hf1⟩:=aL hf1;obtain⟨b1,hb1,hf1⟩:=aL hf1;obtain⟨a2,ha2,hf2⟩:=aL hf2;obtain⟨b2,hb2,hf2⟩:=aL hf2;exact⟨H,a0,b0,a1,b1,a2,b2,f0,f1,f2,r0,r1,r2,u,v,w,g,x,t1,t2,hH,ha0,hb0,hf0,hr0,v0,ha1,hb1,hf1,hr1,v1,ha2,hb2,hf2,hr2,v2,hu,vu,hg,vg,hv,vv,by rw[ve]at he;exact he,ht1,vt1,ht2,vt2,hw,vw,hx,vx⟩
theorem Ep{m:Nat}:∀{a b:Z U},aF m a->aF m b->aF m (a++b):=fun{a b} ha hb=>by
 rw[AI];intro u hu;rcases yD.1 hu with hu |hu;exact(AI _ _).1 ha u hu;exact(AI _ _).1 hb u hu
theorem PL.live{n0 kp:Nat}{h0:Z (Nat×B)}{P:PP}{h:Z (Nat×B)}{nx:Nat}(p:PL n0 h0 kp P h nx):Go.Vx.live ⟨h,nx⟩ kp 0=true:=by obtain⟨kr,st,nm,q,_⟩:=p.ex;simp[Go.Vx.live,q.pool];rfl
theorem We{n:Nat}(hn:200<=n)(h0:Z (Nat×B))(GA:Nat):aV prog 11 [] ⟨h0,GA⟩ (fun u X'=>u=.bool true/\X'=⟨h0,GA⟩):=by
 refine aV.wf fun uP _=>?_;obtain⟨H,a0,b0,a1,b1,a2,b2,f0,f1,f2,r0,r1,r2,u,v,w,g,x,t1,t2,E⟩:=exR hn;refine bg0 131 OI ?_;refine goN ?_;refine aK rfl (pC (qnc n H E.hH) _) Vz (lK rfl (g9 rfl Bl rfl).2 (z5n H h0 GA) rfl rfl ?_);rintro _ _ ⟨rfl,rfl⟩;have p0:PL GA h0 (GA+1) (tI H) (FH H GA h0) (GA+3):=z5o H (zF _) fun _ _=>rfl;refine goN ?_;refine RS.w rfl (Y2 rfl rfl rfl (Qy pg.h p0.live rfl)) ?_;refine goN ?_;refine lK rfl (g9 rfl OH rfl).2 (ef p0) rfl rfl ?_;rintro _ _ ⟨rfl,rfl⟩;refine goN ?_;refine xV rfl (eT.bsf (cs:=[.i6 0,.i6 1]) (rs:=List.map (cI .i64) [0,1]) tb_ok rfl gN.h pX.h rfl rfl rfl rfl rfl rfl rfl rfl rfl rfl rfl (by simp[aF,aP])) ?_;rintro _ _ ⟨rfl,rfl⟩;refine goN ?_;refine aK rfl (pC (QP n 0 [0,1] a0 E.ha0) _) tZ ?_;refine goN ?_;refine aK rfl (ER (args':=[.i6 1,.isl false []]) (.cons (.refl _) (.cons (.nil false) .nil)) (pC (QP n 1 [] b0 E.hb0)) _) tZ ?_;refine goN ?_;refine xV rfl (eT.bsf (cs:=bD a0++bD b0) (rs:=List.map bD [a0,b0]) tb_ok rfl tC.h rP.h rfl rfl rfl rfl rfl rfl rfl rfl rfl rfl rfl (Ep (yK 0 _) (yK 0 _))) ?_;rintro _ _ ⟨rfl,rfl⟩;refine goN ?_;refine aK rfl (pC (qy n [a0,b0] f0 E.hf0) _) HT ?_;refine goN ?_;refine lK rfl (g9 rfl wC rfl).2 (gk (p0.up (nx':=GA+5) (by omega)) E.hr0) rfl rfl ?_;rintro _ _ ⟨h1,n1,rfl,rfl,p1⟩;rw[E.hv0];refine goN ?_;refine xV rfl (eT.bsf (cs:=[.i6 0,.i6 1]) (rs:=List.map (cI .i64) [0,1]) tb_ok rfl gN.h pX.h rfl rfl rfl rfl rfl rfl rfl rfl rfl rfl rfl (by simp[aF,aP])) ?_;rintro _ _ ⟨rfl,rfl⟩;refine goN ?_;refine aK rfl (pC (QP n 0 [0,1] a1 E.ha1) _) tZ ?_;refine goN ?_;refine aK rfl (ER (args':=[.i6 0,.isl false []]) (.cons (.refl _) (.cons (.nil false) .nil)) (pC (QP n 0 [] b1 E.hb1)) _) tZ ?_;refine goN ?_;refine xV rfl (eT.bsf (cs:=bD a1++bD b1) (rs:=List.map bD [a1,b1]) tb_ok rfl tC.h rP.h rfl rfl rfl rfl rfl rfl rfl rfl rfl rfl rfl (Ep (yK 0 _) (yK 0 _))) ?_;rintro _ _ ⟨rfl,rfl⟩;refine goN ?_;refine aK rfl (pC (qy n [a1,b1] f1 E.hf1) _) HT ?_;refine goN ?_;refine lK rfl (g9 rfl wC rfl).2 (gk (p1.pl.up (nx':=n1+2) (by omega)) E.hr1) rfl rfl ?_;rintro _ _ ⟨h2,n2,rfl,rfl,p2⟩;rw[E.hv1];refine goN ?_;refine xV rfl (eT.bsf (cs:=[.i6 0,.i6 1]) (rs:=List.map (cI .i64) [0,1]) tb_ok rfl gN.h pX.h rfl rfl rfl rfl rfl rfl rfl rfl rfl rfl rfl (by simp[aF,aP])) ?_;rintro _ _ ⟨rfl,rfl⟩;refine goN ?_;refine aK rfl (pC (QP n 0 [0,1] a2 E.ha2) _) tZ ?_;refine goN ?_;refine aK rfl (ER (args':=[.i6 2,.isl false []]) (.cons (.refl _) (.cons (.nil false) .nil)) (pC (QP n 2 [] b2 E.hb2)) _) tZ ?_;refine goN ?_;refine xV rfl (eT.bsf (cs:=bD a2++bD b2) (rs:=List.map bD [a2,b2]) tb_ok rfl tC.h rP.h rfl rfl rfl rfl rfl rfl rfl rfl rfl rfl rfl (Ep (yK 0 _) (yK 0 _))) ?_;rintro _ _ ⟨rfl,rfl⟩;refine goN ?_;refine aK rfl (pC (qy n [a2,b2] f2 E.hf2) _) HT ?_;refine goN ?_;refine lK rfl (g9 rfl wC rfl).2 (gk (p2.pl.up (nx':=n2+2) (by omega)) E.hr2) rfl rfl ?_;rintro _ _ ⟨h3,n3,rfl,rfl,p3⟩;rw[E.hv2];refine goN ?_;refine dS rfl (fun q=>absurd q (by decide)) (fun _=>?_);refine goN ?_;refine lK rfl (g9 rfl u6 rfl).2 (Zk p3.pl n E.hu) rfl rfl ?_;rintro _ _ ⟨h4,n4,rfl,rfl,p4⟩;rw[E.hvu.1,E.hvu.2]
 haveI:SuC n4 (n4+1):=⟨rfl⟩
 refine goN ?_;refine lK rfl (g9 rfl D8 rfl).2 (td p4.pl n E.hg) rfl rfl ?_;rintro _ _ ⟨rfl,rfl⟩;rw[E.hvg];refine goN ?_;refine lK rfl (g9 rfl u6 rfl).2 (Zk (p4.pl.more _) n E.hv) rfl rfl ?_;rintro _ _ ⟨h5,n5,rfl,rfl,p5⟩;rw[E.hvv.1,E.hvv.2]
 haveI:eK h5 n4 (.row [.iM bD g.1.Nodes] 39):=⟨p5.np _ _ (zN _) (by rw[aQ,if_pos rfl];rfl) ⟨nofun,nofun,nofun⟩⟩
 refine goN ?_;obtain⟨h6,e6,p6⟩:=qv6 p5.pl n E.ht1;obtain⟨h7,e7,p7⟩:=qv6 p6.pl n E.ht2;rw[E.hvt1]at e6;rw[E.hvt2]at e7
 haveI:nE 0 (bD a0++bD b0):=⟨Ep (yK 0 _) (yK 0 _)⟩
 refine dE [] ?_;refine cU ?_;refine RD.freeO (u:=.isl false (List.map (cI .i64) [0,1])) (by exact Go.Vx.wA) (sK.bs (cs:=[.i6 0,.i6 1]) gN.h pX.h rfl rfl rfl rfl rfl rfl rfl rfl rfl) rfl rfl ?_;refine cU ?_;refine dV rfl (pC (QP n 0 [0,1] a0 E.ha0)) tZ ?_;refine cU ?_;refine dV rfl (ER (args':=[.i6 1,.isl false []]) (.cons (.refl _) (.cons (.nil false) .nil)) (pC (QP n 1 [] b0 E.hb0))) tZ ?_;refine cU ?_;refine RD.freeO (u:=.isl false (List.map bD [a0,b0])) (by exact Go.Vx.wA) (sK.bs (cs:=bD a0++bD b0) tC.h rP.h rfl rfl rfl rfl rfl rfl rfl rfl rfl) rfl rfl ?_;refine cU ?_;refine dV rfl (pC (qy n [a0,b0] f0 E.hf0)) HT ?_;refine cU ?_;refine dV rfl (pC (wc n g.1 f0 true E.he)) HU ?_;refine cU ?_;refine ET (by exact Go.Vx.wA) (g9 rfl Bk rfl).2 e6 rfl rfl ?_;refine cU ?_;refine ET (by exact Go.Vx.wA) (g9 rfl Bk rfl).2 e7 rfl rfl ?_;refine cU ?_;refine bN ⟨by kernel_rfl,trivial,?_⟩;refine goN ?_;refine dS rfl (fun q=>absurd q (by decide)) (fun _=>?_);refine goN ?_;refine lK rfl (g9 rfl u6 rfl).2 (Zk p7.pl n E.hw) rfl rfl ?_;rintro _ _ ⟨h8,n8,rfl,rfl,p8⟩;rw[E.hvw.1,E.hvw.2]
 haveI:SuC n8 (n8+1):=⟨rfl⟩
 refine goN ?_;refine lK rfl (g9 rfl D8 rfl).2 (td p8.pl n E.hx) rfl rfl ?_;rintro _ _ ⟨rfl,rfl⟩;rw[E.hvx.1];refine goN ?_;refine lK rfl (g9 rfl OH rfl).2 (ef (p8.pl.more _)) rfl rfl ?_;rintro _ _ ⟨rfl,rfl⟩;refine goN ?_;rw[decide_eq_true E.hvx.2.1];refine goN ?_;refine lK rfl (g9 rfl OH rfl).2 (ef (p8.pl.more _)) rfl rfl ?_;rintro _ _ ⟨rfl,rfl⟩;refine goN ?_;rw[decide_eq_true E.hvx.2.2];refine goN ?_;exact uj uP rfl rfl rfl (p8.pl.more _).lo (p8.pl.more (.row (kH x.1) 39)).le (by simp[aP]) ⟨rfl,rfl⟩
instance:uT tb 237 [.nils,.nils,.nils] [(0,1),(1,1),(2,1)]:=⟨wG P9.h Ru.h rfl (by kernel_rfl)⟩
abbrev MB(a)(b:Nat)(c)(d:Nat)(e)(f:Nat)(g)(h):=([(6,.bv bD a 79 2 b),(5,.row [.vl 6 b 0 a.length] 39),(4,.bv (cI .i64) c 3 1 d),(3,.bv (cI .i64) e 3 1 f),(2,.row [.iM bD g,.vl 3 f 0 e.length,.vl 4 d 0 c.length] 237),(1,.row [.nils] 39),(0,.row [.iM bD h] 39)]:Z (Nat×B))
abbrev MA(a)(b:Nat)(c:Nat)(d)(e):=([(0,.row [.iM bD a,.vl 1 b 0 d.length,.vl 2 c 0 e.length] 237),(1,.bv (cI .i64) d 3 1 b),(2,.bv (cI .i64) e 3 1 c)]:Z (Nat×B))
abbrev Fk(a):=([(1,.row [.nils] 39),(0,.row [.iM bD a] 39)]:Z (Nat×B))
def Hb(p1:Z aT)(z6:Int)(l7:Z aT)(cM:Int->(Z aT)->I ((Z aT)))(eL:Int):I ((Z aT)):=
 aG ((0:Int)<=eL/\eL<=((l7.length:Nat):Int)) (
 aG (0+eL.toNat<=l7.length) (
 aG (((l7.drop 0).take eL.toNat).length*16<=140737488355328/\((l7.drop 0).take eL.toNat).length<=140737488355328) (
 a8 (aC p1 z6) fun pK=>
 aG ((((l7.drop 0).take eL.toNat).length+1)*16<=140737488355328/\((l7.drop 0).take eL.toNat).length+1<=140737488355328) (
 aG ((0:Int)<=eL/\eL<=((l7.length:Nat):Int)) (
 aG ((0+eL.toNat)+(l7.length-eL.toNat)<=l7.length) (
 aG (((((l7.drop 0).take eL.toNat)++[pK]).length+((l7.drop (0+eL.toNat)).take (l7.length-eL.toNat)).length)*16<=140737488355328/\(((l7.drop 0).take eL.toNat)++[pK]).length+((l7.drop (0+eL.toNat)).take (l7.length-eL.toNat)).length<=140737488355328) (
 cM (IntKind.i64.wrap (z6+1)) ((((l7.drop 0).take eL.toNat)++[pK])++((l7.drop (0+eL.toNat)).take (l7.length-eL.toNat))))))))))
def Ha(p1:Z aT)(z6:Int)(l7:Z aT)(cM:Int->(Z aT)->I ((Z aT))):Nat->Int->I ((Z aT))
 |0,_=>none|m2+1,IT=>a8 (cond (decide (IT>0)) (a8 (aC l7 (IntKind.i64.wrap (IT-1))) fun uU=>a8 (aC p1 z6) fun xY=>some (decide (uU.Feat>xY.Feat))) (some false)) fun b33=>cond b33 ((Ha p1 z6 l7 cM m2) (IntKind.i64.wrap (IT-1))) (Hb p1 z6 l7 cM IT)
def ji  (l9:Z aT):I ((Z aT)):=
 some l9
def MY(p1:Z aT)(n:Nat):Nat->Int->(Z aT)->I ((Z aT))
 |0,_,_=>none|m1+1,z6,l7=>cond (decide (z6<(p1.length:Int))) (Ha p1 z6 l7 (MY p1 n m1) n (l7.length:Int)) (ji l7)
def Ow(n:Nat)(p1:Z aT):I ((Z aT)):=
 MY p1 n n 0 ([]:Z aT)
theorem qf6(n:Nat)(p1:Z aT)(r:(Z aT))(J:Ow n p1=some r):aV prog 142 [.isl false (p1.map dA)] ⟨[],0⟩ (fun u X'=>∃t,u=.vl 0 t 0 r.length/\X'=⟨[(0,.bv dA r 105 2 t)],0+1⟩):=by unfold Ow at J;refine kR 52 HZ ?_;refine gr ?_;refine gr ?_;refine gr ?_;refine gV 3 105 2 1 ?_;refine gL (fun m tm X=>∃z6 l7 t8,MY p1 n m z6 l7=some r/\tm=fr 52 [(0,.iM dA p1),(3,.vl 0 t8 0 l7.length),(4,.i6 z6)]/\X=⟨[(0,.bv dA l7 105 2 t8)],1⟩) (fun tm X=>∃l9 fC,ji l9=some r/\tm=fr 52 [(3,.vl 0 fC 0 l9.length)]/\X=⟨[(0,.bv dA l9 105 2 fC)],1⟩) n ⟨0,([]:Z aT),0,J,rfl,rfl⟩ ?_ ?_;rintro _ _ ⟨l9,fC,J,rfl,rfl⟩;unfold ji at J;refine go ?_;obtain rfl:=sI J;exact⟨.inr rfl,[.vl 0 fC 0 l9.length],fH rfl fW,.vl 0 fC 0 l9.length,⟨[(0,.bv dA l9 105 2 fC)],1⟩,NZ,Gh.trans (Gh.only (fun k=>Nat.beq k 0)) (Gh.to (n1:=1) [] rfl rfl NZ NL nE.h BH.h),fC,rfl,rfl⟩;rintro(_|m1) _ _ ⟨z6,l7,t8,J,rfl,rfl⟩;cases J;unfold MY at J;refine gF J ?_ ?_<;>intro mF J;refine go ?_;apply aR;refine go ?_;refine gL (fun m tm X=>∃IT,Ha p1 z6 l7 (MY p1 n m1) m IT=some r/\tm=fr 52 [(0,.iM dA p1),(3,.vl 0 t8 0 l7.length),(4,.i6 z6),(5,.i6 IT)]/\X=⟨[(0,.bv dA l7 105 2 t8)],1⟩) (fun tm X=>∃eL,Hb p1 z6 l7 (MY p1 n m1) eL=some r/\tm=fr 52 [(0,.iM dA p1),(3,.vl 0 t8 0 l7.length),(4,.i6 z6),(5,.i6 eL)]/\X=⟨[(0,.bv dA l7 105 2 t8)],1⟩) n ⟨(l7.length:Int),J,rfl,rfl⟩ ?_ ?_;rintro _ _ ⟨eL,J,rfl,rfl⟩;unfold Hb at J;obtain⟨jU,J⟩:=cQ J;obtain⟨rZ,J⟩:=cQ J;obtain⟨tY,J⟩:=cQ J;refine go ?_;refine bT (u:=.vl 0 t8 0 eL.toNat) rfl (JW rfl uC (L5 rfl) uC (Iq dA lZ.h (bZ jI.h) xD (vo rfl) (Nat.le_of_eq (Nat.zero_add _)) (cr jU.1 jU.2))) (bT (u:=.vl 1 0 0 (((l7.drop 0).take eL.toNat).length)) (X':=⟨[(1,.bv dA ((l7.drop 0).take eL.toNat) 105 2 0),(0,.bv dA l7 105 2 t8)],2⟩) rfl (rN rfl rfl rfl rfl (af dA ((l7.drop 0).take eL.toNat) lZ.h lZ.h jI.h rfl (Yf dA xD (vo rfl) rZ) tY)) ?_);obtain⟨pK,zE,J⟩:=aL J;obtain⟨pH,J⟩:=cQ J;refine go ?_;refine aW zE ?_;refine go ?_;refine bT (u:=.sl 2 0 1 1) (X':=⟨[(2,.row (dA pK) 105),(1,.bv dA ((l7.drop 0).take eL.toNat) 105 2 0),(0,.bv dA l7 105 2 t8)],3⟩) rfl (FW lZ.h jI.h rfl rfl rfl rfl rfl rfl rfl) ?_;refine cP ?_;obtain⟨HQ,J⟩:=cQ J;obtain⟨nZ,J⟩:=cQ J;obtain⟨SI,J⟩:=cQ J;refine go ?_;refine bT (u:=.vl 0 t8 (0+eL.toNat) (l7.length-eL.toNat)) rfl (JW rfl (L5 rfl) uC uC (Iq dA lZ.h (bZ jI.h) xD (vo rfl) (Nat.le_of_eq (Nat.zero_add _)) (cq HQ.1 HQ.2))) (bT (u:=.vl 1 2 0 (((((l7.drop 0).take eL.toNat)++[pK])++((l7.drop (0+eL.toNat)).take (l7.length-eL.toNat))).length)) (X':=⟨[(2,.row (dA pK) 105),(1,.bv dA ((((l7.drop 0).take eL.toNat)++[pK])++((l7.drop (0+eL.toNat)).take (l7.length-eL.toNat))) 105 2 2),(0,.bv dA l7 105 2 t8)],3⟩) rfl (rN rfl rfl rfl rfl (C0 dA ((l7.drop (0+eL.toNat)).take (l7.length-eL.toNat)) lZ.h lZ.h jI.h rfl xD rfl (Yf dA xD (vo rfl) nZ) SI)) ?_);refine go ?_;exact⟨m1,_,_,zN _,⟨(IntKind.i64.wrap (z6+1)),((((l7.drop 0).take eL.toNat)++[pK])++((l7.drop (0+eL.toNat)).take (l7.length-eL.toNat))),2,J,rfl,rfl⟩,NZ,Gh.trans (Gh.sub (l':=[(0,.iM dA p1),(3,.vl 1 2 0 (((((l7.drop 0).take eL.toNat)++[pK])++((l7.drop (0+eL.toNat)).take (l7.length-eL.toNat))).length)),(4,.i6 (IntKind.i64.wrap (z6+1)))]) ⟨rfl,rfl,rfl,trivial⟩) (Gh.trans (Gh.mv (l':=[(0,.iM dA p1),(3,.vl 0 2 0 (((((l7.drop 0).take eL.toNat)++[pK])++((l7.drop (0+eL.toNat)).take (l7.length-eL.toNat))).length)),(4,.i6 (IntKind.i64.wrap (z6+1)))]) (h':=[(2,.row (dA pK) 105),(0,.bv dA ((((l7.drop 0).take eL.toNat)++[pK])++((l7.drop (0+eL.toNat)).take (l7.length-eL.toNat))) 105 2 2)]) 0 1 NZ rfl rfl (by simp only[rS,rU,eM,Q4,xH,Nat.beq,zC,zD]) rfl (by simp only[Wv,rB,Dy,eM,rU,Q4,Yh,xH,Nat.beq,zC,zD,and_self])) (Gh.toC (n1:=1) ⟨rfl,rfl,rfl,trivial⟩ rfl NZ (by simp)))⟩;rintro(_|m2) _ _ ⟨IT,J,rfl,rfl⟩;cases J;unfold Ha at J;obtain⟨b33,nB,J⟩:=aL J;refine gn ?_;refine fK (fun tm X=>tm=fr 52 [(0,.iM dA p1),(3,.vl 0 t8 0 l7.length),(4,.i6 z6),(5,.i6 IT),(30,.bool b33)]/\X=⟨[(0,.bv dA l7 105 2 t8)],1⟩) ?_ ?_;rintro _ _ ⟨rfl,rfl⟩;refine gF J ?_ ?_<;>intro sW J;refine go ?_;apply aR;refine go ?_;exact lC ⟨_,J,rfl,rfl⟩;refine go ?_;exact xC ⟨IT,J,rfl,rfl⟩;refine dE [] ?_;refine gd ?_;rcases gB nB with⟨BA,nB⟩|⟨BA,nB⟩;obtain⟨uU,xS,nB⟩:=aL nB;obtain⟨xY,oH,nB⟩:=aL nB;obtain rfl:=sI nB;refine gd ?_;refine RD.w rfl (fA rfl rfl (pS dA lZ.h (bZ jI.h) (by decide) xD (vo rfl) xS)) ?_;refine RD.w rfl (y9 sD.h rfl (bZ pX.h) rfl (Eb rfl) rfl) (RD.w (u:=.i6 uU.Feat) rfl (Ds dA J7.h rfl xD rfl rfl (Ed xS) rfl) ?_);refine gd ?_;refine cY oH ?_;refine gd ?_;refine bN ⟨by kernel_rfl,trivial,?_⟩;refine go ?_;exact xC ⟨rfl,rfl⟩;obtain rfl:=sI nB;refine gd ?_;refine bN ⟨by kernel_rfl,trivial,?_⟩;refine go ?_;exact xC ⟨rfl,rfl⟩;refine go ?_;exact xC ⟨l7,t8,J,rfl,rfl⟩
def Hi(jX:Int)(cM:Int->(Z Int)->(Z Int)->I ((Z Int)×(Z Int)))(AJ:Z Int)(Ho:Z Int):I ((Z Int)×(Z Int)):=
 cM (IntKind.i64.wrap (jX+1)) AJ Ho
def kw  (l27:Z Int) (dF:Z Int):I ((Z Int)×(Z Int)):=
 some (l27,dF)
def QY(p2:Z aU)(iJ:Z aT)(self:Int->(Z aU)->(Z Int)->(Z Int)->I ((Z Int)×(Z Int))):Nat->Int->(Z Int)->(Z Int)->I ((Z Int)×(Z Int))
 |0,_,_,_=>none|m1+1,jX,nV,KJ=>
  cond (decide (jX<(iJ.length:Int))) (a8 (aC iJ jX) fun xY=>
   a8 (aC nV xY.To) fun oI=>cond (decide (oI<0)) (a8 (aC iJ jX) fun L9=>
    a8 (self L9.To p2 nV KJ) fun JD=>
    Hi jX (QY p2 iJ self m1) JD.1 JD.2) (Hi jX (QY p2 iJ self m1) nV KJ)) (kw nV KJ)
def kj(n:Nat)(self:Int->(Z aU)->(Z Int)->(Z Int)->I ((Z Int)×(Z Int)))(p1:Int)(p2:Z aU)(p3:Z Int)(p5:Z Int):I ((Z Int)×(Z Int)):=
 a8 (aC p3 p1) fun x7=>
 aG ((p5.length+1)*8<=140737488355328/\p5.length+1<=140737488355328) (
 a8 (aC p2 p1) fun mH=>
 a8 (Ow n mH.Arcs) fun iJ=>
 QY p2 iJ self n 0 (p3.set (0+p1.toNat) (p5.length:Int)) (p5++[p1]))
def N5:Nat->Int->(Z aU)->(Z Int)->(Z Int)->I ((Z Int)×(Z Int))
 |0,_,_,_,_=>none|n+1,p1,p2,p3,p5=>kj n (N5 n) p1 p2 p3 p5
theorem q9c:∀(n:Nat)(p1:Int)(p2:Z aU)(p3:Z Int)(p5:Z Int)(r:(Z Int)×(Z Int)),N5 n p1 p2 p3 p5=some r->∀t4 t6:Nat,aV prog 141 [.ptr 0 0 0,.int .i64 p1] ⟨MA p2 t4 t6 p3 p5,3⟩ (fun u X'=>∃t:Nat->Nat,u=.tup []/\X'=⟨MA p2 t4 (t 0) r.1 r.2,3⟩)
 |0,p1,p2,p3,p5,r,J=>by cases J
 |n+1,p1,p2,p3,p5,r,J=>by have ih:=q9c n;unfold N5 kj at J;intro t4 t6;refine eO 62 I0 ?_;obtain⟨x7,h8,J⟩:=aL J;refine gn ?_;refine fK (fun tm X=>tm=fr 62 [(0,.ptr 0 0 0),(1,.i6 p1)]/\X=⟨MA p2 t4 t6 (p3.set (0+p1.toNat) (p5.length:Int)) p5,3⟩) ?_ ?_;rintro _ _ ⟨rfl,rfl⟩;obtain⟨h9,J⟩:=cQ J;refine go ?_;refine bT (u:=.ptr 0 0 0) rfl (BY rfl rfl) ?_;refine go ?_;refine cP ?_;refine cP ?_;refine bT (u:=.ptr 0 0 0) rfl (BY rfl rfl) ?_;obtain⟨mH,mF,iJ,eH,J⟩:=cB J;refine go ?_;refine bT (u:=.ptr 0 0 0) rfl (BY rfl rfl) ?_;refine go ?_;refine aW mF ?_;refine go ?_;refine lK (R:=fun u X'=>u=.vl 4 0 0 iJ.length/\X'=⟨(4,.bv dA iJ 105 2 0)::(3,.row [.i6 p1] 3)::MA p2 t4 (t6+1) (p3.set (0+p1.toNat) (p5.length:Int)) (p5++[p1]),5⟩) (args:=[.iM dA mH.Arcs]) rfl (FY rfl rfl HZ rfl rfl rfl) (aV.own0 dA (qf6 n mH.Arcs iJ eH) _ 4 rfl) rfl rfl ?_;rintro _ _ ⟨rfl,rfl⟩;refine go ?_;refine gL (fun m tm X=>∃jX nV,∃KJ Kc,QY p2 iJ (N5 n) m jX nV KJ=some r/\tm=fr 62 [(0,.ptr 0 0 0),(4,.vl 4 0 0 iJ.length),(5,.i6 jX)]/\X=⟨(4,.bv dA iJ 105 2 0)::(3,.row [.i6 p1] 3)::MA p2 t4 Kc nV KJ,5⟩) (fun tm X=>∃l27 dF oV,kw l27 dF=some r/\tm=fr 62 []/\X=⟨(4,.bv dA iJ 105 2 0)::(3,.row [.i6 p1] 3)::MA p2 t4 oV l27 dF,5⟩) n ⟨0,(p3.set (0+p1.toNat) (p5.length:Int)),(p5++[p1]),(t6+1),J,rfl,rfl⟩ ?_ ?_;rintro _ _ ⟨l27,dF,oV,J,rfl,rfl⟩;unfold kw at J;refine go ?_;obtain rfl:=sI J;exact⟨.inl rfl,[],fW,.tup [],⟨MA p2 t4 oV l27 dF,3⟩,NL,Gh.to (n1:=3) [] rfl rfl NL NL nE.h BH.h,stF [oV],rfl,rfl⟩;rintro(_|m1) _ _ ⟨jX,nV,KJ,Kc,J,rfl,rfl⟩;cases J;unfold QY at J;refine gF J ?_ ?_<;>intro xS J;refine go ?_;apply aR;obtain⟨xY,oH,oI,nB,J⟩:=cB J;refine go ?_;refine dE [] ?_;refine gd ?_;refine bM (u:=.ptr 0 0 0) rfl (BY rfl rfl) ?_;refine gd ?_;refine bM rfl (fA rfl rfl (pS dA lZ.h (bZ jI.h) (by decide) xD (vo rfl) oH)) ?_;refine bM rfl (y9 sD.h rfl (bZ pX.h) rfl (Eb rfl) rfl) (bM (u:=.i6 xY.To) rfl (Ds dA J7.h rfl xD rfl rfl (Ed oH) rfl) ?_);refine bM rfl (fA rfl rfl (pS (cI .i64) gN.h (bZ pX.h) (by decide) (uE .i64) (vo rfl) nB)) ?_;refine bM rfl (yG (cI .i64) (fun x=>.i6 x) J7.h rfl (fun _=>rfl) rfl rfl nB) ?_;refine gd ?_;refine bN ⟨by kernel_rfl,trivial,?_⟩;refine gn ?_;refine fK (fun tm X=>∃AJ Ho pn,Hi jX (QY p2 iJ (N5 n) m1) AJ Ho=some r/\tm=fr 62 [(0,.ptr 0 0 0),(4,.vl 4 0 0 iJ.length),(5,.i6 jX)]/\X=⟨(4,.bv dA iJ 105 2 0)::(3,.row [.i6 p1] 3)::MA p2 t4 pn AJ Ho,5⟩) ?_ ?_;rintro _ _ ⟨AJ,Ho,pn,J,rfl,rfl⟩;unfold Hi at J;refine go ?_;exact lC ⟨_,AJ,Ho,pn,J,rfl,rfl⟩;refine cF J ?_ ?_<;>intro sW J;obtain⟨L9,HP,JD,HO,J⟩:=cB J;refine go ?_;refine bT rfl (fA rfl rfl (pS dA lZ.h (bZ jI.h) (by decide) xD (vo rfl) HP)) ?_;refine bT rfl (y9 sD.h rfl (bZ pX.h) rfl (Eb rfl) rfl) (bT (u:=.i6 L9.To) rfl (Ds dA J7.h rfl xD rfl rfl (Ed HP) rfl) (lK (args:=[.ptr 0 0 0,.i6 L9.To]) rfl (FY rfl rfl I0 rfl rfl rfl) (aV.st [0,1,2] (ih L9.To p2 nV KJ JD HO t4 Kc)) rfl rfl ?_));rintro _ _ ⟨Df,rfl,rfl⟩;refine go ?_;exact xC ⟨JD.1,JD.2,(Df 0),J,rfl,rfl⟩;refine go ?_;exact xC ⟨nV,KJ,Kc,J,rfl,rfl⟩;refine go ?_;exact xC ⟨nV,KJ,Kc,J,rfl,rfl⟩;refine dE [] ?_;refine gd ?_;refine bM (u:=.ptr 0 0 0) rfl (BY rfl rfl) ?_;refine gd ?_;refine bM (u:=.ptr 0 0 0) rfl (BY rfl rfl) ?_;refine gd ?_;refine bM rfl (fA rfl rfl (pS (cI .i64) gN.h (bZ pX.h) (by decide) (uE .i64) (vo rfl) h8)) ?_;refine Ip (u:=.junk) (X':=⟨[(0,.row [.iM bD p2,.vl 1 t4 0 p3.length,.vl 2 t6 0 p5.length] 237),(1,.bv (cI .i64) (p3.set (0+p1.toNat) (p5.length:Int)) 3 1 t4),(2,.bv (cI .i64) p5 3 1 t6)],3⟩) rfl (Kg (cI .i64) (bZ pX.h) (uE .i64) rfl rfl rfl rfl rfl rfl rfl (Ed h8) rfl) rfl ?_;refine bN ⟨by kernel_rfl,trivial,?_⟩;refine go ?_;exact⟨_,_,⟨rfl,rfl⟩,NL,L0 ⟨rfl,rfl,trivial⟩ (by simp only[MA,List.length_set])⟩
def Pc(tA:Int)(l27:Z aU)(nP:Int->(Z aU)->I (GFS))(pJ:aU)(NA:Z aT):I (GFS):=
 aG ((l27.length+1)*32<=140737488355328/\l27.length+1<=140737488355328) (
 nP (IntKind.i64.wrap (tA+1)) (l27++[(aU.mk pJ.Typex NA)]))
def X8(kG:(Z Int)×(Z Int))(tA:Int)(l27:Z aU)(nP:Int->(Z aU)->I (GFS))(pJ:aU):Nat->Int->(Z aT)->I (GFS)
 |0,_,_=>none|m3+1,zR,pV=>
  cond (decide (zR<(pV.length:Int))) (a8 (aC pV zR) fun sb=>
   a8 (aC kG.1 sb.To) fun DK=>
   a8 (aC pV zR) fun UE=>(X8 kG tA l27 nP pJ m3) (IntKind.i64.wrap (zR+1)) (pV.set (0+zR.toNat) (aT.mk UE.Feat DK))) (Pc tA l27 nP pJ pV)
def wb  (YL:Z aU):I (GFS):=
 some (GFS.mk YL)
def MM(p1:GFS)(n:Nat)(kG:(Z Int)×(Z Int)):Nat->Int->(Z aU)->I (GFS)
 |0,_,_=>none|m2+1,tA,l27=>
  cond (decide (tA<(kG.2.length:Int))) (a8 (aC kG.2 tA) fun xX=>
   a8 (aC p1.Nodes xX) fun pJ=>
   a8 (Ow n pJ.Arcs) fun Di=>
   X8 kG tA l27 (MM p1 n kG m2) pJ n 0 Di) (wb l27)
def Pd(p1:GFS)(p2:Int)(n:Nat)(lS:Z Int):I (GFS):=
 a8 (N5 n p2 p1.Nodes lS ([]:Z Int)) fun kG=>
 MM p1 n kG n 0 ([]:Z aU)
def Gr(p1:GFS)(p2:Int)(n:Nat):Nat->Int->(Z Int)->I (GFS)
 |0,_,_=>none|m1+1,z9,kX=>cond (decide (z9<(p1.Nodes.length:Int))) (aG ((kX.length+1)*8<=140737488355328/\kX.length+1<=140737488355328) ((Gr p1 p2 n m1) (IntKind.i64.wrap (z9+1)) (kX++[(-1)]))) (Pd p1 p2 n kX)
def Ny(n:Nat)(p1:GFS)(p2:Int):I (GFS):=
 Gr p1 p2 n n 0 ([]:Z Int)
theorem qqk(n:Nat)(p1:GFS)(p2:Int)(r:GFS)(J:Ny n p1 p2=some r):dJ prog 101 [.agg [.isl false (p1.Nodes.map bD)],.int .i64 p2] (.agg [.isl false (r.Nodes.map bD)]):=by unfold Ny at J;refine eO 88 TJ ?_;refine gr ?_;refine gr ?_;refine gr ?_;refine dY (tm':=fr 88 [(1,.i6 p2),(2,.ptr 0 0 0),(4,.ptr 1 0 0),(5,.ptr 2 0 0),(6,.i6 0)]) (X':=⟨(3,.bv (cI .i64) ([]:Z Int) 3 1 0)::(2,.row [.iM bD p1.Nodes,.vl 3 0 0 (([]:Z Int).length),.nils] 237)::Fk p1.Nodes,4⟩) (Gh.trans (ES 2 1 3 1 (by decide) NZ rfl rfl) (L0 ⟨rfl,rfl,rfl,rfl,rfl,trivial⟩ rfl)) NZ ?_;refine gL (fun m tm X=>∃z9 kX F9,Gr p1 p2 n m z9 kX=some r/\tm=fr 88 [(1,.i6 p2),(2,.ptr 0 0 0),(4,.ptr 1 0 0),(5,.ptr 2 0 0),(6,.i6 z9)]/\X=⟨(3,.bv (cI .i64) kX 3 1 F9)::(2,.row [.iM bD p1.Nodes,.vl 3 F9 0 kX.length,.nils] 237)::Fk p1.Nodes,4⟩) (fun tm X=>∃lS nG,Pd p1 p2 n lS=some r/\tm=fr 88 [(1,.i6 p2),(2,.ptr 0 0 0),(4,.ptr 1 0 0),(5,.ptr 2 0 0)]/\X=⟨(3,.bv (cI .i64) lS 3 1 nG)::(2,.row [.iM bD p1.Nodes,.vl 3 nG 0 lS.length,.nils] 237)::Fk p1.Nodes,4⟩) n ⟨0,([]:Z Int),0,J,rfl,rfl⟩ ?_ ?_;rintro _ _ ⟨lS,nG,J,rfl,rfl⟩;unfold Pd at J;refine gn ?_;refine dY (tm':=fr 88 [(1,.i6 p2),(2,.ptr 0 0 0),(4,.ptr 1 0 0),(5,.ptr 2 0 0)]) (X':=⟨(4,.bv (cI .i64) ([]:Z Int) 3 1 0)::(3,.bv (cI .i64) lS 3 1 nG)::(2,.row [.iM bD p1.Nodes,.vl 3 nG 0 lS.length,.vl 4 0 0 (([]:Z Int).length)] 237)::Fk p1.Nodes,5⟩) (Gh.trans (ES 2 2 3 1 (by decide) NZ rfl rfl) (L0 ⟨rfl,rfl,rfl,rfl,trivial⟩ rfl)) NZ ?_;obtain⟨kG,kQ,J⟩:=aL J;refine go ?_;refine lK (args:=[.ptr 2 0 0,.i6 p2]) rfl (FY rfl rfl I0 rfl rfl rfl) (aV.st [2,3,4] (q9c n p2 p1.Nodes lS ([]:Z Int) kG kQ nG 0)) rfl rfl ?_;rintro _ _ ⟨mI,rfl,rfl⟩;refine gr ?_;refine gr ?_;refine dY (tm':=fr 88 [(2,.ptr 0 0 0),(4,.ptr 1 0 0),(5,.ptr 2 0 0),(7,.ptr 5 0 0),(8,.i6 0)]) (X':=⟨(6,.bv bD ([]:Z aU) 79 2 0)::(5,.row [.vl 6 0 0 (([]:Z aU).length)] 39)::(4,.bv (cI .i64) kG.2 3 1 (mI 0))::(3,.bv (cI .i64) kG.1 3 1 nG)::(2,.row [.iM bD p1.Nodes,.vl 3 nG 0 kG.1.length,.vl 4 (mI 0) 0 kG.2.length] 237)::Fk p1.Nodes,7⟩) (Gh.trans (ES 5 0 79 2 (by decide) NZ rfl rfl) (L0 ⟨rfl,rfl,rfl,rfl,rfl,trivial⟩ rfl)) NZ ?_;refine gL (fun m tm X=>∃tA l27 J9,MM p1 n kG m tA l27=some r/\tm=fr 88 [(2,.ptr 0 0 0),(4,.ptr 1 0 0),(5,.ptr 2 0 0),(7,.ptr 5 0 0),(8,.i6 tA)]/\X=⟨MB l27 J9 kG.2 (mI 0) kG.1 nG p1.Nodes p1.Nodes,7⟩) (fun tm X=>∃YL pu,wb YL=some r/\tm=fr 88 [(4,.ptr 1 0 0),(7,.ptr 5 0 0)]/\X=⟨MB YL pu kG.2 (mI 0) kG.1 nG p1.Nodes p1.Nodes,7⟩) n ⟨0,([]:Z aU),0,J,rfl,rfl⟩ ?_ ?_;rintro _ _ ⟨YL,pu,J,rfl,rfl⟩;unfold wb at J;refine go ?_;obtain rfl:=sI J;exact rT (us:=[.agg [.vl 6 pu 0 YL.length]]) (u:=.agg [.iM bD YL]) (wS (vD rH.h rfl (bZ iU.h) rfl rfl rfl) (fW)) (fR 6 2);rintro(_|m2) _ _ ⟨tA,l27,J9,J,rfl,rfl⟩;cases J;unfold MM at J;refine go ?_;refine bT (u:=.ptr 2 0 0) rfl (BY rfl rfl) ?_;refine gF J ?_ ?_<;>intro D6 J;refine go ?_;apply aR;obtain⟨xX,B9,pJ,sW,J⟩:=cB J;refine go ?_;refine dE [(0,11),(1,11),(2,11),(3,11),(4,11),(5,11),(6,11),(7,11),(8,11),(9,11),(10,11)] ?_;refine gd ?_;refine bM (u:=.ptr 2 0 0) rfl (BY rfl rfl) ?_;refine gd ?_;refine bM rfl (fA rfl rfl (pS (cI .i64) gN.h (bZ pX.h) (by decide) (uE .i64) (vo rfl) B9)) ?_;refine bM rfl (yG (cI .i64) (fun x=>.i6 x) J7.h rfl (fun _=>rfl) rfl rfl B9) ?_;refine cY sW ?_;refine gd ?_;refine fO ?_;refine wO ?_;refine bN ⟨by kernel_rfl,⟨y9 rH.h rfl (bZ i_.h) rfl rfl rfl,⟨LS tC.h rfl rfl rfl rfl,⟨mW rfl,⟨BY rfl rfl,⟨y9 P9.h rfl (bZ Ry.h) rfl rfl rfl,⟨LS gN.h rfl rfl rfl rfl,⟨mW rfl,⟨fA rfl rfl (pS (cI .i64) gN.h (bZ pX.h) (by decide) (uE .i64) (vo rfl) B9),⟨yG (cI .i64) (fun x=>.i6 x) J7.h rfl (fun _=>rfl) rfl rfl B9,⟨fA rfl rfl (Ee bD tC.h (bZ rP.h) qmb sW rfl),⟨z5k EY.h rfl (bZ rP.h) rfl rfl,trivial⟩⟩⟩⟩⟩⟩⟩⟩⟩⟩⟩,?_⟩;obtain⟨Di,KX,J⟩:=aL J;refine go ?_;refine lK (R:=fun u X'=>u=.vl 8 0 0 Di.length/\X'=⟨(8,.bv dA Di 105 2 0)::(7,.row (bD pJ) 79)::MB l27 J9 kG.2 (mI 0) kG.1 nG p1.Nodes p1.Nodes,9⟩) (args:=[.iM dA pJ.Arcs]) rfl (FY rfl rfl HZ rfl rfl rfl) (aV.own0 dA (qf6 n pJ.Arcs Di KX) _ 8 rfl) rfl rfl ?_;rintro _ _ ⟨rfl,rfl⟩;refine go ?_;refine gL (fun m tm X=>∃zR pV,X8 kG tA l27 (MM p1 n kG m2) pJ m zR pV=some r/\tm=fr 88 [(2,.ptr 0 0 0),(4,.ptr 1 0 0),(5,.ptr 2 0 0),(7,.ptr 5 0 0),(8,.i6 tA),(9,.ptr 7 0 0),(10,.vl 8 0 0 pV.length),(11,.i6 zR)]/\X=⟨(8,.bv dA pV 105 2 0)::(7,.row (bD pJ) 79)::MB l27 J9 kG.2 (mI 0) kG.1 nG p1.Nodes p1.Nodes,9⟩) (fun tm X=>∃NA,Pc tA l27 (MM p1 n kG m2) pJ NA=some r/\tm=fr 88 [(2,.ptr 0 0 0),(4,.ptr 1 0 0),(5,.ptr 2 0 0),(7,.ptr 5 0 0),(8,.i6 tA),(9,.ptr 7 0 0),(10,.vl 8 0 0 NA.length)]/\X=⟨(8,.bv dA NA 105 2 0)::(7,.row (bD pJ) 79)::MB l27 J9 kG.2 (mI 0) kG.1 nG p1.Nodes p1.Nodes,9⟩) n ⟨0,Di,J,rfl,rfl⟩ ?_ ?_;rintro _ _ ⟨NA,J,rfl,rfl⟩;unfold Pc at J;refine gn ?_;refine dY (tm':=fr 88 [(2,.ptr 0 0 0),(4,.ptr 1 0 0),(5,.ptr 2 0 0),(7,.ptr 5 0 0),(8,.i6 tA),(9,.ptr 7 0 0),(10,.iM dA NA)]) (X':=⟨(7,.row (bD pJ) 79)::MB l27 J9 kG.2 (mI 0) kG.1 nG p1.Nodes p1.Nodes,9⟩) (Gh.trans (Gh.sub (l':=[(2,.ptr 0 0 0),(4,.ptr 1 0 0),(5,.ptr 2 0 0),(7,.ptr 5 0 0),(8,.i6 tA),(9,.ptr 7 0 0),(10,.vl 8 0 0 NA.length)]) ⟨rfl,rfl,rfl,rfl,rfl,rfl,rfl,trivial⟩) (U4 8 2)) NZ ?_;obtain⟨ln,J⟩:=cQ J;refine go ?_;refine cP ?_;refine cP ?_;refine go ?_;exact lC ⟨_,(l27++[(aU.mk pJ.Typex NA)]),(J9+1),J,rfl,rfl⟩;rintro(_|m3) _ _ ⟨zR,pV,J,rfl,rfl⟩;cases J;unfold X8 at J;refine gF J ?_ ?_<;>intro lm J;refine go ?_;apply aR;obtain⟨sb,ll,DK,Uv,UE,lj,J⟩:=pR J;refine gn ?_;refine fK (fun tm X=>tm=fr 88 [(2,.ptr 0 0 0),(4,.ptr 1 0 0),(5,.ptr 2 0 0),(7,.ptr 5 0 0),(8,.i6 tA),(9,.ptr 7 0 0),(10,.vl 8 0 0 ((pV.set (0+zR.toNat) (aT.mk UE.Feat DK)).length)),(11,.i6 zR)]/\X=⟨(8,.bv dA (pV.set (0+zR.toNat) (aT.mk UE.Feat DK)) 105 2 0)::(7,.row (bD pJ) 79)::MB l27 J9 kG.2 (mI 0) kG.1 nG p1.Nodes p1.Nodes,9⟩) ?_ ?_;rintro _ _ ⟨rfl,rfl⟩;refine go ?_;exact lC ⟨_,(pV.set (0+zR.toNat) (aT.mk UE.Feat DK)),J,rfl,rfl⟩;refine dE [] ?_;refine gd ?_;refine bM (u:=.ptr 2 0 0) rfl (BY rfl rfl) ?_;refine gd ?_;refine bM rfl (fA rfl rfl (pS dA lZ.h (bZ jI.h) (by decide) xD (vo rfl) ll)) ?_;refine bM rfl (y9 sD.h rfl (bZ pX.h) rfl (Eb rfl) rfl) (bM (u:=.i6 sb.To) rfl (Ds dA J7.h rfl xD rfl rfl (Ed ll) rfl) ?_);refine bM rfl (fA rfl rfl (pS (cI .i64) gN.h (bZ pX.h) (by decide) (uE .i64) (vo rfl) Uv)) ?_;refine bM rfl (yG (cI .i64) (fun x=>.i6 x) J7.h rfl (fun _=>rfl) rfl rfl Uv) ?_;refine bM rfl (fA rfl rfl (pS dA lZ.h (bZ jI.h) (by decide) xD (vo rfl) lj)) ?_;refine bM rfl (y9 sD.h rfl (bZ pX.h) rfl (Eb rfl) rfl) (Ip (u:=.junk) (X':=⟨(8,.bv dA (pV.set (0+zR.toNat) (aT.mk UE.Feat DK)) 105 2 0)::(7,.row (bD pJ) 79)::MB l27 J9 kG.2 (mI 0) kG.1 nG p1.Nodes p1.Nodes,9⟩) rfl (st_vf (y:=(aT.mk UE.Feat DK)) dA (bZ pX.h) xD rfl rfl rfl rfl rfl rfl (Ed lj) rfl rfl) rfl ?_);refine bN ⟨by kernel_rfl,trivial,?_⟩;refine go ?_;exact⟨_,_,⟨rfl,rfl⟩,NZ,L0 ⟨rfl,rfl,rfl,rfl,rfl,rfl,(by simp only[Fk,MB,List.length_set];rfl),rfl,trivial⟩ rfl⟩;refine go ?_;exact xC ⟨pV,J,rfl,rfl⟩;refine go ?_;exact xC ⟨l27,J9,J,rfl,rfl⟩;rintro(_|m1) _ _ ⟨z9,kX,F9,J,rfl,rfl⟩;cases J;unfold Gr at J;refine gF J ?_ ?_<;>intro h63 J;refine go ?_;apply aR;obtain⟨xR,J⟩:=cQ J;refine go ?_;refine bT (u:=.ptr 2 0 0) rfl (BY rfl rfl) ?_;refine go ?_;refine cP ?_;refine cP ?_;refine bT (u:=.ptr 2 0 0) rfl (BY rfl rfl) ?_;refine go ?_;exact lC ⟨_,(kX++[(-1)]),(F9+1),J,rfl,rfl⟩;refine go ?_;exact xC ⟨kX,F9,J,rfl,rfl⟩
end Go.Proofs
namespace Go.Proofs
open Go Go.Rx Go.Vx Tryz
instance:TbP prog tb:=⟨tb_ok⟩
set_option maxRecDepth 20000
set_option maxHeartbeats 4000000
set_option synthInstance.maxSize 4000
set_option synthInstance.maxHeartbeats 200000
structure cz where
 E0:Int
 E1:Int
def Zi(x:cz):Z U:=[.int .i64 x.E0,.int .i64 x.E1]
theorem qrv(x:cz):(Zi x).length=2:=rfl
instance:gR Zi 2:=⟨qrv⟩
abbrev Zw(a)(b)(c:B):=([(2,.row [.iM bD a] 39),(1,.row [.iM bD b] 39),(0,c)]:Z (Nat×B))
def Hg(n:Nat): I (eD):=
 a8 (Pf n) fun r3=>
 a8 (MN n r3) fun r5=>some (eD.mk r5.1.Types r5.1.Feats)
def jt(n:Nat)(p1:Z bC):I (eD):=
 cond (decide ((p1.length:Int)<=12)) (a8 (MN n p1) fun r7=>cond (r7.2==0) (some (eD.mk r7.1.Types r7.1.Feats)) (Hg n)) (Hg n)
theorem qhx(n:Nat)(p1:Z bC)(r:eD)(J:jt n p1=some r):dJ prog 9 [.isl false (p1.map bJ)] (.agg (m5 r)):=by unfold jt at J;refine kR 24 fn9 ?_;refine gr ?_;refine gr ?_;refine fK (fun tm X=>Hg n=some r/\tm=fr 24 [(2,.ptr 0 0 0)]/\X=⟨[(0,.row [.nils,.nils] 27)],1⟩) ?_ ?_;rintro _ _ ⟨J,rfl,rfl⟩;unfold Hg at J;obtain⟨r3,h4,r5,h6,J⟩:=cB J;refine go ?_;refine aK rfl (pC (qkt n r3 h4) _) Wa (aK rfl (pC (om n r3 r5 h6) _) OG ?_);refine go ?_;obtain rfl:=sI J;exact rT (wS (vD tD.h rfl (bZ CK.h) rfl rfl rfl) (fW)) (DJ _ rfl);refine cF J ?_ ?_<;>intro h2 J;obtain⟨r7,h8,J⟩:=aL J;refine go ?_;refine aK rfl (pC (om n p1 r7 h8) _) OG ?_;refine gF J ?_ ?_<;>intro h9 J;refine go ?_;obtain rfl:=sI J;exact rT (wS (vD tD.h rfl (bZ CK.h) rfl rfl rfl) (fW)) (DJ _ rfl);refine go ?_;exact xC ⟨J,rfl,rfl⟩;refine go ?_;exact xC ⟨J,rfl,rfl⟩
def xe: I (BQ):=
 some true
def Gu(p1:GFS):Nat->Int->I (BQ)
 |0,_=>none|m1+1,z5=>cond (decide (z5<(p1.Nodes.length:Int))) (a8 (aC p1.Nodes z5) fun x7=>cond (decide ((x7.Arcs.length:Int)>12)) (some false) ((Gu p1 m1) (IntKind.i64.wrap (z5+1)))) (xe)
def Og(n:Nat)(p1:GFS):I (BQ):=
 cond (decide ((p1.Nodes.length:Int)>12)) (some false) (Gu p1 n 0)
theorem qo8(n:Nat)(p1:GFS)(r:BQ)(J:Og n p1=some r):dJ prog 41 [.agg [.isl false (p1.Nodes.map bD)]] (.bool r):=by unfold Og at J;refine kR 23 Vy ?_;refine gF J ?_ ?_<;>intro h2 J;exact gx J;refine go ?_;refine gL (fun m tm X=>∃z5,Gu p1 m z5=some r/\tm=fr 23 [(1,.ptr 0 0 0),(3,.i6 z5)]/\X=⟨[(0,.row [.iM bD p1.Nodes] 39)],1⟩) (fun tm X=>xe=some r/\tm=fr 23 []/\X=⟨[(0,.row [.iM bD p1.Nodes] 39)],1⟩) n ⟨0,J,rfl,rfl⟩ ?_ ?_;rintro _ _ ⟨J,rfl,rfl⟩;unfold xe at J;exact gx J;rintro(_|m1) _ _ ⟨z5,J,rfl,rfl⟩;cases J;unfold Gu at J;refine gF J ?_ ?_<;>intro h6 J;refine go ?_;apply aR;obtain⟨x7,h8,J⟩:=aL J;refine go ?_;refine aW h8 ?_;refine gF J ?_ ?_<;>intro h9 J;exact gx J;refine go ?_;exact lC ⟨_,J,rfl,rfl⟩;refine go ?_;exact xC ⟨J,rfl,rfl⟩
def zz(z6:Int)(cM:Int->I (Int)): I (Int):=
 cM (IntKind.i64.wrap (z6+1))
def Gq(p1:Z aT)(z6:Int)(cM:Int->I (Int)):Nat->Int->I (Int)
 |0,_=>none|m2+1,jX=>cond (decide (jX<z6)) (a8 (aC p1 jX) fun J3=>a8 (aC p1 z6) fun DL=>cond (J3.Feat==DL.Feat) (some 4) ((Gq p1 z6 cM m2) (IntKind.i64.wrap (jX+1)))) (zz z6 cM)
def wa: I (Int):=
 some 0
def ML(p1:Z aT)(p2:Int)(n:Nat):Nat->Int->I (Int)
 |0,_=>none|m1+1,z6=>cond (decide (z6<(p1.length:Int))) (a8 (a8 (aC p1 z6) fun x8=>cond (decide (x8.Feat<0)) (some true) (a8 (aC p1 z6) fun sC=>cond (decide (sC.To<0)) (some true) (a8 (aC p1 z6) fun u7=>some (decide (u7.To>=p2))))) fun b16=>cond b16 (some 2) (Gq p1 z6 (ML p1 p2 n m1) n 0)) (wa)
def qu(n:Nat)(p1:Z aT)(p2:Int):I (Int):=
 ML p1 p2 n n 0
theorem qql(n:Nat)(p1:Z aT)(p2:Int)(r:Int)(J:qu n p1 p2=some r):dJ prog 140 [.isl false (p1.map dA),.int .i64 p2] (.int .i64 r):=by unfold qu at J;refine eO 52 T3 ?_;refine go ?_;refine gL (fun m tm X=>∃z6,ML p1 p2 n m z6=some r/\tm=fr 52 [(0,.iM dA p1),(1,.i6 p2),(5,.i6 z6)]/\X=⟨[],0⟩) (fun tm X=>wa=some r/\tm=fr 52 []/\X=⟨[],0⟩) n ⟨0,J,rfl,rfl⟩ ?_ ?_;rintro _ _ ⟨J,rfl,rfl⟩;unfold wa at J;exact gx J;rintro(_|m1) _ _ ⟨z6,J,rfl,rfl⟩;cases J;unfold ML at J;refine gF J ?_ ?_<;>intro h7 J;refine go ?_;apply aR;obtain⟨b16,iV,J⟩:=aL J;refine gn ?_;refine fK (fun tm X=>tm=fr 52 [(0,.iM dA p1),(1,.i6 p2),(5,.i6 z6),(35,.bool b16)]/\X=⟨[],0⟩) ?_ ?_;rintro _ _ ⟨rfl,rfl⟩;refine gF J ?_ ?_<;>intro dU J;exact gx J;refine go ?_;refine gL (fun m tm X=>∃jX,Gq p1 z6 (ML p1 p2 n m1) m jX=some r/\tm=fr 52 [(0,.iM dA p1),(1,.i6 p2),(5,.i6 z6),(6,.i6 jX)]/\X=⟨[],0⟩) (fun tm X=>zz z6 (ML p1 p2 n m1)=some r/\tm=fr 52 [(0,.iM dA p1),(1,.i6 p2),(5,.i6 z6)]/\X=⟨[],0⟩) n ⟨0,J,rfl,rfl⟩ ?_ ?_;rintro _ _ ⟨J,rfl,rfl⟩;unfold zz at J;refine go ?_;exact lC ⟨_,J,rfl,rfl⟩;rintro(_|m2) _ _ ⟨jX,J,rfl,rfl⟩;cases J;unfold Gq at J;refine gF J ?_ ?_<;>intro pH J;refine go ?_;apply aR;obtain⟨J3,nZ,DL,BA,J⟩:=cB J;refine go ?_;refine dE [] ?_;refine gd ?_;refine cY nZ ?_;refine gd ?_;refine cY BA ?_;refine gd ?_;refine bN ⟨by kernel_rfl,trivial,?_⟩;refine gF J ?_ ?_<;>intro sX J;exact gx J;refine go ?_;exact lC ⟨_,J,rfl,rfl⟩;refine go ?_;exact xC ⟨J,rfl,rfl⟩;obtain⟨x8,h9,iV⟩:=aL iV;refine go ?_;refine aW h9 ?_;refine go ?_;rcases gB iV with⟨iR,iV⟩|⟨iR,iV⟩;exact gy iV;obtain⟨sC,iH,iV⟩:=aL iV;refine go ?_;refine aW iH ?_;refine go ?_;rcases gB iV with⟨eH,iV⟩|⟨eH,iV⟩;exact gy iV;obtain⟨u7,kQ,iV⟩:=aL iV;obtain rfl:=sI iV;refine go ?_;refine aW kQ ?_;refine go ?_;exact xC ⟨rfl,rfl⟩;refine go ?_;exact xC ⟨J,rfl,rfl⟩
def zy: I (Int):=
 some 0
def Gp(p1:GFS)(n:Nat):Nat->Int->I (Int)
 |0,_=>none|m1+1,z6=>cond (decide (z6<(p1.Nodes.length:Int))) (a8 (aC p1.Nodes z6) fun x8=>cond (decide (x8.Typex<0)) (some 2) (a8 (aC p1.Nodes z6) fun sC=>a8 (qu n sC.Arcs (p1.Nodes.length:Int)) fun lM=>cond (lM != 0) (some lM) ((Gp p1 n m1) (IntKind.i64.wrap (z6+1))))) (zy)
def Nx(n:Nat)(p1:GFS):I (Int):=
 cond ((p1.Nodes.length:Int)==0) (some 1) (cond (decide ((p1.Nodes.length:Int)>4096)) (some 7) (Gp p1 n n 0))
theorem qqm(n:Nat)(p1:GFS)(r:Int)(J:Nx n p1=some r):dJ prog 100 [.agg [.isl false (p1.Nodes.map bD)]] (.int .i64 r):=by unfold Nx at J;refine kR 40 TK ?_;refine gF J ?_ ?_<;>intro h2 J;exact gx J;refine gF J ?_ ?_<;>intro h3 J;exact gx J;refine go ?_;refine gL (fun m tm X=>∃z6,Gp p1 n m z6=some r/\tm=fr 40 [(1,.ptr 0 0 0),(3,.i6 z6)]/\X=⟨[(0,.row [.iM bD p1.Nodes] 39)],1⟩) (fun tm X=>zy=some r/\tm=fr 40 []/\X=⟨[(0,.row [.iM bD p1.Nodes] 39)],1⟩) n ⟨0,J,rfl,rfl⟩ ?_ ?_;rintro _ _ ⟨J,rfl,rfl⟩;unfold zy at J;exact gx J;rintro(_|m1) _ _ ⟨z6,J,rfl,rfl⟩;cases J;unfold Gp at J;refine gF J ?_ ?_<;>intro h7 J;refine go ?_;apply aR;obtain⟨x8,h9,J⟩:=aL J;refine go ?_;refine aW h9 ?_;refine gF J ?_ ?_<;>intro iR J;exact gx J;obtain⟨sC,iH,lM,iW,J⟩:=cB J;refine go ?_;refine dE [] ?_;refine gd ?_;refine cY iH ?_;refine gd ?_;refine dV rfl (pC (qql n sC.Arcs (p1.Nodes.length:Int) lM iW)) T3 ?_;refine gd ?_;refine bN ⟨by kernel_rfl,trivial,?_⟩;refine gF J ?_ ?_<;>intro kQ J;exact gx J;refine go ?_;exact lC ⟨_,J,rfl,rfl⟩;refine go ?_;exact xC ⟨J,rfl,rfl⟩
def Oh(n:Nat)(p1:GFS):I (GFS×Int):=
 a8 (Nx n p1) fun r2=>cond (r2 != 0) (some ((GFS.mk []),r2)) (a8 (Ny n p1 0) fun r5=>some (r5,0))
theorem qo6(n:Nat)(p1:GFS)(r:GFS×Int)(J:Oh n p1=some r):dJ prog 63 [.agg [.isl false (p1.Nodes.map bD)]] (.tup [.agg [.isl false (r.1.Nodes.map bD)],.int .i64 r.2]):=by unfold Oh at J;refine kR 13 Vp ?_;obtain⟨r2,h3,J⟩:=aL J;refine go ?_;refine aK rfl (pC (qqm n p1 r2 h3) _) TK ?_;refine gF J ?_ ?_<;>intro h4 J;refine go ?_;obtain rfl:=sI J;exact rT (us:=[.agg [.nils],.i6 r2]) (u:=.tup [.agg [.isl false []],.i6 r2]) (wS (vD rH.h rfl (bZ iU.h) rfl rfl rfl) (fH rfl (fW))) wR;obtain⟨r5,h6,J⟩:=aL J;refine go ?_;refine aK rfl (pC (qqk n p1 0 r5 h6) _) TJ ?_;refine go ?_;obtain rfl:=sI J;exact rT (wS (vD rH.h rfl (bZ iU.h) rfl rfl rfl) (fH rfl (fW))) (DJ _ rfl)
def xf(lY:Int)(cM:Int->I (Int)): I (Int):=
 cM (IntKind.i64.wrap (lY+1))
def Gv(p1:eD)(lY:Int)(cM:Int->I (Int))(jM:aU):Nat->Int->I (Int)
 |0,_=>none|m2+1,iI=>cond (decide (iI<(jM.Arcs.length:Int))) (a8 (aC jM.Arcs iI) fun uU=>cond (decide (uU.Feat>=(p1.Feats.length:Int))) (some 2) ((Gv p1 lY cM jM m2) (IntKind.i64.wrap (iI+1)))) (xf lY cM)
def Gw(p2:GFS)(n:Nat)(r3:GFS×Int): I (Int):=
 a8 (QM n p2 (GFS.mk r3.1.Nodes)) fun iJ=>cond (!iJ) (some 3) (some 0)
def QQ(p1:eD)(p2:GFS)(n:Nat)(r3:GFS×Int):Nat->Int->I (Int)
 |0,_=>none|m1+1,lY=>cond (decide (lY<(p2.Nodes.length:Int))) (a8 (aC p2.Nodes lY) fun jM=>cond (decide (jM.Typex>=(p1.Types.length:Int))) (some 2) (Gv p1 lY (QQ p1 p2 n r3 m1) jM n 0)) (Gw p2 n r3)
def Fz(n:Nat)(p1:eD)(p2:GFS):I (Int):=
 a8 (Oh n p2) fun r3=>cond (r3.2 != 0) (some r3.2) (QQ p1 p2 n r3 n 0)
theorem qo7(n:Nat)(p1:eD)(p2:GFS)(r:Int)(J:Fz n p1 p2=some r):dJ prog 42 [.agg (m5 p1),.agg [.isl false (p2.Nodes.map bD)]] (.int .i64 r):=by unfold Fz at J;refine eO 57 Vw ?_;obtain⟨r3,h4,J⟩:=aL J;refine go ?_;refine aK rfl (pC (qo6 n p2 r3 h4) _) Vp ?_;refine gF J ?_ ?_<;>intro h5 J;exact gx J;refine go ?_;refine gL (fun m tm X=>∃lY,QQ p1 p2 n r3 m lY=some r/\tm=fr 57 [(2,.ptr 0 0 0),(3,.ptr 1 0 0),(5,.ptr 2 0 0),(7,.i6 lY)]/\X=⟨Zw r3.1.Nodes p2.Nodes (.row (m5 p1) 27),3⟩) (fun tm X=>Gw p2 n r3=some r/\tm=fr 57 [(3,.ptr 1 0 0),(5,.ptr 2 0 0)]/\X=⟨Zw r3.1.Nodes p2.Nodes (.row (m5 p1) 27),3⟩) n ⟨0,J,rfl,rfl⟩ ?_ ?_;rintro _ _ ⟨J,rfl,rfl⟩;unfold Gw at J;obtain⟨iJ,eH,J⟩:=aL J;refine go ?_;refine aK rfl (pC (wc n p2 (GFS.mk r3.1.Nodes) iJ eH) _) HU ?_;refine gF J ?_ ?_<;>intro iW J;exact gx J;exact gx J;rintro(_|m1) _ _ ⟨lY,J,rfl,rfl⟩;cases J;unfold QQ at J;refine gF J ?_ ?_<;>intro kQ J;refine go ?_;apply aR;obtain⟨jM,iV,J⟩:=aL J;refine go ?_;refine aW iV ?_;refine gF J ?_ ?_<;>intro dU J;exact gx J;refine go ?_;refine gL (fun m tm X=>∃iI,Gv p1 lY (QQ p1 p2 n r3 m1) jM m iI=some r/\tm=fr 57 [(2,.ptr 0 0 0),(3,.ptr 1 0 0),(5,.ptr 2 0 0),(7,.i6 lY),(8,.ptr 3 0 0),(9,.i6 iI)]/\X=⟨(3,.row (bD jM) 79)::Zw r3.1.Nodes p2.Nodes (.row (m5 p1) 27),4⟩) (fun tm X=>xf lY (QQ p1 p2 n r3 m1)=some r/\tm=fr 57 [(2,.ptr 0 0 0),(3,.ptr 1 0 0),(5,.ptr 2 0 0),(7,.i6 lY)]/\X=⟨(3,.row (bD jM) 79)::Zw r3.1.Nodes p2.Nodes (.row (m5 p1) 27),4⟩) n ⟨0,J,rfl,rfl⟩ ?_ ?_;rintro _ _ ⟨J,rfl,rfl⟩;unfold xf at J;refine go ?_;exact lC ⟨_,J,rfl,rfl⟩;rintro(_|m2) _ _ ⟨iI,J,rfl,rfl⟩;cases J;unfold Gv at J;refine gF J ?_ ?_<;>intro BA J;refine go ?_;apply aR;obtain⟨uU,xS,J⟩:=aL J;refine go ?_;refine dE [] ?_;refine gd ?_;refine cY xS ?_;refine gd ?_;refine bN ⟨by kernel_rfl,trivial,?_⟩;refine gF J ?_ ?_<;>intro D6 J;exact gx J;refine go ?_;exact lC ⟨_,J,rfl,rfl⟩;refine go ?_;exact xC ⟨J,rfl,rfl⟩;refine go ?_;exact xC ⟨J,rfl,rfl⟩
def xa: I (BQ):=
 some true
def Gt(p1:eD)(p2:Z GFS)(n:Nat):Nat->Int->I (BQ)
 |0,_=>none|m1+1,z8=>cond (decide (z8<(p2.length:Int))) (a8 (aC p2 z8) fun mH=>a8 (a8 (Og n mH) fun iJ=>cond (!iJ) (some true) (a8 (Fz n p1 mH) fun tF=>some (tF != 0))) fun wH=>cond wH (some false) ((Gt p1 p2 n m1) (IntKind.i64.wrap (z8+1)))) (xa)
def it(n:Nat)(p1:eD)(p2:Z GFS):I (BQ):=
 Gt p1 p2 n n 0
theorem qpr(n:Nat)(p1:eD)(p2:Z GFS)(r:BQ)(J:it n p1 p2=some r):dJ prog 17 [.agg (m5 p1),.isl false (p2.map kH)] (.bool r):=by unfold it at J;refine eO 23 Wc ?_;refine go ?_;refine gL (fun m tm X=>∃z8,Gt p1 p2 n m z8=some r/\tm=fr 23 [(2,.ptr 0 0 0),(7,.iM kH p2),(8,.i6 (p2.length:Int)),(9,.i6 z8)]/\X=⟨[(0,.row (m5 p1) 27)],1⟩) (fun tm X=>xa=some r/\tm=fr 23 []/\X=⟨[(0,.row (m5 p1) 27)],1⟩) n ⟨0,J,rfl,rfl⟩ ?_ ?_;rintro _ _ ⟨J,rfl,rfl⟩;unfold xa at J;exact gx J;rintro(_|m1) _ _ ⟨z8,J,rfl,rfl⟩;cases J;unfold Gt at J;refine gF J ?_ ?_<;>intro h9 J;refine go ?_;apply aR;obtain⟨mH,mF,J⟩:=aL J;refine go ?_;refine aW mF ?_;obtain⟨wH,dU,J⟩:=aL J;refine gn ?_;refine fK (fun tm X=>tm=fr 23 [(2,.ptr 0 0 0),(7,.iM kH p2),(8,.i6 (p2.length:Int)),(9,.i6 z8),(21,.bool wH)]/\X=⟨[(1,.row [.iM bD mH.Nodes] 39),(0,.row (m5 p1) 27)],2⟩) ?_ ?_;rintro _ _ ⟨rfl,rfl⟩;refine gF J ?_ ?_<;>intro jU J;exact gx J;refine go ?_;exact lC ⟨_,J,rfl,rfl⟩;obtain⟨iJ,eH,dU⟩:=aL dU;refine go ?_;refine aK rfl (pC (qo8 n mH iJ eH) _) Vy ?_;refine go ?_;rcases gB dU with⟨iW,dU⟩|⟨iW,dU⟩;exact gy dU;obtain⟨tF,zP,dU⟩:=aL dU;obtain rfl:=sI dU;refine go ?_;refine aK rfl (pC (qo7 n p1 mH tF zP) _) Vw ?_;refine go ?_;exact xC ⟨rfl,rfl⟩;refine go ?_;exact xC ⟨J,rfl,rfl⟩
end Go.Proofs
namespace Go.Proofs
open Go Go.Rx Go.Vx Go.Shelf Go.Sort
theorem nn:∀a b:Z O8,jZ a b=true↔a=b
 |[],[]=>by simp[jZ]
 |[],_::_=>by simp[jZ]
 |_::_,[]=>by simp[jZ]
 |x::a,y::b=>by have h:(x.toNat=y.toNat)↔x=y:=UInt8.toNat_inj;simp only[jZ,beq_eq];by_cases e:x=y;subst e;simp[nn a b];simp[e,mt h.1 e]
theorem z6k(a b:Nat):Nat.blt a b=true↔a<b:=by unfold Nat.blt;rw[Nat.ble_eq];exact Iff.rfl
theorem qO(a b:Nat):Nat.blt a b=decide (a<b):=by rw[Bool.eq_iff_iff,z6k];simp
theorem qez:∀a:Z O8,jH a a=false
 |[]=>rfl|x::a=>by simp[jH,qO,qez a]
theorem qfu:∀a b c:Z O8,jH a b=true->jH b c=true->jH a c=true
 |_,[],_,h,_=>by simp[jH]at h
 |_,_::_,[],_,h=>by simp[jH]at h
 |[],_::_,_::_,_,_=>by simp[jH]
 |x::a,y::b,z::c,h1,h2=>by
  simp only[jH,qO,beq_eq]at*;by_cases h:x.toNat<y.toNat;by_cases h':y.toNat<z.toNat;have:x.toNat<z.toNat:=by omega
  simp[this];simp only[h',yB,zD]at h2;by_cases e:y.toNat=z.toNat;have:x.toNat<z.toNat:=by omega
  simp[this];simp[e]at h2;simp only[h,yB,zD]at h1;by_cases e:x.toNat=y.toNat;simp only[e,yC,zC]at h1;by_cases h':y.toNat<z.toNat;simp[e,h'];simp only[h',yB,zD]at h2;by_cases e':y.toNat=z.toNat;simp only[e',yC,zC]at h2;have:=qfu a b c h1 h2;simp[e,e',this];simp[e']at h2;simp[e]at h1
theorem qft:∀a b:Z O8,jH a b=false->jH b a=false->a=b
 |[],[],_,_=>rfl|[],_::_,h,_=>by simp[jH]at h
 |_::_,[],_,h=>by simp[jH]at h
 |x::a,y::b,h1,h2=>by
  simp only[jH,qO,beq_eq]at*;by_cases h:x.toNat<y.toNat;simp[h]at h1;by_cases h':y.toNat<x.toNat;simp[h']at h2;have e:x.toNat=y.toNat:=by omega
  simp only[e,Nat.lt_irrefl,yB,zD,yC,zC]at h1 h2;rw[qft a b h1 h2,UInt8.toNat_inj.1 e]
variable{v11:Type}
theorem aM{v09:Type}(a:v11)(k:v11->I v09):a8 (some a) k=k a:=rfl
theorem wr{z:Int}(h1 : -9223372036854775808<=z)(h2:z<=9223372036854775807):IntKind.i64.wrap z=z:=oA (by omega) (by omega)
variable{i:Nat}
theorem rF{len:Nat}(h:i<len)(hl:len<=9223372036854775807):IntKind.i64.wrap ((i:Int)+1)=((i+1:Nat):Int):=by rw[wr (by omega) (by omega)];simp
theorem UI{z:Int}{k:Nat}(h:z=k)(h2:k<=9223372036854775807):IntKind.i64.wrap z=(k:Int):=by subst h;exact wr (by omega) (by omega)
variable{l:Z v11}
theorem iL(h:i<l.length):∃x,l[i]? = some x/\x∈l:=⟨l[i],by simp[h],by simp⟩
variable{x:v11}
theorem kK(h:l[i]? = some x):l.take (i+1)=l.take i++[x]:=by rw[List.take_add_one,h];rfl
theorem aZ(h:l[i]? = some x):l.drop i=x::l.drop (i+1):=by have aH:i<l.length:=(zG.1 h).1;rw[List.drop_eq_getElem_cons aH];congr 1;rw[List.getElem?_eq_getElem aH]at h;exact Option.some.inj h
theorem o0{n:Nat}(h:i<n):decide ((i:Int)<(n:Int))=true:=by simp;omega
theorem oW{n:Nat}(h:¬ i<n):decide ((i:Int)<(n:Int))=false:=by simp;omega
theorem cD(h:¬ i<l.length):l.drop i=[]:=List.drop_eq_nil_of_le (by omega)
structure Cmp{v11:Type}(c:v11->v11->Int):Prop where
 val:∀x y,c x y= -1\/c x y=0\/c x y=1
 anti:∀x y,c y x= - c x y
 trans:∀x y z,c x y<=0->c y z<=0->c x z<=0
variable{c:v11->v11->Int}
theorem Cmp.self(h:Cmp c)(x:v11):c x x=0:=by have:=h.anti x x;omega
variable{y:v11}
theorem Cmp.congr(h:Cmp c)(kM:c x y=0)(z:v11):c x z=c y z:=by have h1:=h.val x z;have h2:=h.val y z;have a1:=h.anti x y;have a2:=h.anti x z;have a3:=h.anti y z;have t1:=h.trans x y z;have t2:=h.trans y x z;have t3:=h.trans z x y;have t4:=h.trans z y x;omega
theorem Cmp.congr'(h:Cmp c)(kM:c x y=0)(z:v11):c z x=c z y:=by have h1:=h.congr kM z;have a2:=h.anti x z;have a3:=h.anti y z;omega
theorem Cmp.lt_of(h:Cmp c){z:v11}(h1:c x y<0)(h2:c y z<=0):c x z<0:=by have t1:=h.trans x y z (by omega) h2;rcases Int.lt_or_eq_of_le t1 with h3 |h3;exact h3;have:=h.congr h3 y;have a3:=h.anti y z;omega
def DW{v11:Type}(c d:v11->v11->Int)(x y:v11):Int:=if c x y≠0 then c x y else d x y
theorem Cmp.lex{d:v11->v11->Int}(hc:Cmp c)(hd:Cmp d):Cmp (DW c d) where
 val x y:=by unfold DW;split;exact hc.val x y;exact hd.val x y
 anti x y:=by
  unfold DW;have a1:=hc.anti x y;have a2:=hd.anti x y;by_cases h:c x y=0;have:c y x=0:=by omega
  simp[h,this,a2];have:¬ c y x=0:=by omega
  simp[h,this,a1]
 trans x y z h1 h2:=by
  unfold DW at*;by_cases h:c x y=0;have e:=hc.congr h z;simp only[h,ne_eq,not_true,if_false]at h1;rw[e];by_cases h':c y z=0;simp only[h',ne_eq,not_true,if_false]at h2 ⊢;exact hd.trans x y z h1 h2;simp only[h',ne_eq,not_false_eq_true,if_true]at h2 ⊢;exact h2;simp only[h,ne_eq,not_false_eq_true,if_true]at h1;have pI:c x y<0:=by omega
  by_cases h':c y z=0;have e:=hc.congr' h' x;rw[<-e];simp only[h,ne_eq,not_false_eq_true,if_true];exact h1;simp only[h',ne_eq,not_false_eq_true,if_true]at h2;have:=hc.lt_of pI h2;have cT:¬ c x z=0:=by omega
  simp only[cT,ne_eq,not_false_eq_true,if_true];omega
theorem fq{d:v11->v11->Int}:DW c d x y=0↔c x y=0/\d x y=0:=by unfold DW;by_cases h:c x y=0<;>simp[h]
theorem Cmp.pull{v09:Type}(h:Cmp c)(f:v09->v11):Cmp (fun x y=>c (f x) (f y)):=⟨fun x y=>h.val _ _,fun x y=>h.anti _ _,fun x y z=>h.trans _ _ _⟩
def nT(a b:Int):Int:=if a<b then -1 else if b<a then 1 else 0
theorem Nt{a b:Int}:nT a b=0↔a=b:=by unfold nT;split;omega;split<;>omega
theorem Fb:Cmp nT where
  val x y := by unfold nT; split; · simp
                split<;>simp
  anti x y:=by unfold nT;split<;>split<;>(try split)<;>omega
  trans x y z:=by unfold nT;intro h1 h2;split at h1<;>split at h2<;>(try split at h1)<;>(try split at h2)<;>(try split)<;>(try split)<;>omega
theorem z36(c:v11->v11->Int)(x y:v11):ltOf c x y=true↔c x y<0:=by simp[ltOf]
theorem Cmp.swo(h:Cmp c):SWO (ltOf c) where
 irrefl x:=by have:=h.self x;simp[ltOf,this]
 trans x y z h1 h2:=by rw[z36]at*;exact h.lt_of h1 (by omega)
 ntrans x y z h1 h2:=by
  have e:∀a b,ltOf c a b=false↔c b a<=0:=fun a b=>by have:=h.anti a b;simp[ltOf];omega
  rw[e]at*;exact h.trans z y x h2 h1
section
variable{v11:Type}{c:v11->v11->Int}
theorem VT(hc:Cmp c)(l:Z v11):(srt (ltOf c) l).Pairwise (fun x y=>c x y<=0):=by have:=z0g hc.swo l;refine List.Pairwise.imp ?_ this;intro x y h;have:=hc.anti x y;simp[ltOf]at h;omega
end
end Go.Proofs
namespace Go.Proofs
open Go Go.Rx Go.Vx Go.Shelf Go.Sort
set_option maxRecDepth 10000
def mT{v11:Type}(c:v11->v11->Int):Z v11->Z v11->Int
 |[],[]=>0|[],_::_=>-1
 |_::_,[]=>1|x::xs,y::ys=>if c x y≠0 then c x y else mT c xs ys
theorem Cmp.list{v11:Type}{c:v11->v11->Int}(h:Cmp c):Cmp (mT c) where
 val:=by
  intro x;induction x with
  |nil=>intro y;cases y<;>simp[mT]|cons a x ih=>intro y;rcases y with _|⟨b,y⟩;simp[mT];simp only[mT];split;exact h.val a b;exact ih y
 anti:=by
  intro x;induction x with
  |nil=>intro y;cases y<;>simp[mT]|cons a x ih=>
   intro y;rcases y with _|⟨b,y⟩;simp[mT];simp only[mT];have a1:=h.anti a b;have a2:=ih y;by_cases e:c a b=0;have:c b a=0:=by omega
   simp[e,this,a2];have:¬ c b a=0:=by omega
   simp[e,this,a1]
 trans:=by
  intro x;induction x with
  |nil=>intro y z h1 h2;cases z<;>simp[mT]|cons a x ih=>
   intro y z h1 h2;rcases y with _|⟨b,y⟩;simp[mT]at h1;rcases z with _|⟨d,z⟩;simp[mT]at h2;simp only[mT]at*;by_cases e:c a b=0;have e2:=h.congr e d;simp only[e,ne_eq,not_true,if_false]at h1;rw[e2];by_cases e3:c b d=0;simp only[e3,ne_eq,not_true,if_false]at h2 ⊢;exact ih y z h1 h2;simp only[e3,ne_eq,not_false_eq_true,if_true]at h2 ⊢;exact h2;simp only[e,ne_eq,not_false_eq_true,if_true]at h1;have pI:c a b<0:=by omega
   by_cases e3:c b d=0;have e4:=h.congr' e3 a;rw[<-e4];simp only[e,ne_eq,not_false_eq_true,if_true];exact h1;simp only[e3,ne_eq,not_false_eq_true,if_true]at h2;have:=h.lt_of pI h2;have cT:¬ c a d=0:=by omega
   simp only[cT,ne_eq,not_false_eq_true,if_true];omega
theorem fp{v11:Type}{c:v11->v11->Int}:∀{xs ys:Z v11},(∀x∈xs,∀y,c x y=0->x=y)->mT c xs ys=0->xs=ys
 |[],[],_,_=>rfl|[],_::_,_,h=>by simp[mT]at h
 |_::_,[],_,h=>by simp[mT]at h
 |x::xs,y::ys,hc,h=>by simp only[mT]at h;by_cases e:c x y=0;simp only[e,ne_eq,not_true,if_false]at h;rw[hc x (by simp) y e,fp (fun a ha=>hc a (by simp[ha])) h];simp[e]at h
def OJ:aT->aT->Int:=DW (fun x y=>nT x.Feat y.Feat) (fun x y=>nT x.To y.To)
theorem Cg:Cmp OJ:=(Fb.pull _).lex (Fb.pull _)
theorem z21{x y:aT}(h:OJ x y=0):x=y:=by simp only[OJ,fq,Nt]at h;cases x;cases y;simp only at h;obtain⟨rfl,rfl⟩:=h;rfl
def TP:aU->aU->Int:=DW (DW (fun x y=>nT x.Typex y.Typex) (fun x y=>nT x.Arcs.length y.Arcs.length)) (fun x y=>mT OJ x.Arcs y.Arcs)
theorem Cd:Cmp TP:=((Fb.pull _).lex (Fb.pull (fun x:aU=>(x.Arcs.length:Int)))).lex (Cg.list.pull _)
theorem z24{x y:aU}(h:TP x y=0):x=y:=by simp only[TP,fq,Nt]at h;have:=fp (fun a _ b h=>z21 h) h.2;cases x;cases y;simp only at h this;obtain⟨⟨rfl,_⟩,_⟩:=h;subst this;rfl
def Cf:GFS->GFS->Int:=DW (fun x y=>nT x.Nodes.length y.Nodes.length) (fun x y=>mT TP x.Nodes y.Nodes)
theorem Ce:Cmp Cf:=(Fb.pull (fun x:GFS=>(x.Nodes.length:Int))).lex (Cd.list.pull _)
theorem qtc{x y:GFS}:Cf x y=0↔x=y:=⟨fun h=>by
 simp only[Cf,fq,Nt]at h;have:=fp (fun a _ b h=>z24 h) h.2;cases x;cases y;simp only at this;subst this;rfl,fun h=>by subst h;exact Ce.self x⟩
structure dG(f:GFS)(k:Nat):Prop where
 nodes:f.Nodes.length<=k
 arcs:∀x∈f.Nodes,x.Arcs.length<=k
def IY(l:Z aT):Z Int:=l.flatMap fun a=>[a.Feat,a.To]
def PT(x:aU):Z Int:=[x.Typex,(x.Arcs.length:Int)]++IY x.Arcs
def FG(f:GFS):Z Int:=(f.Nodes.length:Int)::f.Nodes.flatMap PT
theorem dx:∀l:Z aT,(IY l).length=2*l.length
 |[]=>rfl|a::l=>by have:=dx l;simp only[IY,List.flatMap_cons,zU,zO,zS]at*;omega
theorem qyy{x:aU}{i:Int}{rc:Int->Z Int->I (Z Int)}(hx:x.Arcs.length<=1000000):∀(m k:Nat)(aY:Z Int),x.Arcs.length-k<m->k<=x.Arcs.length->aY.length+2*(x.Arcs.length-k)<=1000000000->
  He i rc x m k aY=rc (IntKind.i64.wrap (i+1)) (aY++IY (x.Arcs.drop k))
 |0,k,aY,hm,_,_=>by omega
 |m+1,k,aY,hm,hk,ha=>by
  unfold He;by_cases aH:k<x.Arcs.length;obtain⟨a,h1,_⟩:=iL aH;have hn:(aY.length+2)*8<=140737488355328/\aY.length+2<=140737488355328:=by omega
  simp only[o0 aH,zC,dP,h1,aM,aG,hn,and_self,if_true,rF aH (show x.Arcs.length<=9223372036854775807 by omega)];rw[qyy hx m (k+1) _ (by omega) (by omega) (by simp only[zU,zO,zS];omega),aZ h1];simp[IY];simp only[oW aH,zD,ju,cD aH,IY,List.flatMap_nil,List.append_nil]
theorem qyx{f:GFS}{n:Nat}(hf:dG f 1000)(hn:1001<=n):∀(m i:Nat)(aY:Z Int),f.Nodes.length-i<m->i<=f.Nodes.length->aY.length+2002*(f.Nodes.length-i)<=900000000->
  N0 f n m i aY=some (aY++(f.Nodes.drop i).flatMap PT)
 |0,i,aY,hm,_,_=>by omega
 |m+1,i,aY,hm,hi,ha=>by
  unfold N0;have hl:=hf.nodes;by_cases aH:i<f.Nodes.length;obtain⟨x,hx,gJ⟩:=iL aH;have h2:=hf.arcs x gJ;have hn:(aY.length+2)*8<=140737488355328/\aY.length+2<=140737488355328:=by omega
  have h0:=qyy (i:=(i:Int)) (rc:=N0 f n m) (x:=x) (by omega) n 0 (aY++[x.Typex,(x.Arcs.length:Int)]) (by omega) (by omega) (by simp only[zU,zO,zS];omega);rw[zV,List.drop_zero]at h0;simp only[o0 aH,zC,dP,hx,aM,aG,hn,and_self,if_true,h0,rF aH (show f.Nodes.length<=9223372036854775807 by omega)];rw[qyx hf (by omega) m (i+1) _ (by omega) (by omega) (by simp only[zU,zO,zS,dx];omega),aZ hx];simp[PT];simp only[oW aH,zD,jv,cD aH,List.flatMap_nil,List.append_nil]
variable{f:GFS}
variable{n:Nat}
theorem qyz(hf:dG f 1000)(hn:1001<=n):Gn n f=some (FG f):=by have hl:=hf.nodes;have:=qyx hf hn n 0 [(f.Nodes.length:Int)] (by omega) (by omega) (by simp only[zO,zS];omega);rw[zV,List.drop_zero]at this;simp only[Gn,this,FG,List.singleton_append]
def y6:Z Int->Z Int->Int
 |x::xs,y::ys=>if nT x y≠0 then nT x y else y6 xs ys|_,_=>0
theorem quu{l m:Z Int}(hl:l.length<=1000000000):∀(n i:Nat),l.length-i<n->i<=l.length->Hf l m n i=some (y6 (l.drop i) (m.drop i))
 |0,i,hn,_=>by omega
 |n+1,i,hn,hi=>by unfold Hf;by_cases h1:i<l.length;obtain⟨x,hx,_⟩:=iL h1;by_cases h2:i<m.length;obtain⟨y,hy,_⟩:=iL h2;simp only[o0 h1,o0 h2,zC,aM,dP,hx,hy,rF h1 (show l.length<=9223372036854775807 by omega),aZ hx,aZ hy,y6,nT];by_cases h3:x<y;simp[h3];by_cases h4:y<x;simp[h3,h4];simp only[h3,h4,yB,zD,if_false,ne_eq,not_true,gt_iff_lt];exact quu hl n (i+1) (by omega) (by omega);simp only[o0 h1,oW h2,zC,zD,aM,Qa,aZ hx,cD h2,y6];simp only[oW h1,zD,aM,Qa,cD h1,y6]
theorem z3d{k:Nat}(hf:dG f k):(FG f).length<=1+f.Nodes.length*(2+2*k):=by
 have:∀l:Z aU,(∀x∈l,x.Arcs.length<=k)->(l.flatMap PT).length<=l.length*(2+2*k):=by
  intro l;induction l with
  |nil=>intro _;simp|cons x l ih=>
   intro h;have h1:=ih fun y hy=>h y (List.mem_cons_of_mem _ hy);have h2:=h x (by simp);have h3:(l.length+1)*(2+2*k)=l.length*(2+2*k)+(2+2*k):=by rw[Nat.add_mul,Nat.one_mul]
   simp only[List.flatMap_cons,zU,PT,zO,zS,dx];rw[h3];omega
 have:=this f.Nodes hf.arcs;simp only[FG,zO];omega
theorem qzu{g:GFS}(hf:dG f 1000)(hg:dG g 1000)(hn:3000000<=n):Pe n f g=some (y6 (FG f) (FG g)):=by have h1:=z3d hf;have h2:=hf.nodes;have h3:f.Nodes.length*(2+2*1000)<=1000*(2+2*1000):=Nat.mul_le_mul_right _ h2;have:=quu (l:=FG f) (m:=FG g) (by omega) n 0 (by omega) (by omega);rw[zV,List.drop_zero,List.drop_zero]at this;simp only[Pe,qyz hf (show 1001<=n by omega),qyz hg (show 1001<=n by omega),aM,this]
theorem qpu{c d:Z Int}:∀{xs ys:Z aT},xs.length=ys.length->y6 (IY xs++c) (IY ys++d)=if mT OJ xs ys≠0 then mT OJ xs ys else y6 c d
 |[],[],_=>by simp[IY,mT]
 |[],_::_,h=>by simp at h
 |_::_,[],h=>by simp at h
 |x::xs,y::ys,h=>by simp only[zO,Nat.add_right_cancel_iff]at h;have ih:=qpu (c:=c) (d:=d) h;simp only[IY,List.flatMap_cons,List.cons_append,List.nil_append,y6,mT]at ih ⊢;rw[ih];unfold OJ DW;by_cases e:nT x.Feat y.Feat=0;by_cases e2:nT x.To y.To=0<;>simp[e,e2];simp[e]
theorem qmd{c d:Z Int}:∀{xs ys:Z aU},xs.length=ys.length->y6 (xs.flatMap PT++c) (ys.flatMap PT++d)=if mT TP xs ys≠0 then mT TP xs ys else y6 c d
 |[],[],_=>by simp[mT]
 |[],_::_,h=>by simp at h
 |_::_,[],h=>by simp at h
 |x::xs,y::ys,h=>by
  simp only[zO,Nat.add_right_cancel_iff]at h;have ih:=qmd (c:=c) (d:=d) h;simp only[List.flatMap_cons,PT,zT,List.cons_append,List.nil_append,y6,mT];have hN:TP x y=(if(if nT x.Typex y.Typex≠0 then nT x.Typex y.Typex else nT (x.Arcs.length:Int) y.Arcs.length)≠0 then(if nT x.Typex y.Typex≠0 then nT x.Typex y.Typex else nT (x.Arcs.length:Int) y.Arcs.length)else mT OJ x.Arcs y.Arcs):=rfl;simp only[hN];by_cases e:nT x.Typex y.Typex=0;by_cases e2:nT (x.Arcs.length:Int) y.Arcs.length=0;have hl:x.Arcs.length=y.Arcs.length:=by have:=Nt.1 e2;omega
  simp only[e,e2,ne_eq,not_true,if_false];rw[qpu hl,ih];by_cases e3:mT OJ x.Arcs y.Arcs=0<;>simp[e3];simp[e,e2];simp[e]
theorem z6l(f g:GFS):y6 (FG f) (FG g)=Cf f g:=by
 simp only[FG,y6,Cf];unfold DW;by_cases e:nT (f.Nodes.length:Int) g.Nodes.length=0;have hl:f.Nodes.length=g.Nodes.length:=by have:=Nt.1 e;omega
 have:=qmd (c:=[]) (d:=[]) hl;simp only[List.append_nil,y6]at this;simp only[e,ne_eq,not_true,if_false,this];by_cases e2:mT TP f.Nodes g.Nodes=0<;>simp[e2];simp[e]
theorem quv{g:GFS}(hf:dG f 1000)(hg:dG g 1000)(hn:3000000<=n):QM n f g=some (Cf f g==0):=by simp only[QM,qzu hf hg hn,aM,z6l]
theorem qtz{f:GFS}(hl:f.Nodes.length<=12):∀(m i:Nat),f.Nodes.length-i<m->i<=f.Nodes.length->∃b,Gu f m i=some b/\(b=true->∀x∈f.Nodes.drop i,x.Arcs.length<=12)
 |0,i,hm,_=>by omega
 |m+1,i,hm,hi=>by unfold Gu;by_cases aH:i<f.Nodes.length;obtain⟨x,hx,_⟩:=iL aH;simp only[o0 aH,zC,dP,hx,aM,rF aH (show f.Nodes.length<=9223372036854775807 by omega)];by_cases h:(x.Arcs.length:Int)>12;simp only[h,yC,zC];exact⟨false,rfl,fun h=>by cases h⟩;simp only[h,yB,zD];obtain⟨b,h1,h2⟩:=qtz hl m (i+1) (by omega) (by omega);refine⟨b,h1,fun hb=>?_⟩;rw[aZ hx];intro y hy;rcases zI.1 hy with rfl |hy;omega;exact h2 hb y hy;simp only[oW aH,zD,xe,cD aH];exact⟨true,rfl,fun _ x hx=>by cases hx⟩
theorem z34(f:GFS)(hn:20<=n):∃b,Og n f=some b/\(b=true->dG f 12):=by unfold Og;by_cases h:(f.Nodes.length:Int)>12;simp only[h,yC,zC];exact⟨false,rfl,fun h=>by cases h⟩;simp only[h,yB,zD];obtain⟨b,h1,h2⟩:=qtz (f:=f) (by omega) n 0 (by omega) (by omega);rw[zV]at h1;rw[List.drop_zero]at h2;exact⟨b,h1,fun hb=>⟨by omega,h2 hb⟩⟩
theorem dG.up{k k':Nat}(h:dG f k)(hk:k<=k'):dG f k':=⟨by have:=h.nodes;omega,fun x hx=>by have:=h.arcs x hx;omega⟩
def cF(a b:aT):Int:=nT a.Feat b.Feat
theorem Wp:Cmp cF:=Fb.pull aT.Feat
def uA(l:Z aT):Z aT:=srt (ltOf cF) l
theorem MF(l:Z aT):(uA l).Perm l:=M9 _ l
def jA(l:Z aT):Prop:=l.Pairwise (fun a b=>a.Feat≠b.Feat)
variable{l:Z aT}
theorem jA.perm{m:Z aT}(h:l.Perm m)(hd:jA l):jA m:=(h.pairwise_iff (fun{a b} h=>Ne.symm h)).1 hd
theorem jA.eq:∀{l:Z aT},jA l->∀x∈l,∀y∈l,x.Feat=y.Feat->x=y
 |[],_,x,hx,_,_,_=>by cases hx
 |a::l,h,x,hx,y,hy,e=>by obtain⟨h1,h2⟩:=List.pairwise_cons.1 h;rcases zI.1 hx with e1 |uO;rcases zI.1 hy with e2 |pB;rw[e1,e2];subst e1;exact absurd e (h1 y pB);rcases zI.1 hy with e2 |pB;subst e2;exact absurd e.symm (h1 x uO);exact jA.eq h2 x uO y pB e
def kC(l:Z aT):Prop:=l.Pairwise (fun a b=>a.Feat<b.Feat)
theorem Wq{a b:aT}:cF a b<=0↔a.Feat<=b.Feat:=by unfold cF nT;by_cases h1:a.Feat<b.Feat;simp[h1];omega;by_cases h2:b.Feat<a.Feat;simp[h1,h2];simp[h1,h2];omega
theorem Q2(h:jA l):kC (uA l):=by have h1:=VT Wp l;have h2:jA (uA l):=h.perm (MF l).symm;refine(List.Pairwise.and h1 h2).imp fun{a b} h=>?_;have:=Wq.1 h.1;have:=h.2;omega
theorem qv9:∀{a b:Z aT},kC a->kC b->a.Perm b->a=b
 |[],b,_,_,h=>(List.nil_perm.1 h).symm|x::a,[],_,_,h=>by have:=h.length_eq;simp at this
 |x::a,y::b,ha,hb,h=>by
  obtain⟨h1,h2⟩:=List.pairwise_cons.1 ha;obtain⟨h3,h4⟩:=List.pairwise_cons.1 hb;have kM:x=y:=by rcases zI.1 (h.mem_iff.1 (List.mem_cons_self))with hx |hx;exact hx;rcases zI.1 (h.mem_iff.2 (List.mem_cons_self))with hy |hy;exact hy.symm;have h5:=h1 y hy;have h6:=h3 x hx;omega
  subst kM;rw[qv9 h2 h4 (h.cons_inv)]
theorem z0f{m:Z aT}(hd:jA l)(h:m.Perm l)(hm:kC m):uA l=m:=qv9 (Q2 hd) hm ((MF l).trans h.symm)
theorem kC.dis(h:kC l):jA l:=h.imp fun{a b} h=>by omega
structure NOk(x:aU)(N:Nat):Prop where
 ty:0<=x.Typex
 dis:jA x.Arcs
 arc:∀a∈x.Arcs,0<=a.Feat/\0<=a.To/\a.To<N
def jL(f:GFS):Prop:=∀x∈f.Nodes,NOk x f.Nodes.length
def nd(f:GFS)(v:Int):aU:=(f.Nodes[v.toNat]?).getD (aU.mk 0 [])
def fG(f:GFS)(v:Int):Prop:=0<=v/\v<f.Nodes.length
variable{f:GFS}
variable{v:Int}
theorem tK(h:fG f v):aC f.Nodes v=some (nd f v)/\nd f v∈f.Nodes:=by
 have hv:v.toNat<f.Nodes.length:=by have:=h.1;have:=h.2;omega
 have h1:0<=v/\v<(f.Nodes.length:Int):=h;simp[aC,h1,nd,hv]
def sar(f:GFS)(v:Int):Z aT:=uA (nd f v).Arcs
theorem sM{a:aT}:a∈sar f v↔a∈(nd f v).Arcs:=(MF _).mem_iff
def jN(g:Z Int->Int->Z Int)(o:Z Int)(a:aT):Z Int:=if a.To∈o then o else g o a.To
def dfs(f:GFS):Nat->Z Int->Int->Z Int
 |0,o,_=>o|k+1,o,v=>(sar f v).foldl (jN (dfs f k)) (o++[v])
structure Seen(f:GFS)(o:Z Int):Prop where
 nd:o.Nodup
 ing:∀v∈o,fG f v
theorem zm:∀(N:Nat){o:Z Int},o.Nodup->(∀v∈o,0<=v/\v<N)->o.length<=N
 |0,o,_,h=>by rcases o with _|⟨v,o⟩;simp;have:=h v (by simp);omega
 |N+1,o,hn,h=>by
  have h1:=zm N (o:=o.filter (fun v=>v != (N:Int))) (hn.filter _) fun v hv=>by rw[List.mem_filter]at hv;have:=h v hv.1;have h2:=hv.2;simp at h2;omega
  have h2:o.length<=(o.filter (fun v=>v != (N:Int))).length+1:=by
   clear h1 h;induction o with
   |nil=>simp|cons x o ih=>
    obtain⟨h3,h4⟩:=List.nodup_cons.1 hn;have:=ih h4;by_cases e:x=N;subst e;have:o.filter (fun v=>v != (N:Int))=o:=List.filter_eq_self.2 fun v hv=>by simp only[bne_iff_ne,ne_eq];intro e;subst e;exact h3 hv
    simp[this];have e2:(x != (N:Int))=true:=by simpa using e
    rw[List.filter_cons_of_pos (by simpa using e)];simp only[zO];omega
  omega
theorem Seen.len{o:Z Int}(h:Seen f o):o.length<=f.Nodes.length:=zm _ h.nd h.ing
theorem Seen.snoc{o:Z Int}(h:Seen f o)(hv:fG f v)(hn:v ∉ o):Seen f (o++[v]):=⟨by
 rw[List.nodup_append];refine⟨h.nd,by simp,?_⟩;intro a ha b hb;simp at hb;subst hb;intro e;subst e;exact hn ha,fun u hu=>by
 rcases yD.1 hu with hu |hu;exact h.ing u hu;simp at hu;subst hu;exact hv⟩
theorem Lr{f:GFS}(hg:jL f):∀(k:Nat)(o:Z Int)(v:Int),Seen f o->fG f v->v ∉ o->f.Nodes.length-o.length<=k->
  Seen f (dfs f k o v)/\(∃t,dfs f k o v=o++v::t)/\(∀u∈dfs f k o v,u ∉ o->∀a∈(nd f u).Arcs,a.To∈dfs f k o v)/\(∀k',f.Nodes.length-o.length<=k'->dfs f k' o v=dfs f k o v)
 |0,o,v,hs,hv,hn,hk=>by have h1:=(hs.snoc hv hn).len;simp only[zU,zO,zS]at h1;omega
 |k+1,o,v,hs,hv,hn,hk=>by
  have CS:=hs.snoc hv hn;have AV:=CS.len;simp only[zU,zO,zS]at AV;have key:∀(l:Z aT),(∀a∈l,fG f a.To)->∀(p:Z Int),Seen f p->(∃t,p=o++v::t)->(∀u∈p,u ∉ o->u≠v->∀a∈(nd f u).Arcs,a.To∈p)->
    Seen f (l.foldl (jN (dfs f k)) p)/\(∃t,l.foldl (jN (dfs f k)) p=p++t)/\(∀u∈l.foldl (jN (dfs f k)) p,u ∉ o->u≠v->∀a∈(nd f u).Arcs,a.To∈l.foldl (jN (dfs f k)) p)/\(∀a∈l,a.To∈l.foldl (jN (dfs f k)) p)/\
     (∀k',f.Nodes.length-(o.length+1)<=k'->l.foldl (jN (dfs f k')) p=l.foldl (jN (dfs f k)) p):=by
   intro l;induction l with
   |nil=>intro _ p hp mY iF;exact⟨hp,⟨[],by simp⟩,iF,⟨fun a ha=>(List.not_mem_nil ha).elim,fun _ _=>rfl⟩⟩|cons a l ih=>
    intro hl p hp mY iF;have EG:=hl a (by simp);have qE:=fun b hb=>hl b (List.mem_cons_of_mem a hb);simp only[List.foldl_cons];by_cases hm:a.To∈p;have e:∀k',jN (dfs f k') p a=p:=fun k'=>by simp[jN,hm]
    simp only[e];obtain⟨g1,⟨t,g2⟩,g3,g4,g5⟩:=ih qE p hp mY iF;refine⟨g1,⟨t,g2⟩,g3,fun b hb=>?_,g5⟩;rcases zI.1 hb with rfl |hb;rw[g2];exact List.mem_append_left _ hm;exact g4 b hb;have e:∀k',jN (dfs f k') p a=dfs f k' p a.To:=fun k'=>by simp[jN,hm]
    obtain⟨t0,mY⟩:=mY;have kZ:o.length+1<=p.length:=by rw[mY];simp
    obtain⟨d1,⟨t1,d2⟩,d3,d4⟩:=Lr hg k p a.To hp EG hm (by omega);have kO:∀u∈p,u∈dfs f k p a.To:=fun u hu=>by rw[d2];exact List.mem_append_left _ hu
    obtain⟨g1,⟨t,g2⟩,g3,g4,g5⟩:=ih qE (dfs f k p a.To) d1 ⟨t0++a.To::t1,by rw[d2,mY];simp⟩ (fun u hu h1 h2 b hb=>by by_cases CP:u∈p;exact kO _ (iF u CP h1 h2 b hb);exact d3 u hu CP b hb);rw[e k];refine⟨g1,⟨a.To::t1++t,by rw[g2,d2];simp⟩,g3,fun b hb=>?_,fun k' oR=>?_⟩;rcases zI.1 hb with rfl |hb;rw[g2,d2];simp;exact g4 b hb;rw[e k',d4 k' (by omega)];exact g5 k' oR
  have EG:∀a∈sar f v,fG f a.To:=fun a ha=>by have h1:=(hg _ (tK hv).2).arc a (sM.1 ha);exact⟨h1.2.1,h1.2.2⟩
  obtain⟨g1,⟨t,g2⟩,g3,g4,g5⟩:=key (sar f v) EG (o++[v]) CS ⟨[],rfl⟩ (fun u hu h1 h2=>by rcases yD.1 hu with hu |hu;exact absurd hu h1;simp at hu;exact absurd hu h2);refine⟨g1,⟨t,by show(sar f v).foldl _ _=_;rw[g2];simp⟩,fun u hu h1 a ha=>?_,fun k' oR=>?_⟩;by_cases e:u=v;subst e;exact g4 a (sM.2 ha);exact g3 u hu h1 e a ha;cases k' with
  |zero=>omega|succ k'=>exact g5 k' (by omega)
def bH(f:GFS)(r:Int):Z Int:=dfs f f.Nodes.length [] r
theorem Seen.nil(f:GFS):Seen f []:=⟨List.nodup_nil,fun v hv=>by cases hv⟩
structure TZ(f:GFS)(r:Int)(o:Z Int):Prop where
 seen:Seen f o
 head:∃t,o=r::t
 clo:∀u∈o,∀a∈(nd f u).Arcs,a.To∈o
theorem JP(hg:jL f){r:Int}(hr:fG f r):TZ f r (bH f r)/\∀k,f.Nodes.length<=k->dfs f k [] r=bH f r:=by obtain⟨h1,⟨t,h2⟩,h3,h4⟩:=Lr hg f.Nodes.length [] r (Seen.nil f) hr (by simp) (by simp);exact⟨⟨h1,⟨t,by have h5:=h2;rw[List.nil_append]at h5;exact h5⟩,fun u hu=>h3 u hu (by simp)⟩,fun k hk=>h4 k (by simpa using hk)⟩
def oX(o:Z Int)(a:aT):aT:=⟨a.Feat,(o.idxOf a.To:Int)⟩
def kI(f:GFS)(o:Z Int)(v:Int):aU:=⟨(nd f v).Typex,(sar f v).map (oX o)⟩
def cK(f:GFS)(r:Int):GFS:=⟨(bH f r).map (kI f (bH f r))⟩
theorem VV{v11:Type}(a b:Z v11)(x y:v11):(a++x::b).set a.length y=a++y::b:=by simp
def BR(N:Nat)(seen:Z Int):Z aT->Int
 |[]=>0|a::l=>if a.Feat<0\/a.To<0\/a.To>=(N:Int)then 2 else if a.Feat∈seen then 4 else BR N (a.Feat::seen) l
def D9(N:Nat)(x:aU):Int:=if x.Typex<0 then 2 else BR N [] x.Arcs
theorem qpb{N:Nat}:∀{l:Z aT}{seen:Z Int},BR N seen l=0↔(∀a∈l,0<=a.Feat/\0<=a.To/\a.To<N)/\jA l/\∀a∈l,a.Feat ∉ seen
 |[],seen=>by simp[BR,jA]
 |a::l,seen=>by
  simp only[BR];by_cases h1:a.Feat<0\/a.To<0\/a.To>=(N:Int);simp only[h1,if_true];refine⟨fun h=>absurd h (by decide),fun h=>?_⟩;have:=h.1 a (by simp);omega;by_cases h2:a.Feat∈seen;simp only[h1,h2,if_true,if_false];exact⟨fun h=>absurd h (by decide),fun h=>absurd h2 (h.2.2 a (by simp))⟩;simp only[h1,h2,if_false];rw[qpb (l:=l)];unfold jA;rw[List.pairwise_cons];constructor;rintro⟨g1,g2,g3⟩;refine⟨fun b hb=>?_,⟨fun b hb=>?_,g2⟩,fun b hb=>?_⟩;rcases zI.1 hb with rfl |hb;omega;exact g1 b hb;have:=g3 b hb;simp only[zI,not_or]at this;exact fun e=>this.1 e.symm
  rcases zI.1 hb with rfl |hb;exact h2;have:=g3 b hb;simp only[zI,not_or]at this;exact this.2;rintro⟨g1,⟨g2,g3⟩,g4⟩;refine⟨fun b hb=>g1 b (by simp[hb]),g3,fun b hb=>?_⟩;simp only[zI,not_or];exact⟨fun e=>g2 b hb e.symm,g4 b (by simp[hb])⟩
theorem qpe{N:Nat}{x:aU}:D9 N x=0↔NOk x N:=by unfold D9;by_cases h:x.Typex<0;simp only[h,if_true];exact⟨fun h=>absurd h (by decide),fun h'=>by have:=h'.ty;omega⟩;simp only[h,if_false];rw[qpb];exact⟨fun⟨h1,h2,_⟩=>⟨by omega,h2,h1⟩,fun h=>⟨h.arc,h.dis,fun _ _=>by simp⟩⟩
def OT(N:Nat):Z aU->Int
 |[]=>0|x::l=>if D9 N x≠0 then D9 N x else OT N l
theorem qpd{N:Nat}:∀{l:Z aU},OT N l=0↔∀x∈l,NOk x N
 |[]=>by simp[OT]
 |x::l=>by simp only[OT];by_cases h:D9 N x=0;simp only[h,ne_eq,not_true,if_false,qpd (l:=l),zI,forall_eq_or_imp,qpe.1 h,true_and];simp only[h,ne_eq,not_false_eq_true,if_true,zI,forall_eq_or_imp,false_iff,not_and];exact fun h2=>absurd (qpe.2 h2) h
def FJ(f:GFS):Int:=if f.Nodes.length=0 then 1 else if f.Nodes.length>4096 then 7 else OT f.Nodes.length f.Nodes
variable{f:GFS}
theorem qpc:FJ f=0↔f.Nodes.length≠0/\f.Nodes.length<=4096/\jL f:=by unfold FJ;by_cases h0:f.Nodes.length=0;simp[h0];by_cases h1:f.Nodes.length>4096;simp[h0,h1];intro _;omega;simp only[h0,h1,if_false,qpd];exact⟨fun h=>⟨by simpa using h0,by omega,h⟩,fun h=>h.2.2⟩
structure o4(f g:GFS)(V:Int->Int)(S:Int->Prop):Prop where
 clo:∀v,S v->∀a∈sar f v,S a.To
 inj:∀u v,S u->S v->V u=V v->u=v
 ty:∀v,S v->(nd g (V v)).Typex=(nd f v).Typex
 arc:∀v,S v->sar g (V v)=(sar f v).map fun a=>⟨a.Feat,V a.To⟩
theorem o4.dfs{f g:GFS}{V:Int->Int}{S:Int->Prop}(h:o4 f g V S):∀(k:Nat)(o:Z Int)(v:Int),S v->(∀u∈o,S u)->dfs g k (o.map V) (V v)=(Go.Proofs.dfs f k o v).map V/\∀u∈Go.Proofs.dfs f k o v,S u
 |0,o,v,hv,ho=>⟨rfl,ho⟩|k+1,o,v,hv,ho=>by
  have key:∀(l:Z aT)(p:Z Int),(∀a∈l,S a.To)->(∀u∈p,S u)->
    (l.map fun a=>(⟨a.Feat,V a.To⟩:aT)).foldl (jN (Go.Proofs.dfs g k)) (p.map V)=(l.foldl (jN (Go.Proofs.dfs f k)) p).map V/\∀u∈l.foldl (jN (Go.Proofs.dfs f k)) p,S u:=by
   intro l;induction l with
   |nil=>intro p _ hp;exact⟨rfl,hp⟩|cons a l ih=>
    intro p hl hp;have EG:=hl a (by simp);simp only[zQ,List.foldl_cons];have hm:V a.To∈p.map V↔a.To∈p:=by rw[List.mem_map];exact⟨fun⟨u,hu,e⟩=>by rw[<-h.inj u a.To (hp u hu) EG e];exact hu,fun hu=>⟨_,hu,rfl⟩⟩
    by_cases gG:a.To∈p;have e1:jN (Go.Proofs.dfs g k) (p.map V) (⟨a.Feat,V a.To⟩:aT)=p.map V:=by simp only[jN,hm.2 gG,if_true]
    have e2:jN (Go.Proofs.dfs f k) p a=p:=by simp only[jN,gG,if_true]
    rw[e1,e2];exact ih p (fun b hb=>hl b (List.mem_cons_of_mem _ hb)) hp;have e1:jN (Go.Proofs.dfs g k) (p.map V) (⟨a.Feat,V a.To⟩:aT)=Go.Proofs.dfs g k (p.map V) (V a.To):=by simp only[jN,mt hm.1 gG,if_false]
    have e2:jN (Go.Proofs.dfs f k) p a=Go.Proofs.dfs f k p a.To:=by simp only[jN,gG,if_false]
    obtain⟨g1,g2⟩:=o4.dfs h k p a.To EG hp;rw[e1,e2,g1];exact ih _ (fun b hb=>hl b (List.mem_cons_of_mem _ hb)) g2
  have ho1:∀u∈o++[v],S u:=fun u hu=>by rcases yD.1 hu with hu |hu;exact ho u hu;simp at hu;subst hu;exact hv
  have:=key (sar f v) (o++[v]) (h.clo v hv) ho1;refine⟨?_,this.2⟩;show(sar g (V v)).foldl _ (o.map V++[V v])=_;have e:=this.1;simp only[List.map_append,zQ,List.map_nil]at e;rw[h.arc v hv];exact e
theorem qpn{V:Int->Int}:∀{o:Z Int}{x:Int},(∀u∈o,V u=V x->u=x)->(o.map V).idxOf (V x)=o.idxOf x
 |[],x,_=>rfl|u::o,x,h=>by
  simp only[zQ,List.idxOf_cons];have ih:=qpn (o:=o) (x:=x) fun w hw=>h w (List.mem_cons_of_mem _ hw);by_cases e:u=x;subst e;simp;have e2:¬ V u=V x:=fun h2=>e (h u (by simp) h2);have e3:(u==x)=false:=by simpa using e
  have e4:(V u==V x)=false:=by simpa using e2
  simp only[e3,e4,zD,ih]
variable{r:Int}
theorem o4.canon{g:GFS}{V:Int->Int}{S:Int->Prop}(h:o4 f g V S)(hf:jL f)(hg:jL g)(hr:fG f r)(hS:S r)(NK:fG g (V r)):bH g (V r)=(bH f r).map V/\cK g (V r)=cK f r:=by obtain⟨o1,s1⟩:=JP hf hr;obtain⟨o2,s2⟩:=JP hg NK;have h1:=h.dfs (f.Nodes.length+g.Nodes.length) [] r hS (by simp);rw[List.map_nil,s1 _ (by omega),s2 _ (by omega)]at h1;refine⟨h1.1,?_⟩;unfold cK;rw[h1.1,List.map_map];congr 1;refine List.map_congr_left fun v hv=>?_;have S?:=h1.2 v hv;simp only[Function.comp,kI,h.ty v S?,h.arc v S?,List.map_map];congr 1;refine List.map_congr_left fun a ha=>?_;have hSa:=h.clo v S? a ha;simp only[Function.comp,oX];rw[qpn fun u hu e=>h.inj u a.To (h1.2 u hu) hSa e]
theorem ee{l:Z aT}(h:kC l):uA l=l:=z0f h.dis (List.Perm.refl _) h
theorem JX{o:Z Int}{v:Int}(h:v∈o):o[o.idxOf v]? = some v:=by have h1:=List.idxOf_lt_length_of_mem h;rw[List.getElem?_eq_getElem h1,List.getElem_idxOf]
structure Xg(f:GFS)(r:Int)(c:GFS):Prop where
 len:c.Nodes.length=(bH f r).length
 le:c.Nodes.length<=f.Nodes.length
 pos:0<c.Nodes.length
 ok:jL c
 at_:∀v∈bH f r,nd c ((bH f r).idxOf v:Int)=kI f (bH f r) v
 up:∀x∈c.Nodes,kC x.Arcs
 sim:o4 f c (fun v=>((bH f r).idxOf v:Int)) (fun v=>v∈bH f r)
theorem UP{o:Z Int}{l:Z aT}(h:kC l):kC (l.map (oX o)):=by unfold kC at*;rw[List.pairwise_map];exact h
theorem Q7(hf:jL f)(hr:fG f r):Xg f r (cK f r):=by
 obtain⟨o1,_⟩:=JP hf hr;have D4:∀v∈bH f r,nd (cK f r) ((bH f r).idxOf v:Int)=kI f (bH f r) v:=fun v hv=>by simp only[nd,cK,zZ,List.getElem?_map,JX hv,zM,Option.getD_some]
 have gG:∀v∈bH f r,fG f v:=o1.seen.ing;have CP:∀v∈bH f r,kC (kI f (bH f r) v).Arcs:=fun v hv=>UP (Q2 (hf _ (tK (gG v hv)).2).dis);refine⟨by simp[cK],by simp only[cK,yA];exact o1.seen.len,?_,?_,D4,?_,?_⟩;obtain⟨t,ht⟩:=o1.head;simp[cK,ht];intro x hx;simp only[cK,List.mem_map]at hx;obtain⟨v,hv,rfl⟩:=hx;have hn:=hf _ (tK (gG v hv)).2;refine⟨hn.ty,(CP v hv).dis,fun a ha=>?_⟩;simp only[kI,List.mem_map]at ha;obtain⟨b,hb,rfl⟩:=ha;have bV:=sM.1 hb;refine⟨(hn.arc b bV).1,by simp only[oX];omega,?_⟩;have:=List.idxOf_lt_length_of_mem (o1.clo v hv b bV);simp only[oX,cK,yA];omega;intro x hx;simp only[cK,List.mem_map]at hx;obtain⟨v,hv,rfl⟩:=hx;exact CP v hv;refine⟨fun v hv a ha=>o1.clo v hv a (sM.1 ha),fun u v hu hv e=>?_,fun v hv=>?_,fun v hv=>?_⟩;have h1:=JX hu;have h2:=JX hv;have e':(bH f r).idxOf u=(bH f r).idxOf v:=Int.ofNat.inj e;rw[e',h2]at h1;exact(Option.some.inj h1).symm;simp only[D4 v hv,kI];simp only[sar,D4 v hv];rw[ee (CP v hv)];rfl
theorem qly(hf:jL f)(hr:fG f r):cK (cK f r) 0=cK f r/\bH (cK f r) 0=(bH f r).map fun v=>((bH f r).idxOf v:Int):=by
 have hc:=Q7 hf hr;obtain⟨o1,_⟩:=JP hf hr;obtain⟨t,ht⟩:=o1.head;have M_:r∈bH f r:=by rw[ht];simp
 have h0:((bH f r).idxOf r:Int)=0:=by rw[ht];simp
 have:=hc.sim.canon hf hc.ok hr M_ ⟨by omega,by have:=hc.pos;simp only[h0];omega⟩;simp only[h0]at this;exact⟨this.2,this.1⟩
theorem dG.canon{k:Nat}(hs:dG f k)(hf:jL f)(hr:fG f r):dG (cK f r) k:=by have hc:=Q7 hf hr;obtain⟨o1,_⟩:=JP hf hr;refine⟨Nat.le_trans hc.le hs.nodes,fun x hx=>?_⟩;simp only[cK,List.mem_map]at hx;obtain⟨v,hv,rfl⟩:=hx;simp only[kI,yA,sar];rw[(MF _).length_eq];exact hs.arcs _ (tK (o1.seen.ing v hv)).2
end Go.Proofs
namespace Go.Proofs
open Go Go.Rx Go.Vx
set_option maxRecDepth 10000
def gA(a:dR):aT:=⟨a.f,(a.to:Int)⟩
def cN(x:PN):aU:=⟨x.kind,x.arcs.map gA⟩
def core(N:Z PN):GFS:=⟨N.map cN⟩
def iN(l:Z Nat):Z Int:=l.map fun(i:Nat)=>(i:Int)
theorem Eg{l:Z Nat}{u:Nat}:(u:Int)∈iN l↔u∈l:=by
 simp only[iN,List.mem_map];constructor;rintro⟨a,ha,e⟩;have:a=u:=by omega
 subst this;exact ha;exact fun h=>⟨u,h,rfl⟩
theorem bn(a b:Z Nat):iN (a++b)=iN a++iN b:=by simp[iN]
theorem bk(l:Z Nat):(iN l).length=l.length:=by simp[iN]
theorem bm{u:Nat}:∀{l:Z Nat},(iN l).idxOf (u:Int)=l.idxOf u
 |[]=>rfl|a::l=>by
  rw[show iN (a::l)=(a:Int)::iN l from rfl,List.idxOf_cons,List.idxOf_cons,bm];have:((a:Int)==(u:Int))=(a==u):=by rw[Bool.eq_iff_iff];simp;omega
  rw[this]
structure CO(N:Z PN):Prop where
 gok:jL (core N)
 up:∀x∈N,kC (x.arcs.map gA)
 len:N.length<=1000000
 sm:∀x∈N,x.arcs.length<=1000000
theorem iO(N:Z PN):(core N).Nodes.length=N.length:=by simp[core]
variable{N:Z PN}
theorem E9{i:Nat}{x:PN}(hx:N[i]? = some x):nd (core N) (i:Int)=cN x:=by simp only[nd,core,zZ,List.getElem?_map,hx,zM,Option.getD_some]
theorem CO.sar{N:Z PN}(c:CO N){i:Nat}{x:PN}(hx:N[i]? = some x):Go.Proofs.sar (core N) (i:Int)=x.arcs.map gA:=by rw[Go.Proofs.sar,E9 hx];exact ee (c.up x (zX hx))
theorem CO.to{N:Z PN}(c:CO N){i:Nat}{x:PN}(hx:N[i]? = some x):∀a∈x.arcs,a.to<N.length:=fun a ha=>by
 have:=((c.gok (cN x) (List.mem_map_of_mem (zX hx))).arc (gA a) (List.mem_map_of_mem ha)).2.2;rw[iO]at this;simp only[gA]at this;omega
theorem gm(q:Nat):∀(l:Z Nat)(s:Nat),R5 q l s=if q∈l then some (s+l.idxOf q)else none
 |[],s=>rfl|k::l,s=>by
  rw[R5];by_cases e:k=q;subst e;simp[beq_eq];have e1:Nat.beq k q=false:=by simp[beq_eq,e]
  have e2:(k==q)=false:=by simp[e]
  rw[e1,zD,gm q l,List.idxOf_cons,e2,zD];simp only[zI,Ne.symm e,false_or];split;congr 1;omega;rfl
structure TY(N:Z PN)(s:Z Nat×Z aU):Prop where
 nd:s.1.Nodup
 ing:∀v∈s.1,v<N.length
 len:s.2.length=s.1.length
theorem qts{l:Z Nat}(h:l.Nodup):(iN l).Nodup:=by unfold iN List.Nodup at*;rw[List.pairwise_map];exact h.imp fun{a b} q e=>q (by omega)
theorem TY.seen{s:Z Nat×Z aU}(h:TY N s):Seen (core N) (iN s.1):=⟨qts h.nd,fun v hv=>by
 obtain⟨u,hu,rfl⟩:=List.mem_map.1 hv;have:=h.ing u hu;exact⟨by omega,by rw[iO];omega⟩⟩
theorem TY.le{s:Z Nat×Z aU}(h:TY N s):s.1.length<=N.length:=by have:=h.seen.len;rw[bk,iO]at this;exact this
theorem z07(a b:Z aU)(k:Int)(l:Z aT):JG (a++[⟨k,[]⟩]++b) a.length l=a++⟨k,l⟩::b:=by simp[JG]
theorem yM{f:GFS}{o t:Z Int}{u:Int}(hu:∀a∈(nd f u).Arcs,a.To∈o):kI f (o++t) u=kI f o u:=by simp only[kI,aU.mk.injEq,true_and];refine List.map_congr_left fun a ha=>?_;simp only[oX,List.idxOf_append,hu a (sM.1 ha),if_true]
theorem quj{N:Z PN}(c:CO N):∀(k:Nat)(s:Z Nat×Z aU)(v:Nat),TY N s->v<N.length->N.length-s.1.length<k->v ∉ s.1->
  ∃t,dfs (core N) k (iN s.1) (v:Int)=iN (s.1++v::t)/\AA N k v s=some (s.1.length,s.1++v::t,s.2++(v::t).map fun(u:Nat)=>kI (core N) (iN (s.1++v::t)) (u:Int))
 |0,s,v,hs,hv,hk,_=>by omega
 |k+1,s,v,hs,hv,hk,hm=>by
  obtain⟨x,hx⟩:∃x,N[v]? = some x:=⟨N[v],List.getElem?_eq_getElem hv⟩;have CS:TY N (s.1++[v],s.2++[⟨x.kind,[]⟩]):=⟨by
   show(s.1++[v]).Nodup;rw[List.nodup_append];refine⟨hs.nd,by simp,fun a ha b hb=>?_⟩;simp at hb;subst hb;intro e;subst e;exact hm ha,fun u hu=>by
   rcases yD.1 hu with hu |hu;exact hs.ing u hu;simp at hu;subst hu;exact hv,by simp[hs.len]⟩
  have AV:=CS.le;simp only[zU,zO,zS]at AV;have aN:=c.len;have GY:=c.sm x (zX hx);have key:∀(l:Z dR),(∀a∈l,a.to<N.length)->∀(s':Z Nat×Z aU)(aY:Z aT),TY N s'->s.1.length+1<=s'.1.length->aY.length+l.length<=1000000->
    ∃t,(l.map gA).foldl (jN (dfs (core N) k)) (iN s'.1)=iN (s'.1++t)/\(∀a∈l,a.to∈s'.1++t)/\(∀u∈t,∀a∈(nd (core N) (u:Int)).Arcs,a.To∈iN (s'.1++t))/\
     W5 (AA N k) l s' aY=some (aY++l.map (fun a=>oX (iN (s'.1++t)) (gA a)),s'.1++t,s'.2++t.map fun(u:Nat)=>kI (core N) (iN (s'.1++t)) (u:Int)):=by
   intro l;induction l with
   |nil=>intro _ s' aY h1 h2 _;exact⟨[],by simp,by simp,by simp,by simp[W5]⟩|cons a l ih=>
    intro hl s' aY h1 h2 h3;have ha:=hl a (by simp);simp only[zO]at h3;rw[W5,aG,if_pos (by omega)];have pG:=h1.le;by_cases gG:a.to∈s'.1;have e1:AA N k a.to s'=some (s'.1.idxOf a.to,s'):=by obtain⟨k',rfl⟩:=Nat.exists_eq_add_of_le' (show 1<=k by omega);rw[AA,gm,if_pos gG,Nat.zero_add]
    rw[e1,aM];obtain⟨t,q1,q2,q3,q4⟩:=ih (fun b hb=>hl b (List.mem_cons_of_mem _ hb)) s' (aY++[⟨a.f,(s'.1.idxOf a.to:Int)⟩]) h1 h2 (by simp;omega);refine⟨t,?_,?_,q3,?_⟩;rw[zQ,List.foldl_cons];have:jN (dfs (core N) k) (iN s'.1) (gA a)=iN s'.1:=by rw[jN];exact if_pos (Eg.2 gG)
    rw[this,q1];intro b hb;rcases zI.1 hb with rfl |hb;exact List.mem_append_left _ gG;exact q2 b hb;rw[q4];have:oX (iN (s'.1++t)) (gA a)=⟨a.f,(s'.1.idxOf a.to:Int)⟩:=by simp only[oX,gA,bm,List.idxOf_append,gG,if_true]
    rw[zQ,this];simp;obtain⟨t1,e1,e2⟩:=quj c k s' a.to h1 ha (by omega) gG;have hg:fG (core N) (a.to:Int):=⟨by omega,by rw[iO];omega⟩;obtain⟨d1,_,d3,_⟩:=Lr c.gok k (iN s'.1) (a.to:Int) h1.seen hg (fun h=>gG (Eg.1 h)) (by rw[iO,bk];omega);rw[e1]at d1 d3;rw[e2,aM];have c_:(s'.1++a.to::t1).Nodup:=by have:=d1.nd;unfold iN List.Nodup at this;rw[List.pairwise_map]at this;exact this.imp fun{p q} h e=>h (by omega)
    have Ie:∀u∈a.to::t1,∀b∈(nd (core N) (u:Int)).Arcs,b.To∈iN (s'.1++a.to::t1):=fun u hu b hb=>by refine d3 u (Eg.2 (List.mem_append_right _ hu)) (fun h=>?_) b hb;rw[List.nodup_append]at c_;exact c_.2.2 u (Eg.1 h) u hu rfl
    have v1:TY N (s'.1++a.to::t1,s'.2++(a.to::t1).map fun(u:Nat)=>kI (core N) (iN (s'.1++a.to::t1)) (u:Int)):=⟨c_,fun u hu=>by have:=(d1.ing u (Eg.2 hu)).2;rw[iO]at this;omega,by simp[h1.len]⟩;obtain⟨t,q1,q2,q3,q4⟩:=ih (fun b hb=>hl b (List.mem_cons_of_mem _ hb)) _ (aY++[⟨a.f,(s'.1.length:Int)⟩]) v1 (by simp only[zU,zO];omega) (by simp;omega);simp only at q1 q2 q3 q4;have lr:s'.1++(a.to::t1++t)=s'.1++a.to::t1++t:=by simp
    refine⟨a.to::t1++t,?_,?_,?_,?_⟩;rw[zQ,List.foldl_cons];have:jN (dfs (core N) k) (iN s'.1) (gA a)=iN (s'.1++a.to::t1):=by rw[jN];exact(if_neg (fun h=>gG (Eg.1 h))).trans e1
    rw[this,q1,lr];intro b hb;rw[lr];rcases zI.1 hb with rfl |hb;simp;exact q2 b hb;intro u hu b hb;rw[lr];rcases yD.1 hu with hu |hu;rw[bn];exact List.mem_append_left _ (Ie u hu b hb);exact q3 u hu b hb;rw[q4,lr];have e3:oX (iN (s'.1++a.to::t1++t)) (gA a)=⟨a.f,(s'.1.length:Int)⟩:=by simp only[oX,gA,bm,List.idxOf_append,yD,gG,zI,true_or,or_true,if_true,if_false,List.idxOf_cons_self];simp
    have e4:((a.to::t1).map fun(u:Nat)=>kI (core N) (iN (s'.1++a.to::t1++t)) (u:Int))=(a.to::t1).map fun(u:Nat)=>kI (core N) (iN (s'.1++a.to::t1)) (u:Int):=List.map_congr_left fun u hu=>by rw[bn _ t];exact yM (Ie u hu)
    rw[List.map_append,e4,zQ (f:=fun a=>oX _ (gA a)),e3];simp only[zT,List.singleton_append,List.cons_append,List.nil_append]
  obtain⟨t,q1,q2,q3,q4⟩:=key _ (c.to hx) (s.1++[v],s.2++[⟨x.kind,[]⟩]) [] CS (by simp) (by simp;omega);simp only at q1 q2 q3 q4;have e0:s.1++v::t=s.1++[v]++t:=by simp
  refine⟨t,?_,?_⟩;rw[dfs,c.sar hx,e0,<-q1,bn];rfl;have AU:=hs.len;rw[AA,gm,if_neg hm];simp only[hx,aM];rw[aG,if_pos ⟨by omega,by omega⟩,q4,aM];simp only;rw[z07,e0,AU,List.nil_append];have e2:kI (core N) (iN (s.1++[v]++t)) (v:Int)=⟨x.kind,x.arcs.map fun a=>oX (iN (s.1++[v]++t)) (gA a)⟩:=by rw[kI,E9 hx,c.sar hx,List.map_map];rfl
  rw[zQ,e2]
theorem z3p{P:PP}(c:CO P.N){n:Nat}(hn:P.N.length<n){k:Int}{r:Nat}(h0:0<=k)(hr:P.roots[k.toNat]? = some r)(hl:r<P.N.length):DZ n P k=some (cK (core P.N) (r:Int),true):=by
 have h1:k.toNat<P.roots.length:=(zG.1 hr).1;obtain⟨t,e1,e2⟩:=quj c n ([],[]) r ⟨List.nodup_nil,nofun,rfl⟩ hl (by simp;omega) (by simp);obtain⟨o1,o2⟩:=JP c.gok (r:=(r:Int)) ⟨by omega,by rw[iO];omega⟩;simp only[List.nil_append]at e1 e2;have e3:dfs (core P.N) n [] (r:Int)=iN (r::t):=e1;rw[o2 n (by rw[iO];omega)]at e3;have h2:aC P.roots k=some r:=by rw[show k=((k.toNat:Nat):Int) by omega,dP,hr]
 rw[DZ,decide_eq_false (by omega),zD,decide_eq_false (by omega),zD,h2,aM,e2,aM];simp only[cK,e3,iN,List.map_map];rfl
end Go.Proofs
