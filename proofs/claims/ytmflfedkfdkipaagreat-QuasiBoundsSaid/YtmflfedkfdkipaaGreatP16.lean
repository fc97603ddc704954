import Derived.Test.YtmflfedkfdkipaaGreatP15
set_option linter.all false
namespace Go.Proofs
open Go Go.Rx Go.Vx Tryz
set_option maxRecDepth 20000
set_option maxHeartbeats 4000000
set_option synthInstance.maxSize 4000
set_option synthInstance.maxHeartbeats 200000
def DZ{v12 β:Type}(f:v12->Y β):X v12->Y (X β)
 |[]=>some []|a::l=>a8 (f a) fun b=>a8 (DZ f l) fun bs=>some (b::bs)
theorem Pf{v12 β:Type}{f:v12->Y β}:∀{l:X v12}{bs:X β},DZ f l=some bs->bs.length=l.length/\∀(i:Nat)(a:v12),l[i]? = some a->∃b,bs[i]? = some b/\f a=some b
 |[],bs,h=>by obtain rfl:=sI h;exact⟨rfl,fun i a h=>by simp at h⟩
 |a::l,bs,h=>by
  obtain⟨b,hb,h⟩:=aI h;obtain⟨bs',hbs,h⟩:=aI h;obtain rfl:=sI h;obtain⟨h1,h2⟩:=Pf hbs;refine⟨by simp[h1],fun i c hc=>?_⟩;cases i with
  |zero=>simp at hc;subst hc;exact⟨b,rfl,hb⟩|succ i=>simp at hc;obtain⟨d,h3,h4⟩:=h2 i c hc;exact⟨d,by simpa using h3,h4⟩
def qv(n0 len:Nat)(a:aR):Y eC:=cond (decide (0<=a.To/\a.To<(len:Int))) (some ⟨a.Feat,n0+a.To.toNat⟩) none
variable{n0:Nat}
variable{len:Nat}
theorem c?{a:aR}{b:eC}(h:qv n0 len a=some b):0<=a.To/\a.To<(len:Int)/\b=⟨a.Feat,n0+a.To.toNat⟩:=by unfold qv at h;rcases hd:decide (0<=a.To/\a.To<(len:Int))with _|_;rw[hd]at h;cases h;rw[hd]at h;have:=of_decide_eq_true hd;exact⟨this.1,this.2,(sI h).symm⟩
def SR(n0 len:Nat)(x:aO):Y PN:=aF (x.Arcs.length<=1000000) (a8 (DZ (qv n0 len) x.Arcs) fun l=>some (gO x.Typex l))
def yF(P:PP)(f:GFS):Y (Int×PP):=
 aF (0<f.Nodes.length/\f.Nodes.length<=1000000/\P.roots.length<=1000000) (a8 (DZ (SR P.N.length f.Nodes.length) f.Nodes) fun L=>some ((P.roots.length:Int),{ P with N:=P.N++L,size:=IntKind.i64.wrap (P.size+f.Nodes.length),roots:=P.roots++[P.N.length] }))
def KI(x:PN):PN:=gO x.kind []
def uZ(N L:X PN)(t:Nat):X PN:=N++(L.take t++(L.drop t).map KI)
theorem z60(N L:X PN)(t:Nat):(uZ N L t).length=N.length+L.length:=by simp[uZ];omega
variable{N:X PN}
variable{t:Nat}
theorem z5z{L:X PN}{x:PN}(h:L[t]? = some x):(uZ N L t)[N.length+t]? = some (KI x):=by have ht:=(zG.1 h).1;unfold uZ;rw[List.getElem?_append_right qq0,show N.length+t-N.length=t by omega,List.getElem?_append_right (by simp;omega)];simp;rw[Nat.min_eq_left qq0,Nat.sub_self,Nat.add_zero];exact⟨x,h,rfl⟩
theorem z61{L:X PN}{x:PN}(h:L[t]? = some x):(uZ N L t).set (N.length+t) x=uZ N L (t+1):=by
 have ht:=(zG.1 h).1;have e:L.drop t=x::L.drop (t+1):=by rw[List.drop_eq_getElem_cons ht];rw[List.getElem?_eq_getElem ht]at h;cases h;rfl
 unfold uZ;rw[List.set_append_right _ _ qq0,show N.length+t-N.length=t by omega,List.set_append_right _ _ (by simp;omega),e];congr 1;simp only[List.length_take,Nat.min_eq_left (Nat.le_of_lt ht),Nat.sub_self,zQ,List.set_cons_zero];rw[List.take_add_one,h];simp
def nC(nm:Nat->Nat)(o:Y Nat):X U:=[po nm o]
def lY(n0 len t:Nat):X (Y Nat):=(List.range len).map fun i=>if i<t then some (n0+i)else none
theorem S0{i:Nat}(h:i<len):(lY n0 len t)[i]? = some (if i<t then some (n0+i)else none):=by simp[lY,h]
theorem z5y(h:t<len):(lY n0 len t).set t (some (n0+t))=lY n0 len (t+1):=by apply List.ext_getElem?;intro i;rw[List.getElem?_set];by_cases e:t=i;subst e;rw[if_pos rfl,if_pos (by simp[lY,h]),S0 h,if_pos (zN _)];rw[if_neg e];by_cases hi:i<len;rw[S0 hi,S0 hi];by_cases h2:i<t;rw[if_pos h2,if_pos qq0];rw[if_neg h2,if_neg qq0];rw[List.getElem?_eq_none (by simp[lY];omega),List.getElem?_eq_none (by simp[lY];omega)]
theorem z1o(n0 len:Nat):lY n0 len 0=List.replicate len none:=by apply List.ext_getElem?;intro i;by_cases hi:i<len;rw[S0 hi];simp[hi];rw[List.getElem?_eq_none (by simp[lY];omega),List.getElem?_eq_none (by simp;omega)]
section
variable{kp kr st:Nat}{nm:Nat->Nat}{P:PP}{h:X (Nat×B)}{nx:Nat}
theorem pX.more{nm1:Nat->Nat}{N:X PN}{s:Int}{c:Nat}{H:X (Nat×B)}{M:Nat}(m:pX kp kr st nm P h nx nm1 N s c H M)(hw:oI ⟨H,M⟩)(b:B):pX kp kr st nm P h nx nm1 N s c ((M,b)::H) (M+1):=
 ⟨m.ph.more fun k c hc=>by rw[kB (hw k c hc).1];exact hc,m.nmE,m.new,fun k k1 k2 k3=>by rw[kB (Nat.lt_of_lt_of_le k1 m.le)];exact m.fr k k1 k2 k3,Nat.le_succ_of_le m.le,m.len,m.cl⟩
theorem pX.add{nm1:Nat->Nat}{N:X PN}{s:Int}{c:Nat}{H:X (Nat×B)}{M:Nat}(m:pX kp kr st nm P h nx nm1 N s c H M)(hw:oI ⟨H,M⟩)(hc:c<=N.length)(k:Int):pX kp kr st nm P h nx (u9 nm1 N.length M) (N++[gO k []]) s c ((M,.row (qV (u9 nm1 N.length M) (gO k []) .nils) 103)::H) (M+1):=by
 refine⟨m.ph.add hw hc k (by simp[aP]) (fun k b hb=>by rw[kB (hw k b hb).1];exact hb),fun k hk=>by rw[vF k (Nat.lt_of_lt_of_le hk m.len)];exact m.nmE k hk,fun k ha hb=>?_,fun k k1 k2 k3=>by rw[kB (Nat.lt_of_lt_of_le k1 m.le)];exact m.fr k k1 k2 k3,Nat.le_succ_of_le m.le,by simp;exact Nat.le_succ_of_le m.len,m.cl⟩;rw[zU]at hb;rcases Nat.lt_or_ge k N.length with h9 |h9;rw[vF k h9];exact m.new k ha h9;have:k=N.length:=by simp at hb;omega
 subst this;rw[Y7];exact m.le
theorem pX.oth{nm1:Nat->Nat}{s:Int}{c:Nat}{H:X (Nat×B)}{M K:Nat}{q:X U}(m:pX kp kr st nm P h nx nm1 N s c H M)(hK:nx<=K)(hg:gt H K=some (.row q 92))(b:B):pX kp kr st nm P h nx nm1 N s c (ug H K b) M:=by
 have cP:∀k b',gt H k=some b'->(∀q,b'≠.row q 92)->gt (ug H K b) k=some b':=fun k b' hk hn=>by rw[bS,if_neg fun e=>?_];exact hk;rw[<-e,hg]at hk;exact hn q (Option.some.inj hk).symm
 refine⟨⟨cP _ _ m.ph.pool qq4,cP _ _ m.ph.roots qq4,fun i x hx hi=>cP _ _ (m.ph.node i x hx hi) qq4,fun i x hx hi=>⟨cP _ _ (m.ph.pend i x hx hi).1 qq4,(m.ph.pend i x hx hi).2⟩,m.ph.inj,m.ph.wf,m.ph.rt⟩,m.nmE,m.new,fun k k1 k2 k3=>?_,m.le,m.len,m.cl⟩;rw[bS,if_neg qq0];exact m.fr k k1 k2 k3
theorem qyx{nm':Nat->Nat}{n:Nat}(hn:∀k,k<n->nm' k=nm k)(ht:n0+t<=n):(lY n0 len t).map (nC nm')=(lY n0 len t).map (nC nm):=by refine List.map_congr_left fun o ho=>?_;simp only[lY,List.mem_map]at ho;obtain⟨i,_,rfl⟩:=ho;by_cases hi:i<t;rw[if_pos hi];simp only[nC,po,pt,hn (n0+i) qq0];rw[if_neg hi];rfl
theorem ZJ(p:PH kp kr st nm P h){f:GFS}{r:Int×PP}(O:yF P f=some r):
  aW prog 18 [.ptr kp 0 0,.agg (lM f)] ⟨h,nx⟩ (fun u V'=>u=.i6 r.1/\V'=⟨cH kp kr (st+1) (jF nm P.N.length nx) r.2 h,nx+(r.2.N.length-P.N.length)⟩):=by
 refine aW.wf fun uF _=>?_;obtain⟨⟨FR,FQ,OT⟩,O⟩:=c6 O;obtain⟨L,hL,O⟩:=aI O;obtain rfl:=sI O;obtain⟨mG,bk⟩:=Pf hL
 haveI:SuC nx (nx+1):=⟨rfl⟩
 haveI:SuC (nx+1) (nx+2):=⟨rfl⟩
 refine eM 99 IV ?_;refine goN ?_;refine RS.w rfl (Oe (c:=nC nm) (none:Y Nat) rfl rfl gX.h iO.h rfl rfl rfl rfl ⟨by omega,by omega,by omega⟩) ?_;change RU _ _ _ _ _ (Sg.mk ((nx+1,.row ((List.replicate f.Nodes.length (none:Y Nat)).map (nC nm)).flatten 92)::(nx,.row (lM f) 39)::h) (nx+2)) _
 haveI:Nq (nx+1) nx:=⟨by rw[beq_eq];simp⟩
 refine goN ?_;have hPN:P.N++(L.take 0).map KI=P.N:=by simp
 have c0:pX kp kr st nm P h nx nm (P.N++(L.take 0).map KI) P.size P.N.length ((nx+1,.row ((lY P.N.length f.Nodes.length 0).map (nC nm)).flatten 92)::(nx,.row (lM f) 39)::h) (nx+2):=by rw[hPN];refine⟨p.pq.more fun k b hb=>?_,fun _ _=>rfl,fun k a b=>qq0,fun k k1 _ _=>?_,by omega,zF _,zF _⟩;have:k<nx:=(uF k b hb).1;rw[aP,if_neg qq0,aP,if_neg qq0];exact hb;rw[aP,if_neg qq0,aP,if_neg qq0]
 refine WPU.eqv rfl (V':=⟨(nx+1,.row ((lY P.N.length f.Nodes.length 0).map (nC nm)).flatten 92)::(nx,.row (lM f) 39)::h,nx+2⟩) (by rw[z1o]) ?_;refine gL (fun m tm V=>∃(t:Nat)(nm1:Nat->Nat)(H:X (Nat×B))(M:Nat),m=f.Nodes.length-t/\t<=f.Nodes.length/\tm=fr 99 [(0,.ptr kp 0 0),(3,.ptr nx 0 0),(5,.sl (nx+1) 0 f.Nodes.length f.Nodes.length),(17,.iM b7 f.Nodes),(18,.i6 f.Nodes.length),(19,.i6 t)]/\V=⟨H,M⟩/\pX kp kr st nm P h nx nm1 (P.N++(L.take t).map KI) P.size P.N.length H M/\gt H (nx+1)=some (.row ((lY P.N.length f.Nodes.length t).map (nC nm1)).flatten 92)/\gt H nx=some (.row (lM f) 39)/\nx+1<M)
  (fun tm V=>∃(nm1:Nat->Nat)(H:X (Nat×B))(M:Nat),tm=fr 99 [(0,.ptr kp 0 0),(3,.ptr nx 0 0),(5,.sl (nx+1) 0 f.Nodes.length f.Nodes.length)]/\V=⟨H,M⟩/\pX kp kr st nm P h nx nm1 (uZ P.N L 0) P.size P.N.length H M/\gt H (nx+1)=some (.row ((lY P.N.length f.Nodes.length f.Nodes.length).map (nC nm1)).flatten 92)/\gt H nx=some (.row (lM f) 39)/\nx+1<M) f.Nodes.length
  ⟨0,nm,_,nx+2,rfl,Nat.zero_le _,rfl,rfl,c0,by rw[aP,if_pos rfl],by rw[aP,if_neg qq0,aP,if_pos rfl],zN _⟩ ?_ ?_ (by show nx<=nx+2;omega)
 ·rintro _ _ ⟨nm1,H,M,rfl,rfl,hm,uL,TV,hM⟩
  haveI:eF H nx (.row [.iM b7 f.Nodes] 39):=⟨TV⟩
  refine goN ?_;refine gL (fun m tm V=>∃(t:Nat)(H:X (Nat×B))(M:Nat),m=f.Nodes.length-t/\t<=f.Nodes.length/\tm=fr 99 [(0,.ptr kp 0 0),(5,.sl (nx+1) 0 f.Nodes.length f.Nodes.length),(33,.iM b7 f.Nodes),(34,.i6 f.Nodes.length),(35,.i6 t)]/\V=⟨H,M⟩/\pX kp kr st nm P h nx nm1 (uZ P.N L t) P.size (P.N.length+t) H M/\gt H (nx+1)=some (.row ((lY P.N.length f.Nodes.length f.Nodes.length).map (nC nm1)).flatten 92)/\nx+1<M)
   (fun tm V=>∃(H:X (Nat×B))(M:Nat),tm=fr 99 [(0,.ptr kp 0 0),(5,.sl (nx+1) 0 f.Nodes.length f.Nodes.length)]/\V=⟨H,M⟩/\pX kp kr st nm P h nx nm1 (P.N++L) P.size (P.N.length+L.length) H M/\gt H (nx+1)=some (.row ((lY P.N.length f.Nodes.length f.Nodes.length).map (nC nm1)).flatten 92)/\nx+1<M) f.Nodes.length
   ⟨0,H,M,rfl,Nat.zero_le _,rfl,rfl,hm,uL,hM⟩ ?_ ?_ hm.le
  rintro _ _ ⟨H,M,rfl,rfl,hm,uL,hM⟩;refine WPU.wf fun fM _=>?_;have Cc:live (Sg.mk H M) (nx+1) 0=true:=by simp[live,uL,B.st]
  have IC:=hm.ph.ph (Nat.le_of_eq qq4)
  haveI:=IC.gp
  haveI:SuC M (M+1):=⟨rfl⟩
  refine goN ?_;refine RS.w rfl (H4 rfl rfl rfl (z7s gX.h Cc)) ?_;refine goN ?_
  let sz:Int:=IntKind.i64.wrap (P.size+(f.Nodes.length:Nat))
  let P2:PP:={ P with N:=P.N++L,size:=sz }
  let H2:X (Nat×B):=ug H kp (.row (rW kr st P2) 83)
  have nK:PH kp kr st nm1 P2 H2:=IC.setP sz P.gen (by simp only[H2];rw[bS,if_pos rfl,IC.pool];rfl) fun k b hb hk=>by simp only[H2];rw[bS,if_neg (Ne.symm hk)];exact hb
  have tC:kp<M:=(fM _ _ IC.pool).1;have CQ:kr<M:=(fM _ _ IC.roots).1;have hlx:kp≠nx+1:=fun e=>by have:=IC.pool;rw[e,uL]at this;simp at this
  have hlr:kr≠nx+1:=fun e=>by have:=IC.roots;rw[e,uL]at this;cases this
  have xF:gt H2 (nx+1)=some (.row ((lY P.N.length f.Nodes.length f.Nodes.length).map (nC nm1)).flatten 92):=by simp only[H2];rw[bS,if_neg hlx];exact uL
  have Ca:live (Sg.mk H2 M) (nx+1) 0=true:=by simp[live,xF,B.st]
  have kO:i8 (lY P.N.length f.Nodes.length f.Nodes.length) 0 f.Nodes.length 0=some (some P.N.length):=by rw[i8,if_pos ⟨by omega,by omega⟩];simp only[Int.toNat_zero,Nat.zero_add];rw[S0 FR,if_pos FR];simp
  change WPU _ _ _ _ (Sg.mk H2 M) _
  haveI:=nK.gp
  haveI:Nq M kp:=⟨by rw[beq_eq];simp;omega⟩
  haveI:Nq M kr:=⟨by rw[beq_eq];simp;omega⟩
  refine dE [(0,8),(0,9),(1,8),(2,8),(3,8),(4,8)] ?_;refine cT ?_;refine aV rfl (dZ rfl rfl (sX (V:=⟨H2,M⟩) gX.h (bB iO.h) Ca kO)) (aV (u:=pt nm1 P.N.length) rfl (C3 (V:=⟨H2,M⟩) (nC nm1) (po nm1) gW.h rfl (fun _=>rfl) rfl xF kO) ?_);refine cT ?_;refine eN ?_;have uM:gt ((M,.row [pt nm1 P.N.length] 92)::H2) kr=some (.vec (P.roots.map (dV nm1)).flatten 92 1 st):=by rw[aP,if_neg qq0];exact nK.roots
  have eZ:rowOf (Sg.mk ((M,.row [pt nm1 P.N.length] 92)::H2) (M+1)) M=some [pt nm1 P.N.length]:=by simp[rowOf,aP]
  refine RD.act rfl (pR rfl rfl rfl rfl (DN (dV nm1) [P.N.length] gX.h gX.h iO.h rfl (fun _=>rfl) uM (FD (dV nm1) [P.N.length] (q:=[pt nm1 P.N.length]) eZ rfl rfl rfl) ⟨by show(P.roots.length+1)*_<=_;omega,by show P.roots.length+1<=_;omega⟩)) rfl rfl ?_;have Wn:eF (ug ((M,.row [pt nm1 P.N.length] 92)::H2) kr (.vec (List.map (dV nm1) (P.roots++[P.N.length])).flatten 92 1 (st+1))) kp (.row [.iM jV P2.H.Types,.iM mM P2.H.Feats,.vl kr st 0 P2.roots.length,.i6 P2.size,.i6 P2.gen] 83):=⟨by rw[bS,if_neg nK.krp,aP,if_neg qq0];exact nK.pool⟩
  haveI:=Wn
  refine cT ?_;refine qM ?_;refine bD ⟨by kernel_rfl,⟨opm,opm,opm,opm,opm,opm,trivial⟩,?_⟩
  let v00:B:=.vec (List.map (dV nm1) (P.roots++[P.N.length])).flatten 92 1 (st+1)
  let P3:PP:={ P with N:=P.N++L,size:=sz,roots:=P.roots++[P.N.length] }
  let T:X (Nat×B):=(M,.row [pt nm1 P.N.length] 92)::H2
  let T2:X (Nat×B):=ug (ug T kr v00) kp (.row (rW kr (st+1) P3) 83)
  have hT:∀k,k≠kp->k≠kr->k<M->gt T2 k=gt H k:=fun k k1 k2 k3=>by simp only[T2,T,H2];rw[bS,if_neg (Ne.symm k1),bS,if_neg (Ne.symm k2),aP,if_neg qq0,bS,if_neg (Ne.symm k1)]
  have p5:PH kp kr (st+1) nm1 P3 T2:=by refine⟨?_,?_,fun i x hx=>?_,nK.inj,nK.wf,fun r hr=>?_⟩;simp only[T2];rw[bS,if_pos rfl,Wn.h];rfl;simp only[T2];rw[bS,if_neg (Ne.symm nK.krp),bS,if_pos rfl];simp only[T];rw[uM];rfl;have hi:=oB hx;rw[hT _ (IC.kpn hi) (IC.krn hi) (IC.lt fM hi)];exact IC.node i x hx;rcases yD.1 hr with hr |hr;exact nK.rt r hr;simp at hr;subst hr;show P.N.length<(P.N++L).length;simp;omega
  change WPU _ _ _ _ (Sg.mk T2 (M+1)) _
  haveI:=p5.gp
  haveI:=p5.gr
  refine goN ?_;have lQ:IntKind.i64.wrap (((P.roots++[P.N.length]).length:Int)-1)=P.roots.length:=by rw[zU,p9 qq4 (by simp;omega)];simp
  refine qw rfl rfl rfl (Nat.le_add_right _ _) (canon (P1:=P3) (nm1:=nm1) (tm':=[.i6 P.roots.length]) p uF p5 (by show P.N.length<=(P.N++L).length;simp) hm.nmE hm.new (fun k k1 k2 k3 k4=>?_) ?_ (by simp[aG,aT])) ⟨rfl,rfl⟩;have k1':k<nx:=k1;rw[hT k k2 k3 (by have:=hm.le;omega)];exact hm.fr k k1 k2 k4;simp only[fB,rU];rw[<-lQ];rintro _ _ _ ⟨t,H,M,rfl,ht,rfl,rfl,hm,uL,hM⟩;refine WPU.wf fun fM _=>?_
  haveI:SuC M (M+1):=⟨rfl⟩
  refine goN ?_;refine eG rfl (fun h7=>?_) (fun h7=>?_)
  ·have eW:t<f.Nodes.length:=by simpa using h7
   obtain⟨x,hx⟩:∃a,f.Nodes[t]? = some a:=⟨_,List.getElem?_eq_getElem eW⟩;obtain⟨y,hy,nJ⟩:=bk t x hx;obtain⟨lT,nJ⟩:=c6 nJ;obtain⟨l2,hl2',nJ⟩:=aI nJ;obtain⟨Wa,Wb⟩:=Pf hl2';have kP:aB f.Nodes (t:Int)=some x:=by rw[aB,if_pos ⟨by omega,by omega⟩];simpa using hx
   have lQ:IntKind.i64.wrap ((t:Int)+1)=((t+1:Nat):Int):=by rw[p9 qq0 qq0];rfl
   refine goN ?_;apply cE;refine goN ?_;refine c8 kP ?_;refine goN ?_;obtain rfl:=sI nJ
   let q:=P.N.length+t
   have hq:(uZ P.N L t)[q]? = some (gO x.Typex []):=z5z hy;have Bt:q<(uZ P.N L t).length:=oB hq;obtain⟨LR,_⟩:=hm.ph.pend q _ hq (zF _);have LR:gt H (nm1 q)=some (.row (qV nm1 (gO x.Typex []) .nils) 103):=LR;have hqM:nm1 q<M:=(fM _ _ LR).1;have tC:kp<M:=(fM _ _ hm.ph.pool).1;have Bs:nm1 q≠kp:=hm.ph.kpn Bt;have hqx:nm1 q≠nx+1:=fun e=>by rw[e,uL]at LR;simp at LR
   have Uv:gt ((M,.row (b7 x) 79)::H) (nm1 q)=some (.row (qV nm1 (gO x.Typex []) .nils) 103):=by rw[aP,if_neg qq0];exact LR
   refine dF (BP (V:=⟨(M,.row (b7 x) 79)::H,M+1⟩) (nm1 q) 1 107 2 qq3 (Nat.le_succ_of_le hm.le) Uv rfl) (Nat.le_succ_of_le (Nat.le_succ_of_le hm.le)) ?_;refine gL (fun m tm V=>∃(j:Nat)(s:Nat)(H':X (Nat×B))(M':Nat),m=x.Arcs.length-j/\j<=x.Arcs.length/\tm=fr 99 [(0,.ptr kp 0 0),(5,.sl (nx+1) 0 f.Nodes.length f.Nodes.length),(8,.i6 t),(33,.iM b7 f.Nodes),(34,.i6 f.Nodes.length),(35,.i6 t),(41,.iM bF x.Arcs),(42,.i6 x.Arcs.length),(43,.i6 j)]/\V=⟨H',M'⟩/\M+1<M'/\gt H' (M+1)=some (.bv (bX nm1) (l2.take j) 107 2 s)/\gt H' (nm1 q)=some (.row (qV nm1 (gO x.Typex []) (.vl (M+1) s 0 (l2.take j).length)) 103)/\∀k,k<M->k≠nm1 q->gt H' k=gt H k)
    (fun tm V=>∃(s:Nat)(H':X (Nat×B))(M':Nat),tm=fr 99 [(0,.ptr kp 0 0),(5,.sl (nx+1) 0 f.Nodes.length f.Nodes.length),(33,.iM b7 f.Nodes),(34,.i6 f.Nodes.length),(35,.i6 t)]/\V=⟨H',M'⟩/\M+1<M'/\gt H' (M+1)=some (.bv (bX nm1) l2 107 2 s)/\gt H' (nm1 q)=some (.row (qV nm1 (gO x.Typex []) (.vl (M+1) s 0 l2.length)) 103)/\∀k,k<M->k≠nm1 q->gt H' k=gt H k) x.Arcs.length
    ⟨0,0,_,M+2,rfl,Nat.zero_le _,rfl,rfl,zN _,by rw[bS,if_neg qq0];simp[newU,aP],by rw[bS,if_pos rfl];simp only[newU];rw[aP,if_neg qq0,Uv];rfl,fun k hk jR=>by rw[bS,if_neg (Ne.symm jR)];simp only[newU];rw[aP,if_neg qq0,aP,if_neg qq0]⟩ ?_ ?_ (Nat.le_succ_of_le (Nat.le_succ_of_le hm.le))
   ·rintro _ _ ⟨s,H',M',rfl,rfl,Xg,hv,yU,fF⟩;refine goN ?_;have CW:∀k,k<(uZ P.N L t).length->nm1 k<M:=fun k hk=>hm.ph.lt fM hk;have gtfz:∀k,k<M->k≠nm1 q->gt (fzH (M+1) (.bv (bX nm1) l2 107 2 s) 2 H') k=gt H k:=fun k hk jR=>by rw[AP,if_neg qq0,fF k hk jR];rcases hq:gt H k with _|b';rfl;simp only[zM];rw[Hc _ _ (Hh (Nat.le_succ M) (fM k b' hq).2)]
    have pT:∀a∈l2,a.to<(uZ P.N L t).length:=fun b hb=>by
     obtain⟨j,hj⟩:=List.getElem?_of_mem hb;have iB:j<x.Arcs.length:=by rw[<-Wa];exact(zG.1 hj).1
     obtain⟨b',h1,h2⟩:=Wb j _ (List.getElem?_eq_getElem iB);rw[hj]at h1;cases h1;obtain⟨h3,h4,h5⟩:=c? h2;rw[h5,z60,mG];show P.N.length+_<_;omega
    have FV:pX kp kr st nm P h nx nm1 (uZ P.N L (t+1)) P.size (P.N.length+(t+1)) (fzH (M+1) (.bv (bX nm1) l2 107 2 s) 2 H') M':=by rw[<-z61 hy];refine⟨hm.ph.upd hq (show P.N.length+t<P.N.length+(t+1) by omega) (fun j hj=>by have:j≠P.N.length+t:=hj;omega) ⟨pT,trivial,nofun,trivial⟩ ?_ fun k b hb hk=>by rw[gtfz k (fM k b hb).1 hk];exact hb,hm.nmE,fun k a b=>hm.new k a (by simpa using b),fun k a b e=>?_,by have:=hm.le;omega,by simpa using hm.len,by omega⟩;show gt _ (nm1 q)=_;rw[AP,if_neg qq0,yU];have e1:=GW (c:=bX nm1) (sz:=2) (fun _=>rfl) l2 (M+1) 2 107 s;simp only[zM,fzB,qV,gO,po,tA,vG,DL,H5,KZ];rw[e1];rfl;rw[gtfz k (by have:=hm.le;omega) fun e2=>by have:=hm.new q (Nat.le_add_right _ _) Bt;omega];exact hm.fr k a b e
    refine⟨f.Nodes.length-(t+1),_,_,by omega,⟨t+1,_,M',rfl,eW,rfl,rfl,FV,?_,by omega⟩,by have:=hm.le;show nx<=M';omega,Gh.trans (Gh.sub ?_) (Gh.fz (V:=⟨H',M'⟩) (M+1) (.bv (bX nm1) l2 107 2 s) 2 hv nofun (tO _ _ _ (YD ?_)) rfl)⟩;rw[gtfz (nx+1) hM (Ne.symm hqx)];exact uL
    ·rw[<-lQ];(repeat refine⟨rfl,?_⟩);exact trivial
    simp only[BelS,aT,and_true,true_and];exact⟨by omega,by omega,sJ _ (fun q=>vK _ q) _⟩
   rintro _ _ _ ⟨j,s,H',M',rfl,hj,rfl,rfl,Xg,hv,yU,fF⟩
   haveI:SuC M' (M'+1):=⟨rfl⟩
   haveI:SuC (M'+1) (M'+2):=⟨rfl⟩
   refine goN ?_;refine eG rfl (fun h9=>?_) (fun h9=>?_)
   ·have iB:j<x.Arcs.length:=by simpa using h9
    obtain⟨a,ha⟩:∃a,x.Arcs[j]? = some a:=⟨_,List.getElem?_eq_getElem iB⟩;obtain⟨b,hb,PK⟩:=Wb j a ha;obtain⟨ha1,ha2,rfl⟩:=c? PK;have BI:aB x.Arcs (j:Int)=some a:=by rw[aB,if_pos ⟨by omega,by omega⟩];simpa using ha
    have B5:IntKind.i64.wrap ((j:Int)+1)=((j+1:Nat):Int):=by rw[p9 qq0 qq0];rfl
    have Bi:l2.take (j+1)=l2.take j++[⟨a.Feat,P.N.length+a.To.toNat⟩]:=by rw[List.take_add_one,hb];rfl
    have Vf:(l2.take j).length=j:=by rw[List.length_take,Nat.min_eq_left qq0]
    have hxM:nx+1<M:=hM
    let A0:X (Nat×B):=(M',.row (bF a) 105)::H'
    have Cl:∀{A:X (Nat×B)},gt A (nx+1)=gt H' (nx+1)->gt A (nx+1)=some (.row ((lY P.N.length f.Nodes.length f.Nodes.length).map (nC nm1)).flatten 92):=fun e=>by rw[e,fF _ hxM (Ne.symm hqx)];exact uL
    have kO:i8 (lY P.N.length f.Nodes.length f.Nodes.length) 0 f.Nodes.length (t:Int)=some (some q):=by rw[i8,if_pos ⟨by omega,by omega⟩];simp only[zZ,Nat.zero_add];rw[S0 eW,if_pos eW]
    have Wj:i8 (lY P.N.length f.Nodes.length f.Nodes.length) 0 f.Nodes.length a.To=some (some (P.N.length+a.To.toNat)):=by rw[i8,if_pos ⟨ha1,ha2⟩];simp only[Nat.zero_add];rw[S0 qq0,if_pos qq0]
    have OY:gt A0 (nx+1)=some (.row ((lY P.N.length f.Nodes.length f.Nodes.length).map (nC nm1)).flatten 92):=Cl (by simp only[A0];rw[aP,if_neg qq0]);have Cb:live (Sg.mk A0 (M'+1)) (nx+1) 0=true:=by simp[live,OY,B.st]
    haveI:Nq M' (nm1 q):=⟨by rw[beq_eq];simp;omega⟩
    haveI:Nq (M'+1) (nm1 q):=⟨by rw[beq_eq];simp;omega⟩
    haveI:Nq (M'+1) M':=⟨by rw[beq_eq];simp⟩
    haveI:eF H' (nm1 q) (.row [.i6 x.Typex,.vl (M+1) s 0 (l2.take j).length,.nilp,.i6 0,.i6 0,.i6 0,.isl false [],.i6 0,.nilp,.i6 0,.bool false,.i6 0] 103):=⟨yU⟩
    refine goN ?_;apply cE;refine goN ?_;refine c8 BI ?_;refine goN ?_;refine dE [(0,19),(0,20),(1,19),(1,20),(2,19),(2,20),(3,19),(3,20),(4,19),(5,19),(6,19),(7,19),(8,19),(9,19),(10,19)] ?_;refine cT ?_;refine aV rfl (dZ rfl rfl (sX (V:=⟨A0,M'+1⟩) gX.h (bB iO.h) Cb kO)) (aV (u:=pt nm1 q) rfl (C3 (V:=⟨A0,M'+1⟩) (nC nm1) (po nm1) gW.h rfl (fun _=>rfl) rfl OY kO) ?_);refine cT ?_;refine aV rfl (dZ rfl rfl (sX (V:=⟨A0,M'+1⟩) gX.h (bB iO.h) Cb kO)) (aV (u:=pt nm1 q) rfl (C3 (V:=⟨A0,M'+1⟩) (nC nm1) (po nm1) gW.h rfl (fun _=>rfl) rfl OY kO) ?_);refine cT ?_;refine aV rfl (dZ rfl rfl (sX (V:=⟨A0,M'+1⟩) gX.h (bB iO.h) Cb Wj)) (aV (u:=pt nm1 (P.N.length+a.To.toNat)) rfl (C3 (V:=⟨A0,M'+1⟩) (nC nm1) (po nm1) gW.h rfl (fun _=>rfl) rfl OY Wj) ?_);refine cT ?_;refine eN ?_
    let A1:X (Nat×B):=(M'+1,.row [.i6 a.Feat,pt nm1 (P.N.length+a.To.toNat)] 107)::A0
    have uM:gt A1 (M+1)=some (.vec ((l2.take j).map (bX nm1)).flatten 107 2 s):=by simp only[A1,A0];rw[aP,if_neg qq0,aP,if_neg qq0];exact hv
    have eZ:rowOf (Sg.mk A1 (M'+2)) (M'+1)=some [.i6 a.Feat,pt nm1 (P.N.length+a.To.toNat)]:=by simp[A1,rowOf,aP]
    refine RD.act rfl (pR rfl rfl rfl rfl (DN (bX nm1) [⟨a.Feat,P.N.length+a.To.toNat⟩] DA.h DA.h CE.h rfl (fun _=>rfl) uM (FD (bX nm1) [⟨a.Feat,P.N.length+a.To.toNat⟩] (q:=[.i6 a.Feat,pt nm1 (P.N.length+a.To.toNat)]) eZ rfl rfl rfl) ⟨by rw[Vf];simp;omega,by rw[Vf];simp;omega⟩)) rfl rfl ?_
    let v00:B:=.vec (List.map (bX nm1) (l2.take j++[⟨a.Feat,P.N.length+a.To.toNat⟩])).flatten 107 2 (s+1)
    haveI:eF (ug A1 (M+1) v00) (nm1 q) (.row [.i6 x.Typex,.vl (M+1) s 0 (l2.take j).length,.nilp,.i6 0,.i6 0,.i6 0,.isl false [],.i6 0,.nilp,.i6 0,.bool false,.i6 0] 103):=⟨by rw[bS,if_neg qq0];simp only[A1,A0];rw[aP,if_neg qq0,aP,if_neg qq0];exact yU⟩
    have Cm:gt A1 (nx+1)=some (.row ((lY P.N.length f.Nodes.length f.Nodes.length).map (nC nm1)).flatten 92):=Cl (by simp only[A1,A0];rw[aP,if_neg qq0,aP,if_neg qq0]);have xF:gt (ug A1 (M+1) v00) (nx+1)=some (.row ((lY P.N.length f.Nodes.length f.Nodes.length).map (nC nm1)).flatten 92):=Cl (by rw[bS,if_neg qq0];simp only[A1,A0];rw[aP,if_neg qq0,aP,if_neg qq0]);have Vw:live (Sg.mk A1 (M'+2)) (nx+1) 0=true:=by simp[live,Cm,B.st]
    have Ca:live (Sg.mk (ug A1 (M+1) v00) (M'+2)) (nx+1) 0=true:=by simp[live,xF,B.st]
    refine cT ?_;refine qM ?_;refine bD ⟨by kernel_rfl,⟨opm,opm,opm,opm,dZ rfl rfl (sX (V:=⟨A1,M'+2⟩) gX.h (bB iO.h) Vw kO),dZ rfl rfl (sX (V:=⟨ug A1 (M+1) v00,M'+2⟩) gX.h (bB iO.h) Ca kO),C3 (V:=⟨A1,M'+2⟩) (nC nm1) (po nm1) gW.h rfl (fun _=>rfl) rfl Cm kO,C3 (V:=⟨ug A1 (M+1) v00,M'+2⟩) (nC nm1) (po nm1) gW.h rfl (fun _=>rfl) rfl xF kO,opm,opm,dZ rfl rfl (sX (V:=⟨A1,M'+2⟩) gX.h (bB iO.h) Vw kO),C3 (V:=⟨A1,M'+2⟩) (nC nm1) (po nm1) gW.h rfl (fun _=>rfl) rfl Cm kO,opm,opm,opm,trivial⟩,?_⟩;refine goN ?_;refine⟨x.Arcs.length-(j+1),_,_,by omega,⟨j+1,s+1,_,M'+2,rfl,iB,rfl,rfl,by omega,?_,?_,fun k hk jR=>?_⟩,by have:=hm.le;show nx<=M'+2;omega,Gh.sub ?_⟩;rw[bS,if_neg qq0,bS,if_pos rfl];show Option.map _ (gt A1 (M+1))=_;rw[uM,Bi];rfl;rw[bS,if_pos rfl,bS,if_neg qq0];show Option.map _ (gt A1 (nm1 q))=_;simp only[A1,A0];rw[aP,if_neg qq0,aP,if_neg qq0,yU,Bi];rfl;rw[bS,if_neg (Ne.symm jR),bS,if_neg qq0];show gt A1 k=_;simp only[A1,A0];rw[aP,if_neg qq0,aP,if_neg qq0];exact fF k hk jR
    ·rw[<-B5];(repeat refine⟨rfl,?_⟩);exact trivial
   ·refine goN ?_;have iB:j=x.Arcs.length:=by
     have:¬ (j:Int)<x.Arcs.length:=by simpa using h9
     omega
    subst iB;have e:l2.take x.Arcs.length=l2:=by rw[<-Wa,List.take_length]
    rw[e]at hv yU;exact⟨_,_,⟨s,H',M',rfl,rfl,Xg,hv,yU,fF⟩,by have:=hm.le;show nx<=M';omega,Gh.sub (by((repeat refine⟨rfl,?_⟩);exact trivial))⟩
  ·refine goN ?_;have eW:t=f.Nodes.length:=by
    have:¬ (t:Int)<f.Nodes.length:=by simpa using h7
    omega
   subst eW;refine⟨_,_,⟨H,M,rfl,rfl,?_,uL,hM⟩,hm.le,Gh.sub (by((repeat refine⟨rfl,?_⟩);exact trivial))⟩;have e:uZ P.N L f.Nodes.length=P.N++L:=by rw[<-mG];simp[uZ]
   rw[e,<-mG]at hm;exact hm
 rintro _ _ _ ⟨t,nm1,H,M,rfl,ht,rfl,rfl,hm,uL,TV,hM⟩;refine WPU.wf fun fM _=>?_
 haveI:SuC M (M+1):=⟨rfl⟩
 haveI:SuC (M+1) (M+2):=⟨rfl⟩
 refine goN ?_;refine eG rfl (fun h7=>?_) (fun h7=>?_)
 ·have eW:t<f.Nodes.length:=by simpa using h7
  obtain⟨x,hx⟩:∃a,f.Nodes[t]? = some a:=⟨_,List.getElem?_eq_getElem eW⟩;obtain⟨y,hy,nJ⟩:=bk t x hx;have kP:aB f.Nodes (t:Int)=some x:=by rw[aB,if_pos ⟨by omega,by omega⟩];simpa using hx
  have lQ:IntKind.i64.wrap ((t:Int)+1)=((t+1:Nat):Int):=by rw[p9 qq0 qq0];rfl
  haveI:Nq (M+1) (nx+1):=⟨by rw[beq_eq];simp;omega⟩
  haveI:Nq M (nx+1):=⟨by rw[beq_eq];simp;omega⟩
  refine goN ?_;apply cE;refine goN ?_;refine c8 kP ?_;refine goN ?_
  let N1:X PN:=P.N++(L.take t).map KI
  have CW:N1.length=P.N.length+t:=by simp[N1];omega
  let jP:Nat->Nat:=u9 nm1 N1.length (M+1)
  let R0:B:=.row [.i6 x.Typex,.nils,.nilp,.i6 0,.i6 0,.i6 0,.nils,.i6 0,.nilp,.i6 0,.bool false,.i6 0] 103
  let R2:B:=.row (qV jP (gO x.Typex []) .nils) 103
  let H2:X (Nat×B):=(M+1,R0)::(M,.row (b7 x) 79)::H
  have hm1:=hm.more fM (.row (b7 x) 79);have mD:oI ⟨(M,.row (b7 x) 79)::H,M+1⟩:=fun k b hb=>by have hb:gt ((M,B.row (b7 x) 79)::H) k=some b:=hb;rw[aP]at hb;by_cases e:M=k;rw[if_pos e]at hb;cases hb;exact⟨by show k<M+1;omega,vK _ x⟩;rw[if_neg e]at hb;obtain⟨h1,h2⟩:=fM k b hb;exact⟨Nat.lt_succ_of_lt h1,Hh (Nat.le_succ _) h2⟩
  have uK:=hm1.add mD (by rw[CW];omega) x.Typex;have bf:(lY P.N.length f.Nodes.length t).map (nC nm1)=(lY P.N.length f.Nodes.length t).map (nC jP):=(qyx (nm':=jP) (nm:=nm1) (n:=N1.length) vF qq0).symm;have xF:gt H2 (nx+1)=some (.row ((lY P.N.length f.Nodes.length t).map (nC jP)).flatten 92):=by simp only[H2];rw[aP,if_neg qq0,aP,if_neg qq0,uL,bf]
  have Cc:live (Sg.mk H2 (M+2)) (nx+1) 0=true:=by simp[live,xF,B.st]
  have kO:i8 (lY P.N.length f.Nodes.length t) 0 f.Nodes.length (t:Int)=some none:=by rw[i8,if_pos ⟨by omega,by omega⟩];simp only[zZ,Nat.zero_add];rw[S0 eW,if_neg (Nat.lt_irrefl _)]
  refine RS.w rfl (dZ rfl rfl (sX (V:=⟨H2,M+2⟩) gX.h (bB iO.h) Cc kO)) ?_;have BL:([.ptr (M+1) 0 0]:X U)=nC jP (some (P.N.length+t)):=by simp only[nC,po,pt,jP,<-CW,Y7]
  refine RS.wn rfl (XT (V:=⟨H2,M+2⟩) (y:=some (P.N.length+t)) (nC jP) (bB iO.h) (fun _=>rfl) rfl rfl rfl rfl BL xF kO rfl) ?_;refine goN ?_;have hug:∀b,ug H2 (M+1) b=(M+1,b)::(M,.row (b7 x) 79)::H:=fun b=>by simp[H2,ug,beq_eq]
  have hy2:KI y=gO x.Typex []:=by obtain⟨_,nJ⟩:=c6 nJ;obtain⟨l2,_,nJ⟩:=aI nJ;obtain rfl:=sI nJ;rfl
  have hH3:pX kp kr st nm P h nx jP (P.N++(L.take (t+1)).map KI) P.size P.N.length (ug ((M+1,R2)::(M,.row (b7 x) 79)::H) (nx+1) (.row ((lY P.N.length f.Nodes.length (t+1)).map (nC jP)).flatten 92)) (M+2):=by
   have e:P.N++(L.take (t+1)).map KI=N1++[gO x.Typex []]:=by rw[List.take_add_one,hy];simp[N1,hy2]
   rw[e];refine uK.oth (Nat.le_succ _) (q:=((lY P.N.length f.Nodes.length t).map (nC jP)).flatten) ?_ _;rw[aP,if_neg qq0,aP,if_neg qq0,uL,bf]
  refine⟨f.Nodes.length-(t+1),_,_,by omega,⟨t+1,jP,_,M+2,rfl,eW,rfl,rfl,hH3,?_,?_,by omega⟩,hH3.le,Gh.trans (Gh.sub (l':=[(0,.ptr kp 0 0),(3,.ptr nx 0 0),(5,.sl (nx+1) 0 f.Nodes.length f.Nodes.length),(17,.iM b7 f.Nodes),(18,.i6 f.Nodes.length),(19,.i6 ((t+1:Nat):Int))]) ?_) ?_⟩;rw[bS,if_pos rfl,aP,if_neg qq0,aP,if_neg qq0,uL];rfl;rw[bS,if_neg qq0,aP,if_neg qq0,aP,if_neg qq0];exact TV
  ·rw[<-lQ];(repeat refine⟨rfl,?_⟩);exact trivial
  have e3:(lY P.N.length f.Nodes.length t).set ((t:Int)).toNat (some (P.N.length+t))=lY P.N.length f.Nodes.length (t+1):=z5y eW;rw[e3];have Vc:∀(b c:B),ug ((M+1,b)::(M,.row (b7 x) 79)::H) (nx+1) c=(M+1,b)::(M,.row (b7 x) 79)::ug H (nx+1) c:=fun b c=>by simp only[ug,beq_eq];rw[decide_eq_false qq0,decide_eq_false qq0];rfl
  have hug3:∀(T:X (Nat×B))(b:B),ug ((M+1,R0)::T) (M+1) b=(M+1,b)::T:=fun T b=>by simp[ug,beq_eq]
  have hgM:∀T:X (Nat×B),gt ((M+1,R0)::T) (M+1)=some R0:=fun T=>by simp[aP]
  refine(Gh.eqv rfl (congrArg (fun T=>(⟨T,M+2⟩:Sg)) (Vc R0 _))).trans ((Gh.rowW (V:=⟨_,M+2⟩) (K:=M+1) (hgM _) (q':=qV jP (gO x.Typex []) .nils) rfl ?_).trans (Gh.eqv rfl ?_));exact .cons (.refl _) (.cons (.refl _) (.cons (.refl _) (.cons (.refl _) (.cons (.refl _) (.cons (.refl _) (.cons (.nil false) (oW.refl _)))))));exact congrArg (fun T=>(⟨T,M+2⟩:Sg)) ((hug3 _ _).trans (Vc R2 _).symm)
 ·refine goN ?_;have eW:t=f.Nodes.length:=by
   have:¬ (t:Int)<f.Nodes.length:=by simpa using h7
   omega
  subst eW;refine⟨_,_,⟨nm1,H,M,rfl,rfl,?_,uL,TV,hM⟩,hm.le,Gh.sub (by((repeat refine⟨rfl,?_⟩);exact trivial))⟩;have e:P.N++(L.take f.Nodes.length).map KI=uZ P.N L 0:=by rw[<-mG,List.take_length];simp[uZ]
  rw[<-e];exact hm
end
end Go.Proofs
namespace Go.Proofs
open Go Go.Rx Go.Vx Tryz
set_option maxRecDepth 20000
set_option maxHeartbeats 4000000
def O?(n:Nat)(t:Int):Y GFS:=a8 (L6 n 0 [0,1]) fun a=>a8 (L6 n t []) fun b=>Hj n [a,b]
def pEx(n:Nat):Y DC :=
 a8 (vq n) fun H=>a8 (O? n 1) fun f0=>a8 (yF (uB H) f0) fun r0=>aF (r0.1=0) (a8 (O? n 0) fun f1=>a8 (yF r0.2 f1) fun r1=>aF (r1.1=1) (a8 (O? n 2) fun f2=>a8 (yF r1.2 f2) fun r2=>aF (r2.1=2) (a8 (vB n r2.2 0 1) fun u=>aF (u.1.1=3/\u.1.2=true) (a8 (AK n u.2 3) fun g=>aF (g.2=true) (a8 (vB n u.2 0 2) fun v=>aF (v.1.1=0/\v.1.2=false) (a8 (NU n g.1 f0) fun e=>aF (e=true) (a8 (AJ n v.2 1 2) fun t1=>aF (t1.1=true) (a8 (AJ n t1.2 0 2) fun t2=>aF (t2.1=false) (a8 (vB n t2.2 1 2) fun w=>aF (w.1.1=4/\w.1.2=true) (a8 (AK n w.2 5) fun x=>aF (x.2=false/\w.2.size>=2/\w.2.size<=10) (some true)))))))))))
theorem P?(m:Nat):pEx (m+200)=some true:=qq1
theorem ZR{n:Nat}(h:200<=n):pEx n=some true:=by
 have:=P? (n-200)
 rwa [Nat.sub_add_cancel h]at this
end Go.Proofs
namespace Go.Proofs
open Go Go.Rx Go.Vx Tryz
set_option maxRecDepth 20000
set_option maxHeartbeats 4000000
set_option synthInstance.maxSize 4000
set_option synthInstance.maxHeartbeats 200000
variable{P:PP}
variable{f:GFS}
theorem oa{r:Int×PP}(h:yF P f=some r)(w:Wf P.N)(hr:∀k∈P.roots,k<P.N.length):Wf r.2.N/\(∀k∈r.2.roots,k<r.2.N.length)/\P.N.length<=r.2.N.length:=by
 obtain⟨⟨FR,_,_⟩,h⟩:=c6 h;obtain⟨L,hL,h⟩:=aI h;obtain rfl:=sI h;obtain⟨mG,bk⟩:=Pf hL;have aQ:(P.N++L).length=P.N.length+f.Nodes.length:=by simp[mG]
 refine⟨fun x hx=>?_,fun k hk=>?_,by show _<=(P.N++L).length;omega⟩;show kE (P.N++L).length x;rw[aQ];rcases yD.1 hx with hx |hx;exact(w x hx).le (Nat.le_add_right _ _);obtain⟨i,hi⟩:=List.getElem?_of_mem hx;have mP:i<f.Nodes.length:=by rw[<-mG];exact oB hi
 obtain⟨y,h1,h2⟩:=bk i _ (List.getElem?_eq_getElem mP);rw[hi]at h1;cases h1;obtain⟨_,h2⟩:=c6 h2;obtain⟨l,h3,h2⟩:=aI h2;obtain rfl:=sI h2;obtain⟨h4,h5⟩:=Pf h3;refine⟨fun a ha=>?_,trivial,nofun,trivial⟩;obtain⟨j,hj⟩:=List.getElem?_of_mem ha;have hj:l[j]? = some a:=hj;have iB:j<l.length:=(zG.1 hj).1;rw[h4]at iB;obtain⟨b,h6,h7⟩:=h5 j _ (List.getElem?_eq_getElem iB);rw[hj]at h6;cases h6;obtain⟨h8,h9,gD⟩:=c? h7;rw[gD];show P.N.length+_<_;omega;show k<(P.N++L).length;rcases yD.1 hk with hk |hk;have:=hr k hk;omega;simp at hk;subst hk;omega
variable{a:Int}
variable{b:Int}
theorem z1g{n:Nat}{r:(Int×DC)×PP}(h:vB n P a b=some r)(w:Wf P.N)(hr:∀k∈P.roots,k<P.N.length):Wf r.2.N/\(∀k∈r.2.roots,k<r.2.N.length)/\P.N.length<=r.2.N.length:=by
 obtain⟨r1,h1,h⟩:=aI h;obtain⟨s1,s2,s3,s4,s5,s6⟩:=Ov h1 w;cases hq:r1.1 with
 |none=>rw[hq]at h;obtain rfl:=sI h;exact⟨s2,fun k hk=>by rw[s4]at hk;rw[s1.len];exact hr k hk,by rw[s1.len];exact zF _⟩
 |some q=>rw[hq]at h;obtain⟨c,hc,h⟩:=aI h;obtain⟨_,h⟩:=c6 h;obtain rfl:=sI h;obtain⟨e1,e2,e3⟩:=qvy hc s2;have hl:r1.2.N.length<=c.2.1.length:=e1.len;refine⟨e2,fun k hk=>?_,by show P.N.length<=c.2.1.length;rw[<-s1.len];exact hl⟩;show k<c.2.1.length;rcases yD.1 hk with hk |hk;rw[s4]at hk;have:=hr k hk;rw[<-s1.len]at this;omega;simp at hk;subst hk;exact e3
theorem z5v{n:Nat}{r:DC×PP}(h:AJ n P a b=some r)(w:Wf P.N)(hr:∀k∈P.roots,k<P.N.length):Wf r.2.N/\(∀k∈r.2.roots,k<r.2.N.length)/\r.2.N.length=P.N.length:=by obtain⟨r1,h1,h⟩:=aI h;obtain rfl:=sI h;obtain⟨s1,s2,s3,s4,s5,s6⟩:=Ov h1 w;exact⟨s2,fun k hk=>by rw[s4]at hk;rw[s1.len];exact hr k hk,s1.len⟩
def NP(b:B):Prop:=(∀l,b≠.row l 83)/\(∀l,b≠.row l 103)/\∀l s t,b≠.vec l 92 s t
structure PL(n0:Nat)(h0:X (Nat×B))(kp:Nat)(P:PP)(h:X (Nat×B))(nx:Nat):Prop where
 ex:∃kr st nm,PH kp kr st nm P h/\n0<=kr/\(∀i,i<P.N.length->n0<=nm i)/\kr<nx/\kp<nx/\∀i,i<P.N.length->nm i<nx
 kp:n0<=kp
 lo:∀k,k<n0->gt h k=gt h0 k
 le:n0<=nx
structure PS(n0:Nat)(h0:X (Nat×B))(kp:Nat)(P:PP)(h:X (Nat×B))(nx:Nat)(h':X (Nat×B))(nx':Nat):Prop where
 pl:PL n0 h0 kp P h' nx'
 le:nx<=nx'
 np:∀k b,k<nx->gt h k=some b->NP b->gt h' k=some b
section
variable{n0 kp:Nat}{h0:X (Nat×B)}{P:PP}{h:X (Nat×B)}{nx:Nat}
theorem PL.more(p:PL n0 h0 kp P h nx)(b:B):PL n0 h0 kp P ((nx,b)::h) (nx+1):=by obtain⟨kr,st,nm,h1,h2,h3,h4,h5,h6⟩:=p.ex;exact⟨⟨kr,st,nm,⟨by rw[kB h5];exact h1.pool,by rw[kB h4];exact h1.roots,fun i x hx=>by rw[kB (h6 i (zG.1 hx).1)];exact h1.node i x hx,h1.inj,h1.wf,h1.rt⟩,h2,h3,by omega,by omega,fun i hi=>by have:=h6 i hi;omega⟩,p.kp,fun k hk=>by rw[kB (Nat.lt_of_lt_of_le hk p.le)];exact p.lo k hk,Nat.le_succ_of_le p.le⟩
theorem PL.up(p:PL n0 h0 kp P h nx){nx':Nat}(hn:nx<=nx'):PL n0 h0 kp P h nx':=by obtain⟨kr,st,nm,h1,h2,h3,h4,h5,h6⟩:=p.ex;exact⟨⟨kr,st,nm,h1,h2,h3,by omega,by omega,fun i hi=>by have:=h6 i hi;omega⟩,p.kp,p.lo,Nat.le_trans p.le hn⟩
theorem PL.oth(p:PL n0 h0 kp P h nx){h':X (Nat×B)}{K:Nat}(hK:n0<=K){b:B}(hb:gt h K=some b)(hn:NP b)(hs:∀k,k≠K->gt h' k=gt h k):PL n0 h0 kp P h' nx:=by
 obtain⟨kr,st,nm,h1,h2,h3,h4⟩:=p.ex;have key:∀k c,gt h k=some c->¬ NP c->gt h' k=some c:=fun k c hc IG=>by rw[hs k fun e=>?_];exact hc;rw[e,hb]at hc;cases hc;exact IG hn
 refine⟨⟨kr,st,nm,⟨key _ _ h1.pool fun hn=>hn.1 _ rfl,key _ _ h1.roots fun hn=>hn.2.2 _ _ _ rfl,fun i x hx=>key _ _ (h1.node i x hx) fun hn=>hn.2.1 _ rfl,h1.inj,h1.wf,h1.rt⟩,h2,h3,h4⟩,p.kp,fun k hk=>by rw[hs k qq0];exact p.lo k hk,p.le⟩
theorem PL.wf(p:PL n0 h0 kp P h nx):Wf P.N:=by obtain⟨_,_,_,h1,_⟩:=p.ex;exact h1.wf
theorem PL.rt(p:PL n0 h0 kp P h nx):∀k∈P.roots,k<P.N.length:=by obtain⟨_,_,_,h1,_⟩:=p.ex;exact h1.rt
theorem qz1{kr st:Nat}{nm:Nat->Nat}{bJ:Nat}{P1:PP}(p:PH kp kr st nm P h)(tC:kp<nx)(CQ:kr<nx)(CN:∀i,i<P.N.length->nm i<nx)(W8:∀x∈P1.N,kE P1.N.length x)(rt1:∀r∈P1.roots,r<P1.N.length):PH kp kr bJ (jF nm P.N.length nx) P1 (cH kp kr bJ (jF nm P.N.length nx) P1 h):=by
 have hc:∀i,(i<P.N.length/\jF nm P.N.length nx i=nm i)\/(P.N.length<=i/\jF nm P.N.length nx i=nx+(i-P.N.length)):=fun i=>by rcases Nat.lt_or_ge i P.N.length with h1 |h1;exact .inl ⟨h1,yL i h1⟩;exact .inr ⟨h1,by rw[jF,if_neg qq0]⟩
 refine tw (Ne.symm p.krp) (fun i _=>?_) (fun i _=>?_) (fun i j _ _ e=>?_) W8 rt1;rcases hc i with⟨h1,h2⟩|⟨h1,h2⟩;rw[h2];exact p.kpn h1;omega;rcases hc i with⟨h1,h2⟩|⟨h1,h2⟩;rw[h2];exact p.krn h1;omega;rcases hc i with⟨h1,h2⟩|⟨h1,h2⟩<;>rcases hc j with⟨h3,h4⟩|⟨h3,h4⟩;rw[h2,h4]at e;exact p.inj i j h1 h3 e;have:=CN i h1;omega;have:=CN j h3;omega;omega
theorem SQ{kr st:Nat}{nm:Nat->Nat}(p:PH kp kr st nm P h)(q1:kp<nx)(q2:kr<nx)(q3:∀i,i<P.N.length->nm i<nx)(lo:∀k,k<n0->gt h k=gt h0 k)(le:n0<=nx)(tC:n0<=kp)(CQ:n0<=kr)(IF:∀i,i<P.N.length->n0<=nm i){bJ:Nat}{P1:PP}(W8:Wf P1.N)(rt1:∀r∈P1.roots,r<P1.N.length)(N:Nat)(hN:nx+(P1.N.length-P.N.length)<=N):PS n0 h0 kp P1 h nx (cH kp kr bJ (jF nm P.N.length nx) P1 h) N:=by
 have eT:∀k,k<nx->k≠kp->k≠kr->(∀i,i<P.N.length->nm i≠k)->gt (cH kp kr bJ (jF nm P.N.length nx) P1 h) k=gt h k:=fun k k0 k1 k2 k3=>ze k1 k2 fun i hi e=>by rcases Nat.lt_or_ge i P.N.length with h5 |h5;rw[yL i h5]at e;exact k3 i h5 e;rw[jF,if_neg qq0]at e;omega
 refine⟨⟨⟨kr,bJ,_,qz1 p q1 q2 q3 W8 rt1,CQ,fun i hi=>?_,by omega,by omega,fun i hi=>?_⟩,tC,fun k hk=>?_,by omega⟩,by omega,fun k b hk hb hn=>?_⟩;rcases Nat.lt_or_ge i P.N.length with h5 |h5;rw[yL i h5];exact IF i h5;rw[jF,if_neg qq0];omega;rcases Nat.lt_or_ge i P.N.length with h5 |h5;rw[yL i h5];have:=q3 i h5;omega;rw[jF,if_neg qq0];omega;rw[eT k qq0 qq0 qq0 fun i hi e=>by have:=IF i hi;omega];exact lo k hk;rw[eT k hk (fun e=>?_) (fun e=>?_) fun i hi e=>?_];exact hb;rw[e,p.pool]at hb;cases hb;exact hn.1 _ rfl;rw[e,p.roots]at hb;cases hb;exact hn.2.2 _ _ _ rfl;rw[<-e,p.node i _ (List.getElem?_eq_getElem hi)]at hb;cases hb;exact hn.2.1 _ rfl
variable{k:Int}
variable{P':PP}
theorem z1t(p:PL n0 h0 kp P h nx)(O:yF P f=some (k,P')):∃h' nx',aW prog 18 [.ptr kp 0 0,.agg (lM f)] ⟨h,nx⟩ (fun u V'=>u=.i6 k/\V'=⟨h',nx'⟩)/\PS n0 h0 kp P' h nx h' nx':=by obtain⟨kr,st,nm,h1,h2,h3,h4,h5,h6⟩:=p.ex;obtain⟨w1,w2,w3⟩:=oa O p.wf p.rt;exact⟨_,_,ZJ h1 O,SQ h1 h5 h4 h6 p.lo p.le p.kp h2 h3 w1 w2 _ (zF _)⟩
theorem za7(p:PL n0 h0 kp P h nx)(O:yF P f=some (k,P')):aW prog 18 [.ptr kp 0 0,.agg (lM f)] ⟨h,nx⟩ (fun u V'=>∃h' nx',u=.i6 k/\V'=⟨h',nx'⟩/\PS n0 h0 kp P' h nx h' nx'):=by obtain⟨h',nx',g1,g2⟩:=z1t p O;exact g1.mono fun u V' ⟨e1,e2⟩=>⟨h',nx',e1,e2,g2⟩
theorem I'(p:PL n0 h0 kp P h nx){r:Int×PP}(O:yF P f=some r):aW prog 18 [.ptr kp 0 0,.agg (lM f)] ⟨h,nx⟩ (fun u V'=>∃h' nx',u=.i6 r.1/\V'=⟨h',nx'⟩/\PS n0 h0 kp r.2 h nx h' nx'):=za7 p O
theorem xz(p:PL n0 h0 kp P h nx)(n:Nat){r:(Int×DC)×PP}(O:vB n P a b=some r):aW prog 21 [.ptr kp 0 0,.i6 a,.i6 b] ⟨h,nx⟩ (fun u V'=>∃h' nx',u=.tup [.i6 r.1.1,.bool r.1.2]/\V'=⟨h',nx'⟩/\PS n0 h0 kp r.2 h nx h' nx'):=by obtain⟨kr,st,nm,h1,h2,h3,h4,h5,h6⟩:=p.ex;obtain⟨w1,w2,w3⟩:=z1g O p.wf p.rt;exact(z6o h1 n O).mono fun u V' ⟨bJ,e1,e2⟩=>⟨_,_,e1,e2,SQ h1 h5 h4 h6 p.lo p.le p.kp h2 h3 w1 w2 _ (zF _)⟩
theorem ru(p:PL n0 h0 kp P h nx)(n:Nat){r:DC×PP}(O:AJ n P a b=some r):∃h',aW prog 22 [.ptr kp 0 0,.i6 a,.i6 b] ⟨h,nx⟩ (fun u V'=>u=.bool r.1/\V'=⟨h',nx⟩)/\PS n0 h0 kp r.2 h nx h' nx:=by obtain⟨kr,st,nm,h1,h2,h3,h4,h5,h6⟩:=p.ex;obtain⟨w1,w2,w3⟩:=z5v O p.wf p.rt;have eT:∀k,k≠kp->k≠kr->(∀i,i<P.N.length->nm i≠k)->gt (cH kp kr st nm r.2 h) k=gt h k:=fun k k1 k2 k3=>ze k1 k2 fun i hi=>k3 i qq0;refine⟨_,zar h1 n O,⟨⟨kr,st,nm,qqd h1 w3 w1 w2,h2,fun i hi=>h3 i qq0,h4,h5,fun i hi=>h6 i qq0⟩,p.kp,fun k hk=>?_,p.le⟩,zF _,fun k b _ hb hn=>?_⟩;rw[eT k (by have:=p.kp;omega) qq0 fun i hi e=>by have:=h3 i hi;omega];exact p.lo k hk;rw[eT k (fun e=>?_) (fun e=>?_) fun i hi e=>?_];exact hb;rw[e,h1.pool]at hb;cases hb;exact hn.1 _ rfl;rw[e,h1.roots]at hb;cases hb;exact hn.2.2 _ _ _ rfl;rw[<-e,h1.node i _ (List.getElem?_eq_getElem hi)]at hb;cases hb;exact hn.2.1 _ rfl
theorem na(p:PL n0 h0 kp P h nx)(n:Nat){r:GFS×DC}(O:AK n P k=some r):aW prog 19 [.ptr kp 0 0,.i6 k] ⟨h,nx⟩ (fun u V'=>u=.tup [.agg (lM r.1),.bool r.2]/\V'=⟨h,nx⟩):=by obtain⟨kr,st,nm,h1,_⟩:=p.ex;exact ng h1 n O
theorem z3c(p:PL n0 h0 kp P h nx)(n:Nat){ok:DC}(O:vB n P a b=some ((k,ok),P')):aW prog 21 [.ptr kp 0 0,.i6 a,.i6 b] ⟨h,nx⟩ (fun u V'=>∃h' nx',u=.tup [.i6 k,.bool ok]/\V'=⟨h',nx'⟩/\PS n0 h0 kp P' h nx h' nx'):=xz p n O
theorem z64(p:PL n0 h0 kp P h nx)(n:Nat){ok:DC}(O:AK n P k=some (f,ok)):aW prog 19 [.ptr kp 0 0,.i6 k] ⟨h,nx⟩ (fun u V'=>u=.tup [.agg (lM f),.bool ok]/\V'=⟨h,nx⟩):=na p n O
theorem xj(p:PL n0 h0 kp P h nx):aW prog 16 [.ptr kp 0 0] ⟨h,nx⟩ (fun u V'=>u=.i6 P.size/\V'=⟨h,nx⟩):=by obtain⟨kr,st,nm,h1,_⟩:=p.ex;exact zai h1
theorem ad(H:cZ)(hn:n0<=nx)(hl:∀k,k<n0->gt h k=gt h0 k):PL n0 h0 (nx+1) (uB H) (G5 H nx h) (nx+3):=
 ⟨⟨nx+2,0,id,z9s H nx h id,by omega,fun i hi=>by simp[uB]at hi,by omega,by omega,fun i hi=>by simp[uB]at hi⟩,by omega,fun k hk=>by rw[G5,aP,if_neg qq0,aP,if_neg qq0,aP,if_neg qq0];exact hl k hk,by omega⟩
end
structure ExR(n:Nat)(H:cZ)(a0 b0 a1 b1 a2 b2:aO)(f0 f1 f2:GFS)(r0 r1 r2:Int×PP)(u v w:(Int×DC)×PP)(g x:GFS×DC)(t1 t2:DC×PP):Prop where
 hH:vq n=some H
 ha0:L6 n 0 [0,1]=some a0
 hb0:L6 n 1 []=some b0
 hf0:Hj n [a0,b0]=some f0
 hr0:yF (uB H) f0=some r0
 hv0:r0.1=0
 ha1:L6 n 0 [0,1]=some a1
 hb1:L6 n 0 []=some b1
 hf1:Hj n [a1,b1]=some f1
 hr1:yF r0.2 f1=some r1
 hv1:r1.1=1
 ha2:L6 n 0 [0,1]=some a2
 hb2:L6 n 2 []=some b2
 hf2:Hj n [a2,b2]=some f2
 hr2:yF r1.2 f2=some r2
 hv2:r2.1=2
 hu:vB n r2.2 0 1=some u
 hvu:u.1.1=3/\u.1.2=true
 hg:AK n u.2 3=some g
 hvg:g.2=true
 hv:vB n u.2 0 2=some v
 hvv:v.1.1=0/\v.1.2=false
 he:NU n g.1 f0=some true
 ht1:AJ n v.2 1 2=some t1
 hvt1:t1.1=true
 ht2:AJ n t1.2 0 2=some t2
 hvt2:t2.1=false
 hw:vB n t2.2 1 2=some w
 hvw:w.1.1=4/\w.1.2=true
 hx:AK n w.2 5=some x
 hvx:x.2=false/\w.2.size>=2/\w.2.size<=10
theorem exR{n:Nat}(hn:200<=n):∃H a0 b0 a1 b1 a2 b2 f0 f1 f2 r0 r1 r2 u v w g x t1 t2,ExR n H a0 b0 a1 b1 a2 b2 f0 f1 f2 r0 r1 r2 u v w g x t1 t2:=by have hE:=ZR hn;obtain⟨H,hH,hE⟩:=aI hE;obtain⟨f0,hf0,hE⟩:=aI hE;obtain⟨r0,hr0,hE⟩:=aI hE;obtain⟨v0,hE⟩:=c6 hE;obtain⟨f1,hf1,hE⟩:=aI hE;obtain⟨r1,hr1,hE⟩:=aI hE;obtain⟨v1,hE⟩:=c6 hE;obtain⟨f2,hf2,hE⟩:=aI hE;obtain⟨r2,hr2,hE⟩:=aI hE;obtain⟨v2,hE⟩:=c6 hE;obtain⟨u,hu,hE⟩:=aI hE;obtain⟨vu,hE⟩:=c6 hE;obtain⟨g,hg,hE⟩:=aI hE;obtain⟨vg,hE⟩:=c6 hE;obtain⟨v,hv,hE⟩:=aI hE;obtain⟨vv,hE⟩:=c6 hE;obtain⟨e,he,hE⟩:=aI hE;obtain⟨ve,hE⟩:=c6 hE;obtain⟨t1,ht1,hE⟩:=aI hE;obtain⟨vt1,hE⟩:=c6 hE;obtain⟨t2,ht2,hE⟩:=aI hE;obtain⟨vt2,hE⟩:=c6 hE;obtain⟨w,hw,hE⟩:=aI hE;obtain⟨vw,hE⟩:=c6 hE;obtain⟨x,hx,hE⟩:=aI hE;obtain⟨vx,hE⟩:=c6 hE;obtain⟨a0,ha0,hf0⟩:=aI hf0;obtain⟨b0,hb0,hf0⟩:=aI hf0;obtain⟨a1,ha1,hf1⟩:=aI hf1;obtain⟨b1,hb1,hf1⟩:=aI hf1;obtain⟨a2,ha2,hf2⟩:=aI hf2;obtain⟨b2,hb2,hf2⟩:=aI hf2;exact⟨H,a0,b0,a1,b1,a2,b2,f0,f1,f2,r0,r1,r2,u,v,w,g,x,t1,t2,hH,ha0,hb0,hf0,hr0,v0,ha1,hb1,hf1,hr1,v1,ha2,hb2,hf2,hr2,v2,hu,vu,hg,vg,hv,vv,by rw[ve]at he;exact he,ht1,vt1,ht2,vt2,hw,vw,hx,vx⟩
theorem xf{m:Nat}:∀{a b:X U},aG m a->aG m b->aG m (a++b):=fun{a b} ha hb=>by
 rw[vI];intro u hu;rcases yD.1 hu with hu |hu;exact(vI _ _).1 ha u hu;exact(vI _ _).1 hb u hu
theorem PL.live{n0 kp:Nat}{h0:X (Nat×B)}{P:PP}{h:X (Nat×B)}{nx:Nat}(p:PL n0 h0 kp P h nx):Go.Vx.live ⟨h,nx⟩ kp 0=true:=by obtain⟨kr,st,nm,q,_⟩:=p.ex;simp[Go.Vx.live,q.pool];rfl
theorem Zc{n:Nat}(hn:200<=n)(h0:X (Nat×B))(HH:Nat):aW prog 11 [] ⟨h0,HH⟩ (fun u V'=>u=.bool true/\V'=⟨h0,HH⟩):=by
 refine aW.wf fun uF _=>?_;obtain⟨H,a0,b0,a1,b1,a2,b2,f0,f1,f2,r0,r1,r2,u,v,w,g,x,t1,t2,E⟩:=exR hn;refine bg0 131 Dv ?_;refine goN ?_;refine aK rfl (pC (qoi n H E.hH) _) Yv (o8 rfl (iL rfl Du rfl).2 (z7x H h0 HH) rfl rfl ?_);rintro _ _ ⟨rfl,rfl⟩;have p0:PL HH h0 (HH+1) (uB H) (G5 H HH h0) (HH+3):=ad H (zF _) fun _ _=>rfl;refine goN ?_;refine RS.w rfl (ZT rfl rfl rfl (Tr dt.h p0.live rfl)) ?_;refine goN ?_;refine o8 rfl (iL rfl IZ rfl).2 (xj p0) rfl rfl ?_;rintro _ _ ⟨rfl,rfl⟩;refine goN ?_;refine D8 rfl (fN.bsf (cs:=[.i6 0,.i6 1]) (rs:=List.map (cI .i64) [0,1]) tb_ok rfl cU.h iF.h rfl rfl rfl rfl rfl rfl rfl rfl rfl rfl rfl (by simp[aG,aT])) ?_;rintro _ _ ⟨rfl,rfl⟩;refine goN ?_;refine aK rfl (pC (SC n 0 [0,1] a0 E.ha0) _) uR ?_;refine goN ?_;refine aK rfl (G2 (args':=[.i6 1,.isl false []]) (.cons (.refl _) (.cons (.nil false) .nil)) (pC (SC n 1 [] b0 E.hb0)) _) uR ?_;refine goN ?_;refine D8 rfl (fN.bsf (cs:=b7 a0++b7 b0) (rs:=List.map b7 [a0,b0]) tb_ok rfl iH.h mX.h rfl rfl rfl rfl rfl rfl rfl rfl rfl rfl rfl (xf (vK 0 _) (vK 0 _))) ?_;rintro _ _ ⟨rfl,rfl⟩;refine goN ?_;refine aK rfl (pC (vd n [a0,b0] f0 E.hf0) _) IT ?_;refine goN ?_;refine o8 rfl (iL rfl IV rfl).2 (I' (p0.up (nx':=HH+5) qq0) E.hr0) rfl rfl ?_;rintro _ _ ⟨h1,n1,rfl,rfl,p1⟩;rw[E.hv0];refine goN ?_;refine D8 rfl (fN.bsf (cs:=[.i6 0,.i6 1]) (rs:=List.map (cI .i64) [0,1]) tb_ok rfl cU.h iF.h rfl rfl rfl rfl rfl rfl rfl rfl rfl rfl rfl (by simp[aG,aT])) ?_;rintro _ _ ⟨rfl,rfl⟩;refine goN ?_;refine aK rfl (pC (SC n 0 [0,1] a1 E.ha1) _) uR ?_;refine goN ?_;refine aK rfl (G2 (args':=[.i6 0,.isl false []]) (.cons (.refl _) (.cons (.nil false) .nil)) (pC (SC n 0 [] b1 E.hb1)) _) uR ?_;refine goN ?_;refine D8 rfl (fN.bsf (cs:=b7 a1++b7 b1) (rs:=List.map b7 [a1,b1]) tb_ok rfl iH.h mX.h rfl rfl rfl rfl rfl rfl rfl rfl rfl rfl rfl (xf (vK 0 _) (vK 0 _))) ?_;rintro _ _ ⟨rfl,rfl⟩;refine goN ?_;refine aK rfl (pC (vd n [a1,b1] f1 E.hf1) _) IT ?_;refine goN ?_;refine o8 rfl (iL rfl IV rfl).2 (I' (p1.pl.up (nx':=n1+2) qq0) E.hr1) rfl rfl ?_;rintro _ _ ⟨h2,n2,rfl,rfl,p2⟩;rw[E.hv1];refine goN ?_;refine D8 rfl (fN.bsf (cs:=[.i6 0,.i6 1]) (rs:=List.map (cI .i64) [0,1]) tb_ok rfl cU.h iF.h rfl rfl rfl rfl rfl rfl rfl rfl rfl rfl rfl (by simp[aG,aT])) ?_;rintro _ _ ⟨rfl,rfl⟩;refine goN ?_;refine aK rfl (pC (SC n 0 [0,1] a2 E.ha2) _) uR ?_;refine goN ?_;refine aK rfl (G2 (args':=[.i6 2,.isl false []]) (.cons (.refl _) (.cons (.nil false) .nil)) (pC (SC n 2 [] b2 E.hb2)) _) uR ?_;refine goN ?_;refine D8 rfl (fN.bsf (cs:=b7 a2++b7 b2) (rs:=List.map b7 [a2,b2]) tb_ok rfl iH.h mX.h rfl rfl rfl rfl rfl rfl rfl rfl rfl rfl rfl (xf (vK 0 _) (vK 0 _))) ?_;rintro _ _ ⟨rfl,rfl⟩;refine goN ?_;refine aK rfl (pC (vd n [a2,b2] f2 E.hf2) _) IT ?_;refine goN ?_;refine o8 rfl (iL rfl IV rfl).2 (I' (p2.pl.up (nx':=n2+2) qq0) E.hr2) rfl rfl ?_;rintro _ _ ⟨h3,n3,rfl,rfl,p3⟩;rw[E.hv2];refine goN ?_;refine eG rfl (fun q=>absurd q qq3) (fun _=>?_);refine goN ?_;refine o8 rfl (iL rfl IU rfl).2 (xz p3.pl n E.hu) rfl rfl ?_;rintro _ _ ⟨h4,n4,rfl,rfl,p4⟩;rw[E.hvu.1,E.hvu.2]
 haveI:SuC n4 (n4+1):=⟨rfl⟩
 refine goN ?_;refine o8 rfl (iL rfl Q0 rfl).2 (na p4.pl n E.hg) rfl rfl ?_;rintro _ _ ⟨rfl,rfl⟩;rw[E.hvg];refine goN ?_;refine o8 rfl (iL rfl IU rfl).2 (xz (p4.pl.more _) n E.hv) rfl rfl ?_;rintro _ _ ⟨h5,n5,rfl,rfl,p5⟩;rw[E.hvv.1,E.hvv.2]
 haveI:eF h5 n4 (.row [.iM b7 g.1.Nodes] 39):=⟨p5.np _ _ (zN _) (by rw[aP,if_pos rfl];rfl) ⟨nofun,nofun,nofun⟩⟩
 refine goN ?_;obtain⟨h6,e6,p6⟩:=ru p5.pl n E.ht1;obtain⟨h7,e7,p7⟩:=ru p6.pl n E.ht2;rw[E.hvt1]at e6;rw[E.hvt2]at e7
 haveI:m8 0 (b7 a0++b7 b0):=⟨xf (vK 0 _) (vK 0 _)⟩
 refine dE [] ?_;refine cT ?_;refine qo (u:=.isl false (List.map (cI .i64) [0,1])) (by exact Go.Vx.wA) (sY.bs (cs:=[.i6 0,.i6 1]) cU.h iF.h rfl rfl rfl rfl rfl rfl rfl rfl rfl) rfl rfl ?_;refine cT ?_;refine dL rfl (pC (SC n 0 [0,1] a0 E.ha0)) uR ?_;refine cT ?_;refine dL rfl (G2 (args':=[.i6 1,.isl false []]) (.cons (.refl _) (.cons (.nil false) .nil)) (pC (SC n 1 [] b0 E.hb0))) uR ?_;refine cT ?_;refine qo (u:=.isl false (List.map b7 [a0,b0])) (by exact Go.Vx.wA) (sY.bs (cs:=b7 a0++b7 b0) iH.h mX.h rfl rfl rfl rfl rfl rfl rfl rfl rfl) rfl rfl ?_;refine cT ?_;refine dL rfl (pC (vd n [a0,b0] f0 E.hf0)) IT ?_;refine cT ?_;refine dL rfl (pC (y? n g.1 f0 true E.he)) PZ ?_;refine cT ?_;refine JV (by exact Go.Vx.wA) (iL rfl PY rfl).2 e6 rfl rfl ?_;refine cT ?_;refine JV (by exact Go.Vx.wA) (iL rfl PY rfl).2 e7 rfl rfl ?_;refine cT ?_;refine bD ⟨by kernel_rfl,trivial,?_⟩;refine goN ?_;refine eG rfl (fun q=>absurd q qq3) (fun _=>?_);refine goN ?_;refine o8 rfl (iL rfl IU rfl).2 (xz p7.pl n E.hw) rfl rfl ?_;rintro _ _ ⟨h8,n8,rfl,rfl,p8⟩;rw[E.hvw.1,E.hvw.2]
 haveI:SuC n8 (n8+1):=⟨rfl⟩
 refine goN ?_;refine o8 rfl (iL rfl Q0 rfl).2 (na p8.pl n E.hx) rfl rfl ?_;rintro _ _ ⟨rfl,rfl⟩;rw[E.hvx.1];refine goN ?_;refine o8 rfl (iL rfl IZ rfl).2 (xj (p8.pl.more _)) rfl rfl ?_;rintro _ _ ⟨rfl,rfl⟩;refine goN ?_;rw[decide_eq_true E.hvx.2.1];refine goN ?_;refine o8 rfl (iL rfl IZ rfl).2 (xj (p8.pl.more _)) rfl rfl ?_;rintro _ _ ⟨rfl,rfl⟩;refine goN ?_;rw[decide_eq_true E.hvx.2.2];refine goN ?_;exact th uF rfl rfl rfl (p8.pl.more _).lo (p8.pl.more (.row (lM x.1) 39)).le (by simp[aT]) ⟨rfl,rfl⟩
instance:uT tb 237 [.nils,.nils,.nils] [(0,1),(1,1),(2,1)]:=⟨vW QQ.h Up.h rfl qq1⟩
abbrev NK(a)(b:Nat)(c)(d:Nat)(e)(f:Nat)(g)(h):=([(6,.bv b7 a 79 2 b),(5,.row [.vl 6 b 0 a.length] 39),(4,.bv (cI .i64) c 3 1 d),(3,.bv (cI .i64) e 3 1 f),(2,.row [.iM b7 g,.vl 3 f 0 e.length,.vl 4 d 0 c.length] 237),(1,.row [.nils] 39),(0,.row [.iM b7 h] 39)]:X (Nat×B))
abbrev NJ(a)(b:Nat)(c:Nat)(d)(e):=([(0,.row [.iM b7 a,.vl 1 b 0 d.length,.vl 2 c 0 e.length] 237),(1,.bv (cI .i64) d 3 1 b),(2,.bv (cI .i64) e 3 1 c)]:X (Nat×B))
abbrev Hl(a):=([(1,.row [.nils] 39),(0,.row [.iM b7 a] 39)]:X (Nat×B))
def Jl(p1:X aR)(z6:Int)(l7:X aR)(cB:Int->(X aR)->Y ((X aR)))(dS:Int):Y ((X aR)):=
 aF ((0:Int)<=dS/\dS<=((l7.length:Nat):Int)) (
 aF (0+dS.toNat<=l7.length) (
 aF (((l7.drop 0).take dS.toNat).length*16<=140737488355328/\((l7.drop 0).take dS.toNat).length<=140737488355328) (
 a8 (aB p1 z6) fun oY=>
 aF ((((l7.drop 0).take dS.toNat).length+1)*16<=140737488355328/\((l7.drop 0).take dS.toNat).length+1<=140737488355328) (
 aF ((0:Int)<=dS/\dS<=((l7.length:Nat):Int)) (
 aF ((0+dS.toNat)+(l7.length-dS.toNat)<=l7.length) (
 aF (((((l7.drop 0).take dS.toNat)++[oY]).length+((l7.drop (0+dS.toNat)).take (l7.length-dS.toNat)).length)*16<=140737488355328/\(((l7.drop 0).take dS.toNat)++[oY]).length+((l7.drop (0+dS.toNat)).take (l7.length-dS.toNat)).length<=140737488355328) (
 cB (IntKind.i64.wrap (z6+1)) ((((l7.drop 0).take dS.toNat)++[oY])++((l7.drop (0+dS.toNat)).take (l7.length-dS.toNat))))))))))
def Jk(p1:X aR)(z6:Int)(l7:X aR)(cB:Int->(X aR)->Y ((X aR))):Nat->Int->Y ((X aR))
 |0,_=>none|m2+1,QF=>a8 (cond (decide (QF>0)) (a8 (aB l7 (IntKind.i64.wrap (QF-1))) fun uV=>a8 (aB p1 z6) fun lH=>some (decide (uV.Feat>lH.Feat))) (some false)) fun b33=>cond b33 ((Jk p1 z6 l7 cB m2) (IntKind.i64.wrap (QF-1))) (Jl p1 z6 l7 cB QF)
def uo  (l9:X aR):Y ((X aR)):=
 some l9
def OE(p1:X aR)(n:Nat):Nat->Int->(X aR)->Y ((X aR))
 |0,_,_=>none|m1+1,z6,l7=>cond (decide (z6<(p1.length:Int))) (Jk p1 z6 l7 (OE p1 n m1) n (l7.length:Int)) (uo l7)
def Qv(n:Nat)(p1:X aR):Y ((X aR)):=
 OE p1 n n 0 ([]:X aR)
theorem qge(n:Nat)(p1:X aR)(r:(X aR))(O:Qv n p1=some r):aW prog 142 [.isl false (p1.map bF)] ⟨[],0⟩ (fun u V'=>∃t,u=.vl 0 t 0 r.length/\V'=⟨[(0,.bv bF r 105 2 t)],0+1⟩):=by unfold Qv at O;refine lD 52 J1 ?_;refine gr ?_;refine gr ?_;refine gr ?_;refine gV 3 105 2 1 ?_;refine nM (a3:=0) (fun m z6 l7 _=>OE p1 n m z6 l7) (fun z6 l7 t8=>[(0,.iM bF p1),(3,.vl 0 t8 0 l7.length),(4,.i6 z6)]) (fun _ l7 t8=>⟨[(0,.bv bF l7 105 2 t8)],1⟩) (lE (fun l9 _=>uo l9) (fun l9 eQ=>[(3,.vl 0 eQ 0 l9.length)]) (fun l9 eQ=>⟨[(0,.bv bF l9 105 2 eQ)],1⟩)) O (nD ?_) ?_;intro l9 eQ O;unfold uo at O;refine go ?_;obtain rfl:=sI O;exact⟨.inr rfl,[.vl 0 eQ 0 l9.length],dT rfl eD,.vl 0 eQ 0 l9.length,⟨[(0,.bv bF l9 105 2 eQ)],1⟩,NZ,Gh.trans (Gh.only (fun k=>Nat.beq k 0)) (Gh.to (n1:=1) [] rfl rfl NZ NL m8.h BH.h),eQ,rfl,rfl⟩;intro m1 z6 l7 t8 O;unfold OE at O;refine gG O ?_ ?_<;>intro jS O;refine go ?_;refine oH (Jk p1 z6 l7 (OE p1 n m1)) (fun QF=>[(0,.iM bF p1),(3,.vl 0 t8 0 l7.length),(4,.i6 z6),(5,.i6 QF)]) (fun _=>⟨[(0,.bv bF l7 105 2 t8)],1⟩) (pW (Jl p1 z6 l7 (OE p1 n m1)) (fun dS=>[(0,.iM bF p1),(3,.vl 0 t8 0 l7.length),(4,.i6 z6),(5,.i6 dS)]) (fun _=>⟨[(0,.bv bF l7 105 2 t8)],1⟩)) O (tW ?_) ?_;intro dS O;unfold Jl at O;obtain⟨kD,O⟩:=c6 O;obtain⟨tE,O⟩:=c6 O;obtain⟨tT,O⟩:=c6 O;refine go ?_;refine aY (u:=.vl 0 t8 0 dS.toNat) rfl (L2 rfl MG (MF rfl) (Ln bF fS.h (bB hJ.h) vJ (vo rfl) (Nat.le_of_eq (Nat.zero_add _)) (ii kD.1 kD.2))) (aY (u:=.vl 1 0 0 (((l7.drop 0).take dS.toNat).length)) (V':=⟨[(1,.bv bF ((l7.drop 0).take dS.toNat) 105 2 0),(0,.bv bF l7 105 2 t8)],2⟩) rfl (pR rfl rfl rfl rfl (rf bF ((l7.drop 0).take dS.toNat) fS.h fS.h hJ.h rfl (zy bF vJ (vo rfl) tE) tT)) ?_);obtain⟨oY,tD,O⟩:=aI O;obtain⟨pK,O⟩:=c6 O;refine gI tD ?_;refine aY (u:=.sl 2 0 1 1) (V':=⟨[(2,.row (bF oY) 105),(1,.bv bF ((l7.drop 0).take dS.toNat) 105 2 0),(0,.bv bF l7 105 2 t8)],3⟩) rfl (yK fS.h hJ.h rfl rfl rfl rfl rfl rfl rfl) ?_;refine c5 ?_;obtain⟨IQ,O⟩:=c6 O;obtain⟨o3,O⟩:=c6 O;obtain⟨EG,O⟩:=c6 O;refine go ?_;refine aY (u:=.vl 0 t8 (0+dS.toNat) (l7.length-dS.toNat)) rfl (L2 rfl (MF rfl) MG (Ln bF fS.h (bB hJ.h) vJ (vo rfl) (Nat.le_of_eq (Nat.zero_add _)) (ig IQ.1 IQ.2))) (aY (u:=.vl 1 2 0 (((((l7.drop 0).take dS.toNat)++[oY])++((l7.drop (0+dS.toNat)).take (l7.length-dS.toNat))).length)) (V':=⟨[(2,.row (bF oY) 105),(1,.bv bF ((((l7.drop 0).take dS.toNat)++[oY])++((l7.drop (0+dS.toNat)).take (l7.length-dS.toNat))) 105 2 2),(0,.bv bF l7 105 2 t8)],3⟩) rfl (pR rfl rfl rfl rfl (DN bF ((l7.drop (0+dS.toNat)).take (l7.length-dS.toNat)) fS.h fS.h hJ.h rfl vJ rfl (zy bF vJ (vo rfl) o3) EG)) ?_);refine go ?_;exact⟨m1,_,_,zN _,⟨(IntKind.i64.wrap (z6+1)),((((l7.drop 0).take dS.toNat)++[oY])++((l7.drop (0+dS.toNat)).take (l7.length-dS.toNat))),2,O,rfl,rfl⟩,NZ,Gh.trans (Gh.sub (l':=[(0,.iM bF p1),(3,.vl 1 2 0 (((((l7.drop 0).take dS.toNat)++[oY])++((l7.drop (0+dS.toNat)).take (l7.length-dS.toNat))).length)),(4,.i6 (IntKind.i64.wrap (z6+1)))]) ⟨rfl,rfl,rfl,trivial⟩) (Gh.trans (Gh.mv (l':=[(0,.iM bF p1),(3,.vl 0 2 0 (((((l7.drop 0).take dS.toNat)++[oY])++((l7.drop (0+dS.toNat)).take (l7.length-dS.toNat))).length)),(4,.i6 (IntKind.i64.wrap (z6+1)))]) (h':=[(2,.row (bF oY) 105),(0,.bv bF ((((l7.drop 0).take dS.toNat)++[oY])++((l7.drop (0+dS.toNat)).take (l7.length-dS.toNat))) 105 2 2)]) 0 1 NZ rfl rfl (by simp only[rS,rU,fB,RV,yT,Nat.beq,zC,zD]) rfl (by simp only[Zs,rB,Gm,fB,rU,RV,wb,yT,Nat.beq,zC,zD,and_self])) (MA (n1:=1) ⟨rfl,rfl,rfl,trivial⟩ rfl NZ qq4))⟩;intro m2 QF O;unfold Jk at O;obtain⟨b33,nL,O⟩:=aI O;refine gn ?_;refine nE [(0,.iM bF p1),(3,.vl 0 t8 0 l7.length),(4,.i6 z6),(5,.i6 QF),(30,.bool b33)] ⟨[(0,.bv bF l7 105 2 t8)],1⟩ ?_ ?_;refine gG O ?_ ?_<;>intro rQ O;exact wx O;exact wx O;refine dE [] ?_;refine gd ?_;rcases gB nL with⟨xO,nL⟩|⟨xO,nL⟩;obtain⟨uV,tS,nL⟩:=aI nL;obtain⟨lH,oF,nL⟩:=aI nL;obtain rfl:=sI nL;refine gd ?_;refine RD.w rfl (dZ rfl rfl (kA bF fS.h (bB hJ.h) qq3 vJ (vo rfl) tS)) ?_;refine RD.w rfl (pP tG.h rfl (bB iF.h) rfl (DK rfl) rfl) (RD.w (u:=.i6 uV.Feat) rfl (F6 bF sD.h rfl vJ rfl rfl (AO tS) rfl) ?_);refine gJ oF ?_;refine bD ⟨by kernel_rfl,trivial,?_⟩;refine go ?_;exact mS;obtain rfl:=sI nL;refine gd ?_;refine bD ⟨by kernel_rfl,trivial,?_⟩;refine go ?_;exact mS;exact wx O
def Jt(fA:Int)(cB:Int->(X Int)->(X Int)->Y ((X Int)×(X Int)))(AX:X Int)(Jy:X Int):Y ((X Int)×(X Int)):=
 cB (IntKind.i64.wrap (fA+1)) AX Jy
def pa  (l27:X Int) (bU:X Int):Y ((X Int)×(X Int)):=
 some (l27,bU)
def SO(p2:X aO)(fV:X aR)(self:Int->(X aO)->(X Int)->(X Int)->Y ((X Int)×(X Int))):Nat->Int->(X Int)->(X Int)->Y ((X Int)×(X Int))
 |0,_,_,_=>none|m1+1,fA,kZ,pA=>
  cond (decide (fA<(fV.length:Int))) (a8 (aB fV fA) fun lH=>
   a8 (aB kZ lH.To) fun pZ=>cond (decide (pZ<0)) (a8 (aB fV fA) fun x39=>
    a8 (self x39.To p2 kZ pA) fun R5=>
    Jt fA (SO p2 fV self m1) R5.1 R5.2) (Jt fA (SO p2 fV self m1) kZ pA)) (pa kZ pA)
def su(n:Nat)(self:Int->(X aO)->(X Int)->(X Int)->Y ((X Int)×(X Int)))(p1:Int)(p2:X aO)(p3:X Int)(p5:X Int):Y ((X Int)×(X Int)):=
 a8 (aB p3 p1) fun x7=>
 aF ((p5.length+1)*8<=140737488355328/\p5.length+1<=140737488355328) (
 a8 (aB p2 p1) fun x10=>
 a8 (Qv n x10.Arcs) fun fV=>
 SO p2 fV self n 0 (p3.set (0+p1.toNat) (p5.length:Int)) (p5++[p1]))
def OI:Nat->Int->(X aO)->(X Int)->(X Int)->Y ((X Int)×(X Int))
 |0,_,_,_,_=>none|n+1,p1,p2,p3,p5=>su n (OI n) p1 p2 p3 p5
theorem qaf:∀(n:Nat)(p1:Int)(p2:X aO)(p3:X Int)(p5:X Int)(r:(X Int)×(X Int)),OI n p1 p2 p3 p5=some r->∀t4 t6:Nat,aW prog 141 [.ptr 0 0 0,.int .i64 p1] ⟨NJ p2 t4 t6 p3 p5,3⟩ (fun u V'=>∃t:Nat->Nat,u=.tup []/\V'=⟨NJ p2 t4 (t 0) r.1 r.2,3⟩)
 |0,p1,p2,p3,p5,r,O=>by cases O
 |n+1,p1,p2,p3,p5,r,O=>by have ih:=qaf n;unfold OI su at O;intro t4 t6;refine eM 62 J2 ?_;obtain⟨x7,h8,O⟩:=aI O;refine gn ?_;refine nE [(0,.ptr 0 0 0),(1,.i6 p1)] ⟨NJ p2 t4 t6 (p3.set (0+p1.toNat) (p5.length:Int)) p5,3⟩ ?_ ?_;obtain⟨h9,O⟩:=c6 O;refine go ?_;refine aY (u:=.ptr 0 0 0) rfl (DJ rfl rfl) ?_;refine go ?_;refine c5 ?_;refine c5 ?_;refine aY (u:=.ptr 0 0 0) rfl (DJ rfl rfl) ?_;obtain⟨x10,jS,fV,eB,O⟩:=bO O;refine go ?_;refine aY (u:=.ptr 0 0 0) rfl (DJ rfl rfl) ?_;refine gI jS ?_;refine o8 (R:=fun u V'=>u=.vl 4 0 0 fV.length/\V'=⟨(4,.bv bF fV 105 2 0)::(3,.row [.i6 p1] 3)::NJ p2 t4 (t6+1) (p3.set (0+p1.toNat) (p5.length:Int)) (p5++[p1]),5⟩) (args:=[.iM bF x10.Arcs]) rfl (yO rfl rfl J1 rfl rfl rfl) (qm bF (qge n x10.Arcs fV eB) _ 4 rfl) rfl rfl ?_;rintro _ _ ⟨rfl,rfl⟩;refine go ?_;refine gL (fun m tm V=>∃fA kZ,∃pA dv,SO p2 fV (OI n) m fA kZ pA=some r/\tm=fr 62 [(0,.ptr 0 0 0),(4,.vl 4 0 0 fV.length),(5,.i6 fA)]/\V=⟨(4,.bv bF fV 105 2 0)::(3,.row [.i6 p1] 3)::NJ p2 t4 dv kZ pA,5⟩) (fun tm V=>∃l27 bU iX,pa l27 bU=some r/\tm=fr 62 []/\V=⟨(4,.bv bF fV 105 2 0)::(3,.row [.i6 p1] 3)::NJ p2 t4 iX l27 bU,5⟩) n ⟨0,(p3.set (0+p1.toNat) (p5.length:Int)),(p5++[p1]),(t6+1),O,rfl,rfl⟩ ?_ ?_;rintro _ _ ⟨l27,bU,iX,O,rfl,rfl⟩;unfold pa at O;refine go ?_;obtain rfl:=sI O;exact⟨.inl rfl,[],eD,.tup [],⟨NJ p2 t4 iX l27 bU,3⟩,NL,Gh.to (n1:=3) [] rfl rfl NL NL m8.h BH.h,stF [iX],rfl,rfl⟩;rintro(_|m1) _ _ ⟨fA,kZ,pA,dv,O,rfl,rfl⟩;cases O;unfold SO at O;refine gG O ?_ ?_<;>intro tS O;obtain⟨lH,oF,pZ,nL,O⟩:=bO O;refine go ?_;refine dE [] ?_;refine gd ?_;refine aV (u:=.ptr 0 0 0) rfl (DJ rfl rfl) ?_;refine gd ?_;refine aV rfl (dZ rfl rfl (kA bF fS.h (bB hJ.h) qq3 vJ (vo rfl) oF)) ?_;refine aV rfl (pP tG.h rfl (bB iF.h) rfl (DK rfl) rfl) (aV (u:=.i6 lH.To) rfl (F6 bF sD.h rfl vJ rfl rfl (AO oF) rfl) ?_);refine aV rfl (dZ rfl rfl (kA (cI .i64) cU.h (bB iF.h) qq3 (mB .i64) (vo rfl) nL)) ?_;refine aV rfl (sZ (cI .i64) (fun x=>.i6 x) sD.h rfl (fun _=>rfl) rfl rfl nL) ?_;refine gd ?_;refine bD ⟨by kernel_rfl,trivial,?_⟩;refine gn ?_;refine Wj3 r (fun AX Jy _=>Jt fA (SO p2 fV (OI n) m1) AX Jy) (fun _ _ _=>[(0,.ptr 0 0 0),(4,.vl 4 0 0 fV.length),(5,.i6 fA)]) (fun AX Jy t38=>⟨(4,.bv bF fV 105 2 0)::(3,.row [.i6 p1] 3)::NJ p2 t4 t38 AX Jy,5⟩) ?_ ?_;intro AX Jy t38 O;unfold Jt at O;exact wx O;refine cF O ?_ ?_<;>intro rQ O;obtain⟨x39,xM,R5,vT,O⟩:=bO O;refine go ?_;refine aY rfl (dZ rfl rfl (kA bF fS.h (bB hJ.h) qq3 vJ (vo rfl) xM)) ?_;refine aY rfl (pP tG.h rfl (bB iF.h) rfl (DK rfl) rfl) (aY (u:=.i6 x39.To) rfl (F6 bF sD.h rfl vJ rfl rfl (AO xM) rfl) (o8 (args:=[.ptr 0 0 0,.i6 x39.To]) rfl (yO rfl rfl J2 rfl rfl rfl) (aW.st [0,1,2] (ih x39.To p2 kZ pA R5 vT t4 dv)) rfl rfl ?_));rintro _ _ ⟨Nj,rfl,rfl⟩;exact wx O;exact wx O;exact wx O;refine dE [] ?_;refine gd ?_;refine aV (u:=.ptr 0 0 0) rfl (DJ rfl rfl) ?_;refine gd ?_;refine aV (u:=.ptr 0 0 0) rfl (DJ rfl rfl) ?_;refine gd ?_;refine aV rfl (dZ rfl rfl (kA (cI .i64) cU.h (bB iF.h) qq3 (mB .i64) (vo rfl) h8)) ?_;refine Fk (u:=.junk) (V':=⟨[(0,.row [.iM b7 p2,.vl 1 t4 0 p3.length,.vl 2 t6 0 p5.length] 237),(1,.bv (cI .i64) (p3.set (0+p1.toNat) (p5.length:Int)) 3 1 t4),(2,.bv (cI .i64) p5 3 1 t6)],3⟩) rfl (eu (cI .i64) (bB iF.h) (mB .i64) rfl rfl rfl rfl rfl rfl rfl (AO h8) rfl) rfl ?_;refine bD ⟨by kernel_rfl,trivial,?_⟩;refine go ?_;exact⟨_,_,⟨rfl,rfl⟩,NL,D7 ⟨rfl,rfl,trivial⟩ (by simp only[NJ,List.length_set])⟩
def Rb(nO:Int)(l27:X aO)(i7:Int->(X aO)->Y (GFS))(oX:aO)(AW:X aR):Y (GFS):=
 aF ((l27.length+1)*32<=140737488355328/\l27.length+1<=140737488355328) (
 i7 (IntKind.i64.wrap (nO+1)) (l27++[(aO.mk oX.Typex AW)]))
def YW(lL:(X Int)×(X Int))(nO:Int)(l27:X aO)(i7:Int->(X aO)->Y (GFS))(oX:aO):Nat->Int->(X aR)->Y (GFS)
 |0,_,_=>none|m3+1,EP,sK=>
  cond (decide (EP<(sK.length:Int))) (a8 (aB sK EP) fun BT=>
   a8 (aB lL.1 BT.To) fun G7=>
   a8 (aB sK EP) fun Fo=>(YW lL nO l27 i7 oX m3) (IntKind.i64.wrap (EP+1)) (sK.set (0+EP.toNat) (aR.mk Fo.Feat G7))) (Rb nO l27 i7 oX sK)
def ym  (wN:X aO):Y (GFS):=
 some (GFS.mk wN)
def O1(p1:GFS)(n:Nat)(lL:(X Int)×(X Int)):Nat->Int->(X aO)->Y (GFS)
 |0,_,_=>none|m2+1,nO,l27=>
  cond (decide (nO<(lL.2.length:Int))) (a8 (aB lL.2 nO) fun sS=>
   a8 (aB p1.Nodes sS) fun oX=>
   a8 (Qv n oX.Arcs) fun Nw=>
   YW lL nO l27 (O1 p1 n lL m2) oX n 0 Nw) (ym l27)
def Rd(p1:GFS)(p2:Int)(n:Nat)(fQ:X Int):Y (GFS):=
 a8 (OI n p2 p1.Nodes fQ ([]:X Int)) fun lL=>
 O1 p1 n lL n 0 ([]:X aO)
def Iy(p1:GFS)(p2:Int)(n:Nat):Nat->Int->(X Int)->Y (GFS)
 |0,_,_=>none|m1+1,z9,l10=>cond (decide (z9<(p1.Nodes.length:Int))) (aF ((l10.length+1)*8<=140737488355328/\l10.length+1<=140737488355328) ((Iy p1 p2 n m1) (IntKind.i64.wrap (z9+1)) (l10++[(-1)]))) (Rd p1 p2 n l10)
def Ia(n:Nat)(p1:GFS)(p2:Int):Y (GFS):=
 Iy p1 p2 n n 0 ([]:X Int)
theorem qjv(n:Nat)(p1:GFS)(p2:Int)(r:GFS)(O:Ia n p1 p2=some r):cY prog 101 [.agg [.isl false (p1.Nodes.map b7)],.int .i64 p2] (.agg [.isl false (r.Nodes.map b7)]):=by unfold Ia at O;refine eM 88 JB ?_;refine gr ?_;refine gr ?_;refine gr ?_;refine dF (tm':=fr 88 [(1,.i6 p2),(2,.ptr 0 0 0),(4,.ptr 1 0 0),(5,.ptr 2 0 0),(6,.i6 0)]) (V':=⟨(3,.bv (cI .i64) ([]:X Int) 3 1 0)::(2,.row [.iM b7 p1.Nodes,.vl 3 0 0 (([]:X Int).length),.nils] 237)::Hl p1.Nodes,4⟩) (Gh.trans (BP 2 1 3 1 qq3 NZ rfl rfl) (D7 ⟨rfl,rfl,rfl,rfl,rfl,trivial⟩ rfl)) NZ ?_;refine nM (a3:=0) (fun m z9 l10 _=>Iy p1 p2 n m z9 l10) (fun z9 _ _=>[(1,.i6 p2),(2,.ptr 0 0 0),(4,.ptr 1 0 0),(5,.ptr 2 0 0),(6,.i6 z9)]) (fun _ l10 sE=>⟨(3,.bv (cI .i64) l10 3 1 sE)::(2,.row [.iM b7 p1.Nodes,.vl 3 sE 0 l10.length,.nils] 237)::Hl p1.Nodes,4⟩) (lE (fun fQ _=>Rd p1 p2 n fQ) (fun _ _=>[(1,.i6 p2),(2,.ptr 0 0 0),(4,.ptr 1 0 0),(5,.ptr 2 0 0)]) (fun fQ mU=>⟨(3,.bv (cI .i64) fQ 3 1 mU)::(2,.row [.iM b7 p1.Nodes,.vl 3 mU 0 fQ.length,.nils] 237)::Hl p1.Nodes,4⟩)) O (nD ?_) ?_;intro fQ mU O;unfold Rd at O;refine gn ?_;refine dF (tm':=fr 88 [(1,.i6 p2),(2,.ptr 0 0 0),(4,.ptr 1 0 0),(5,.ptr 2 0 0)]) (V':=⟨(4,.bv (cI .i64) ([]:X Int) 3 1 0)::(3,.bv (cI .i64) fQ 3 1 mU)::(2,.row [.iM b7 p1.Nodes,.vl 3 mU 0 fQ.length,.vl 4 0 0 (([]:X Int).length)] 237)::Hl p1.Nodes,5⟩) (Gh.trans (BP 2 2 3 1 qq3 NZ rfl rfl) (D7 ⟨rfl,rfl,rfl,rfl,trivial⟩ rfl)) NZ ?_;obtain⟨lL,lU,O⟩:=aI O;refine go ?_;refine o8 (args:=[.ptr 2 0 0,.i6 p2]) rfl (yO rfl rfl J2 rfl rfl rfl) (aW.st [2,3,4] (qaf n p2 p1.Nodes fQ ([]:X Int) lL lU mU 0)) rfl rfl ?_;rintro _ _ ⟨fK,rfl,rfl⟩;refine gr ?_;refine gr ?_;refine dF (tm':=fr 88 [(2,.ptr 0 0 0),(4,.ptr 1 0 0),(5,.ptr 2 0 0),(7,.ptr 5 0 0),(8,.i6 0)]) (V':=⟨(6,.bv b7 ([]:X aO) 79 2 0)::(5,.row [.vl 6 0 0 (([]:X aO).length)] 39)::(4,.bv (cI .i64) lL.2 3 1 (fK 0))::(3,.bv (cI .i64) lL.1 3 1 mU)::(2,.row [.iM b7 p1.Nodes,.vl 3 mU 0 lL.1.length,.vl 4 (fK 0) 0 lL.2.length] 237)::Hl p1.Nodes,7⟩) (Gh.trans (BP 5 0 79 2 qq3 NZ rfl rfl) (D7 ⟨rfl,rfl,rfl,rfl,rfl,trivial⟩ rfl)) NZ ?_;refine nM (a3:=0) (fun m nO l27 _=>O1 p1 n lL m nO l27) (fun nO _ _=>[(2,.ptr 0 0 0),(4,.ptr 1 0 0),(5,.ptr 2 0 0),(7,.ptr 5 0 0),(8,.i6 nO)]) (fun _ l27 BW=>⟨NK l27 BW lL.2 (fK 0) lL.1 mU p1.Nodes p1.Nodes,7⟩) (lE (fun wN _=>ym wN) (fun _ _=>[(4,.ptr 1 0 0),(7,.ptr 5 0 0)]) (fun wN XE=>⟨NK wN XE lL.2 (fK 0) lL.1 mU p1.Nodes p1.Nodes,7⟩)) O (nD ?_) ?_;intro wN XE O;unfold ym at O;refine go ?_;obtain rfl:=sI O;exact rT (us:=[.agg [.vl 6 XE 0 wN.length]]) (u:=.agg [.iM b7 wN]) (nG (kJ fT.h rfl (bB gZ.h) rfl rfl rfl) (eD)) (fR 6 2);intro m2 nO l27 BW O;unfold O1 at O;refine go ?_;refine aY (u:=.ptr 2 0 0) rfl (DJ rfl rfl) ?_;refine gG O ?_ ?_<;>intro BN O;obtain⟨sS,vV,oX,rQ,O⟩:=bO O;refine go ?_;refine dE [(0,11),(1,11),(2,11),(3,11),(4,11),(5,11),(6,11),(7,11),(8,11),(9,11),(10,11)] ?_;refine gd ?_;refine aV (u:=.ptr 2 0 0) rfl (DJ rfl rfl) ?_;refine gd ?_;refine aV rfl (dZ rfl rfl (kA (cI .i64) cU.h (bB iF.h) qq3 (mB .i64) (vo rfl) vV)) ?_;refine aV rfl (sZ (cI .i64) (fun x=>.i6 x) sD.h rfl (fun _=>rfl) rfl rfl vV) ?_;refine dX rQ ?_;refine gd ?_;refine eN ?_;refine qM ?_;refine bD ⟨by kernel_rfl,⟨pP fT.h rfl (bB E3.h) rfl rfl rfl,⟨yM iH.h rfl rfl rfl rfl,⟨oD rfl,⟨DJ rfl rfl,⟨pP QQ.h rfl (bB Us.h) rfl rfl rfl,⟨yM cU.h rfl rfl rfl rfl,⟨oD rfl,⟨dZ rfl rfl (kA (cI .i64) cU.h (bB iF.h) qq3 (mB .i64) (vo rfl) vV),⟨sZ (cI .i64) (fun x=>.i6 x) sD.h rfl (fun _=>rfl) rfl rfl vV,⟨dZ rfl rfl (Gr b7 iH.h (bB mX.h) kz rQ rfl),⟨z7t u7.h rfl (bB mX.h) rfl rfl,trivial⟩⟩⟩⟩⟩⟩⟩⟩⟩⟩⟩,?_⟩;obtain⟨Nw,FW,O⟩:=aI O;refine go ?_;refine o8 (R:=fun u V'=>u=.vl 8 0 0 Nw.length/\V'=⟨(8,.bv bF Nw 105 2 0)::(7,.row (b7 oX) 79)::NK l27 BW lL.2 (fK 0) lL.1 mU p1.Nodes p1.Nodes,9⟩) (args:=[.iM bF oX.Arcs]) rfl (yO rfl rfl J1 rfl rfl rfl) (qm bF (qge n oX.Arcs Nw FW) _ 8 rfl) rfl rfl ?_;rintro _ _ ⟨rfl,rfl⟩;refine go ?_;refine D3 (YW lL nO l27 (O1 p1 n lL m2) oX) (fun EP sK=>[(2,.ptr 0 0 0),(4,.ptr 1 0 0),(5,.ptr 2 0 0),(7,.ptr 5 0 0),(8,.i6 nO),(9,.ptr 7 0 0),(10,.vl 8 0 0 sK.length),(11,.i6 EP)]) (fun _ sK=>⟨(8,.bv bF sK 105 2 0)::(7,.row (b7 oX) 79)::NK l27 BW lL.2 (fK 0) lL.1 mU p1.Nodes p1.Nodes,9⟩) (pW (Rb nO l27 (O1 p1 n lL m2) oX) (fun AW=>[(2,.ptr 0 0 0),(4,.ptr 1 0 0),(5,.ptr 2 0 0),(7,.ptr 5 0 0),(8,.i6 nO),(9,.ptr 7 0 0),(10,.vl 8 0 0 AW.length)]) (fun AW=>⟨(8,.bv bF AW 105 2 0)::(7,.row (b7 oX) 79)::NK l27 BW lL.2 (fK 0) lL.1 mU p1.Nodes p1.Nodes,9⟩)) O (tW ?_) ?_;intro AW O;unfold Rb at O;refine gn ?_;refine dF (tm':=fr 88 [(2,.ptr 0 0 0),(4,.ptr 1 0 0),(5,.ptr 2 0 0),(7,.ptr 5 0 0),(8,.i6 nO),(9,.ptr 7 0 0),(10,.iM bF AW)]) (V':=⟨(7,.row (b7 oX) 79)::NK l27 BW lL.2 (fK 0) lL.1 mU p1.Nodes p1.Nodes,9⟩) (Gh.trans (Gh.sub (l':=[(2,.ptr 0 0 0),(4,.ptr 1 0 0),(5,.ptr 2 0 0),(7,.ptr 5 0 0),(8,.i6 nO),(9,.ptr 7 0 0),(10,.vl 8 0 0 AW.length)]) ⟨rfl,rfl,rfl,rfl,rfl,rfl,rfl,trivial⟩) (JU 8 2)) NZ ?_;obtain⟨bm,O⟩:=c6 O;refine go ?_;refine c5 ?_;refine c5 ?_;exact wx O;intro m3 EP sK O;unfold YW at O;refine gG O ?_ ?_<;>intro U4 O;obtain⟨BT,Kz,G7,Xk,Fo,Xj,O⟩:=oO O;refine gn ?_;refine nE [(2,.ptr 0 0 0),(4,.ptr 1 0 0),(5,.ptr 2 0 0),(7,.ptr 5 0 0),(8,.i6 nO),(9,.ptr 7 0 0),(10,.vl 8 0 0 ((sK.set (0+EP.toNat) (aR.mk Fo.Feat G7)).length)),(11,.i6 EP)] ⟨(8,.bv bF (sK.set (0+EP.toNat) (aR.mk Fo.Feat G7)) 105 2 0)::(7,.row (b7 oX) 79)::NK l27 BW lL.2 (fK 0) lL.1 mU p1.Nodes p1.Nodes,9⟩ ?_ ?_;exact wx O;refine dE [] ?_;refine gd ?_;refine aV (u:=.ptr 2 0 0) rfl (DJ rfl rfl) ?_;refine gd ?_;refine aV rfl (dZ rfl rfl (kA bF fS.h (bB hJ.h) qq3 vJ (vo rfl) Kz)) ?_;refine aV rfl (pP tG.h rfl (bB iF.h) rfl (DK rfl) rfl) (aV (u:=.i6 BT.To) rfl (F6 bF sD.h rfl vJ rfl rfl (AO Kz) rfl) ?_);refine aV rfl (dZ rfl rfl (kA (cI .i64) cU.h (bB iF.h) qq3 (mB .i64) (vo rfl) Xk)) ?_;refine aV rfl (sZ (cI .i64) (fun x=>.i6 x) sD.h rfl (fun _=>rfl) rfl rfl Xk) ?_;refine aV rfl (dZ rfl rfl (kA bF fS.h (bB hJ.h) qq3 vJ (vo rfl) Xj)) ?_;refine aV rfl (pP tG.h rfl (bB iF.h) rfl (DK rfl) rfl) (Fk (u:=.junk) (V':=⟨(8,.bv bF (sK.set (0+EP.toNat) (aR.mk Fo.Feat G7)) 105 2 0)::(7,.row (b7 oX) 79)::NK l27 BW lL.2 (fK 0) lL.1 mU p1.Nodes p1.Nodes,9⟩) rfl (td (y:=(aR.mk Fo.Feat G7)) bF (bB iF.h) vJ rfl rfl rfl rfl rfl rfl (AO Xj) rfl rfl) rfl ?_);refine bD ⟨by kernel_rfl,trivial,?_⟩;refine go ?_;exact⟨_,_,⟨rfl,rfl⟩,NZ,D7 ⟨rfl,rfl,rfl,rfl,rfl,rfl,(by simp only[Hl,NK,List.length_set];rfl),rfl,trivial⟩ rfl⟩;exact wx O;exact wx O;intro m1 z9 l10 sE O;unfold Iy at O;refine gG O ?_ ?_<;>intro h63 O;obtain⟨vR,O⟩:=c6 O;refine go ?_;refine aY (u:=.ptr 2 0 0) rfl (DJ rfl rfl) ?_;refine go ?_;refine c5 ?_;refine c5 ?_;refine aY (u:=.ptr 2 0 0) rfl (DJ rfl rfl) ?_;exact wx O;exact wx O
def yi: Y (Int×DC):=
 some (0,false)
def Iu(p3:Int)(x4:aO):Nat->Int->Y (Int×DC)
 |0,_=>none|m1+1,dW=>cond (decide (dW<(x4.Arcs.length:Int))) (a8 (aB x4.Arcs dW) fun qA=>cond (qA.Feat==p3) (a8 (aB x4.Arcs dW) fun tF=>some (tF.To,true)) ((Iu p3 x4 m1) (IntKind.i64.wrap (dW+1)))) (yi)
def Pv(n:Nat)(p1:GFS)(p2:Int)(p3:Int):Y (Int×DC):=
 a8 (aB p1.Nodes p2) fun x4=>
 Iu p3 x4 n 0
theorem qrt(n:Nat)(p1:GFS)(p2:Int)(p3:Int)(r:Int×DC)(O:Pv n p1 p2 p3=some r):cY prog 166 [.agg [.isl false (p1.Nodes.map b7)],.int .i64 p2,.int .i64 p3] (.tup [.int .i64 r.1,.bool r.2]):=by unfold Pv at O;refine xU 34 UF ?_;obtain⟨x4,h5,O⟩:=aI O;refine gI h5 ?_;refine oH (Iu p3 x4) (fun dW=>[(2,.i6 p3),(8,.iM bF x4.Arcs),(9,.i6 dW)]) (fun _=>⟨[(0,.row [.iM b7 p1.Nodes] 39)],1⟩) (pL yi [] ⟨[(0,.row [.iM b7 p1.Nodes] 39)],1⟩) O (rY ?_) ?_;intro O;unfold yi at O;refine go ?_;obtain rfl:=sI O;exact y5 rfl rfl rfl rfl rfl;intro m1 dW O;unfold Iu at O;refine gG O ?_ ?_<;>intro jS O;obtain⟨qA,eB,O⟩:=aI O;refine go ?_;refine c8 eB ?_;refine gF O ?_ ?_<;>intro i5 O;obtain⟨tF,qL,O⟩:=aI O;refine gI qL ?_;obtain rfl:=sI O;exact y5 rfl rfl rfl rfl rfl;exact wx O;exact wx O
end Go.Proofs
namespace Go.Vx
open Go Go.Rx
theorem n_(K:Nat)(b:B)(sz:Nat):∀(l m:X U),gU K b sz (l++m)=gU K b sz l++gU K b sz m
 |[],m=>by simp[vG]
 |u::l,m=>by rw[List.cons_append,tA,tA,n_ K b sz l m,List.cons_append]
theorem Gh.three{n:Nat}{l:X (Nat×U)}{h:X (Nat×B)}{nx:Nat}{a b c:B}(h2:gt h 2=some c)(h1:gt h 1=some b)(h0:gt h 0=some a)(hn:3<=nx)(hl:aG 3 (fr n l))(ha:BelB 3 a)(hb:BelB 3 b)(hc:BelB 3 c):Gh 0 (fr n l) ⟨h,nx⟩ (fr n l) ⟨[(2,c),(1,b),(0,a)],3⟩:=by
 have key:∀k,gt [(2,c),(1,b),(0,a)] k=gt (Vx.cut 3 h) k:=fun k=>by rw[Y5];rcases k with _ |_ |_ |k;simp[aP,h0];simp[aP,h1];simp[aP,h2];simp[aP,gt];omega
 refine(Gh.cutG (V:=⟨h,nx⟩) (n1:=3) (Nat.zero_le _) hn hl fun k d hd=>?_).trans (Gh.same (V:=⟨Vx.cut 3 h,3⟩) _ key);rw[<-key]at hd;rcases k with _ |_ |_ |k;simp[aP]at hd;subst hd;exact ha;simp[aP]at hd;subst hd;exact hb;simp[aP]at hd;subst hd;exact hc;have hz:gt [(2,c),(1,b),(0,a)] (k+3)=none:=by rw[aP,if_neg qq0,aP,if_neg qq0,aP,if_neg qq0];rfl
 have bH:gt [(2,c),(1,b),(0,a)] (k+3)=some d:=hd;rw[hz]at bH;cases bH
end Go.Vx
namespace Go.Proofs
open Go Go.Rx Go.Vx
structure QN where
 ty:Int
 nm:Nat
 st:Nat
 ar:X aR
def QN.nd(q:QN):aO:=⟨q.ty,q.ar⟩
def cQ(q:QN):X U:=[.int .i64 q.ty,.vl q.nm q.st 0 q.ar.length]
theorem Y3(q:QN):(cQ q).length=2:=rfl
instance:fX cQ 2:=⟨Y3⟩
structure QI(l:X aO)(qs:X QN)(M st:Nat)(h:X (Nat×B)):Prop where
 el:l=qs.map QN.nd
 g0:gt h 0=some (.row [.nils] 39)
 g1:gt h 1=some (.row [.vl 2 st 0 qs.length] 39)
 g2:gt h 2=some (.bv cQ qs 79 2 st)
 ga:∀q∈qs,gt h q.nm=some (.bv bF q.ar 105 2 q.st)
 lo:∀q∈qs,3<=q.nm/\q.nm<M+3
 nd:(qs.map QN.nm).Nodup
theorem z44(n:Nat)(l:X aR):aG n (l.map bF).flatten:=NM n (fun q=>kh n q) l
theorem fz_dn(K:Nat)(b:B)(sz:Nat)(l:X aO):gU K b sz (l.map b7).flatten=(l.map b7).flatten:=tO _ _ _ (NM K (fun q=>vK K q) l)
theorem fz_qs(K:Nat)(b:B)(sz:Nat):∀(l:X QN),(∀q∈l,q.nm≠K)->gU K b sz (l.map cQ).flatten=(l.map cQ).flatten
 |[],_=>by simp[vG]
 |q::l,h=>by
  have h1:Nat.beq q.nm K=false:=by rw[beq_eq];simpa using h q qq4
  rw[zQ,List.flatten_cons,n_,fz_qs K b sz l fun x hx=>h x (by simp[hx])];simp only[cQ,tA,vG,DL,qz h1]
theorem frz{n0:Nat}{tm:X U}(hb:aG 3 tm){st N nx:Nat}:∀(qs:X QN)(dn:X aO)(h:X (Nat×B)),
  gt h 2=some (.vec ((dn.map b7).flatten++(qs.map cQ).flatten) 79 2 st)->gt h 1=some (.row [.vl 2 st 0 N] 39)->gt h 0=some (.row [.nils] 39)->
  (∀q∈qs,gt h q.nm=some (.bv bF q.ar 105 2 q.st)/\3<=q.nm)->(qs.map QN.nm).Nodup->
  ∃h',Gh n0 tm ⟨h,nx⟩ tm ⟨h',nx⟩/\gt h' 2=some (.bv b7 (dn++qs.map QN.nd) 79 2 st)/\gt h' 1=some (.row [.vl 2 st 0 N] 39)/\gt h' 0=some (.row [.nils] 39)
 |[],dn,h,h2,h1,h0,_,_=>⟨h,Gh.refl _ _ _,by simpa using h2,h1,h0⟩|q::qs,dn,h,h2,h1,h0,hq,hn=>by
  obtain⟨g1,g2⟩:=hq q qq4;rw[zQ,List.nodup_cons]at hn;have cP:∀x∈qs,x.nm≠q.nm:=fun x hx e=>hn.1 (by rw[<-e];exact List.mem_map_of_mem hx);have hbq:aG q.nm tm:=(vI _ _).2 fun u hu=>aT.le g2 u ((vI _ _).1 hb u hu);have step:Gh n0 tm ⟨h,nx⟩ tm ⟨fzH q.nm (.bv bF q.ar 105 2 q.st) 2 h,nx⟩:=Gh.fz q.nm _ 2 g1 nofun (tO _ _ _ hbq) rfl;obtain⟨h',e1,e2,e3,e4⟩:=frz hb (n0:=n0) (nx:=nx) (N:=N) (st:=st) qs (dn++[q.nd]) (fzH q.nm (.bv bF q.ar 105 2 q.st) 2 h)
   (by
    rw[AP,if_neg qq0,h2];simp only[zM,fzB,n_,fz_dn,zQ,List.flatten_cons,fz_qs _ _ _ qs cP];have:gU q.nm (.bv bF q.ar 105 2 q.st) 2 (cQ q)=b7 q.nd:=by simp only[cQ,tA,vG,DL,GW vJ,b7,QN.nd]
    rw[this];simp)
   (by
    rw[AP,if_neg qq0,h1];have:Nat.beq 2 q.nm=false:=by rw[beq_eq];simp;omega
    simp only[zM,fzB,tA,vG,qz this])
   (by rw[AP,if_neg qq0,h0];simp only[zM,fzB,tA,vG,NE])
   (fun x hx=>by obtain⟨k1,k2⟩:=hq x (by simp[hx]);refine⟨?_,k2⟩;rw[AP,if_neg (cP x hx),k1];simp only[zM,fzB,tO _ _ _ (z44 _ _)])
   hn.2
  exact⟨h',step.trans e1,by simpa using e2,e3,e4⟩
theorem QI.same{l:X aO}{qs:X QN}{M st nx:Nat}{h:X (Nat×B)}(q:QI l qs M st h)(tm:X U):∃t,Gh 0 tm ⟨h,nx⟩ tm ⟨(2,.bv cQ qs 79 2 st)::(1,.row [.vl 2 st 0 qs.length] 39)::(0,.row [.nils] 39)::t,nx⟩/\QI l qs M st ((2,.bv cQ qs 79 2 st)::(1,.row [.vl 2 st 0 qs.length] 39)::(0,.row [.nils] 39)::t):=by
 have key:∀k,gt ((2,.bv cQ qs 79 2 st)::(1,.row [.vl 2 st 0 qs.length] 39)::(0,.row [.nils] 39)::h) k=gt h k:=fun k=>by simp only[aP];by_cases e2:2=k;subst e2;simp[q.g2];by_cases e1:1=k;subst e1;simp[q.g1];by_cases e0:0=k;subst e0;simp[q.g0];simp[e2,e1,e0]
 refine⟨h,Gh.same (V:=⟨h,nx⟩) _ key,⟨q.el,?_,?_,?_,fun x hx=>?_,q.lo,q.nd⟩⟩;rw[key];exact q.g0;rw[key];exact q.g1;rw[key];exact q.g2;rw[key];exact q.ga x hx
variable{l:X aO}
variable{qs:X QN}
variable{M:Nat}
theorem QI.more{st:Nat}{h:X (Nat×B)}(q:QI l qs M st h)(b:B):QI l qs (M+1) st ((M+3,b)::h) where
 el:=q.el
 g0:=by rw[aP,if_neg qq0];exact q.g0
 g1:=by rw[aP,if_neg qq0];exact q.g1
 g2:=by rw[aP,if_neg qq0];exact q.g2
 ga:=fun x hx=>by have:=q.lo x hx;rw[aP,if_neg qq0];exact q.ga x hx
 lo:=fun x hx=>by have:=q.lo x hx;omega
 nd:=q.nd
theorem QI.viewG{st nx:Nat}{h:X (Nat×B)}(q:QI l qs M st h)(az:X U)(ha:aG 2 az):∃V1,Gh 0 (.agg [.vl 2 st 0 qs.length]::az) ⟨h,nx⟩ (.agg [.isl false (l.map b7)]::az) V1:=by
 have hb:aG 3 (.agg [.vl 2 st 0 qs.length]::az):=by
  refine(vI _ _).2 fun u hu=>?_;rcases zI.1 hu with rfl |hu
  simp[aT,aG];exact aT.le qq0 u ((vI _ _).1 ha u hu)
 obtain⟨h',e1,e2,e3,e4⟩:=frz (n0:=0) hb (st:=st) (N:=qs.length) (nx:=nx) qs [] h (by simpa using q.g2) q.g1 q.g0 (fun x hx=>⟨q.ga x hx,(q.lo x hx).1⟩) q.nd;rw[List.nil_append,<-q.el]at e2;have hl:qs.length=l.length:=by rw[q.el,yA]
 refine⟨⟨fzH 2 (.bv b7 l 79 2 st) 2 h',nx⟩,e1.trans (Gh.fz 2 (.bv b7 l 79 2 st) 2 e2 nofun ?_ rfl)⟩;rw[tA,tO _ _ _ ha,NA,tA,vG,hl,GW kz]
variable{i:Int}
theorem z9f{v12 β:Type}{f:v12->β}{l:X v12}{y:β}(h:aB (l.map f) i=some y):∃x,aB l i=some x/\f x=y:=by obtain⟨h1,h2,h3⟩:=NI h;rw[List.getElem?_map]at h3;rcases e:l[i.toNat]? with _|x;rw[e]at h3;cases h3;rw[e]at h3;refine⟨x,?_,Option.some.inj h3⟩;rw[yA]at h2;rw[aB,if_pos ⟨h1,h2⟩];exact e
theorem qzz{v12:Type}{l:X v12}{y:v12}(h:aB l i=some y):y∈l:=zX (NI h).2.2
variable{t:X (Nat×B)}
theorem pullG{n0:Nat}{tm:X U}{st e:Nat}{y:QN}{a:aR}(he:y.nm=e+3)(be:e<M)
  (hy:gt ((2,.bv cQ qs 79 2 st)::(1,.row [.vl 2 st 0 qs.length] 39)::(0,.row [.nils] 39)::t) y.nm=some (.bv bF y.ar 105 2 y.st)):
  Gh n0 tm ⟨(M+3,.row (bF a) 105)::(2,.bv cQ qs 79 2 st)::(1,.row [.vl 2 st 0 qs.length] 39)::(0,.row [.nils] 39)::t,M+4⟩ tm
   ⟨(M+3,.row (bF a) 105)::(2,.bv cQ qs 79 2 st)::(1,.row [.vl 2 st 0 qs.length] 39)::(0,.row [.nils] 39)::(e+3,.bv bF y.ar 105 2 y.st)::rg t (e+3),M+4⟩:=by
 refine Gh.same (V:=⟨_,M+4⟩) _ fun k=>?_;rw[he,aP,if_neg qq0,aP,if_neg qq0,aP,if_neg qq0]at hy;simp only[aP];split;rfl;split;rfl;split;rfl;split;rfl;split
 ·next h=>rw[<-h,hy]
 ·next h=>rw[gt_rg,if_neg h]
theorem QI.upd{st e:Nat}{y:QN}(q:QI l qs M st ((2,.bv cQ qs 79 2 st)::(1,.row [.vl 2 st 0 qs.length] 39)::(0,.row [.nils] 39)::t))(hy:aB qs i=some y)(he:y.nm=e+3)(be:e<M)(a:aR)(z:aR):
  QI (l.set (0+i.toNat) ⟨y.nd.Typex,y.nd.Arcs++[z]⟩) (qs.set (0+i.toNat) ⟨y.ty,e+3,y.st+1,y.ar++[z]⟩) (M+2) st ((M+4,.row [.i6 z.Feat,.i6 z.To] 105)::(M+3,.row (bF a) 105)::(2,.bv cQ (qs.set (0+i.toNat) ⟨y.ty,e+3,y.st+1,y.ar++[z]⟩) 79 2 st)::(1,.row [.vl 2 st 0 qs.length] 39)::(0,.row [.nils] 39)::(e+3,.bv bF (y.ar++[z]) 105 2 (y.st+1))::rg t (e+3)):=by
 obtain⟨h1,h2,h3⟩:=NI hy;have hi:i.toNat<qs.length:=(zG.1 h3).1;have IF:(qs.set (0+i.toNat) ⟨y.ty,e+3,y.st+1,y.ar++[z]⟩).map QN.nm=qs.map QN.nm:=by
  rw[Nat.zero_add,List.map_set];have:(⟨y.ty,e+3,y.st+1,y.ar++[z]⟩:QN).nm=y.nm:=by rw[he]
  rw[this];have hz:(qs.map QN.nm)[i.toNat]? = some y.nm:=by rw[List.getElem?_map,h3];rfl
  obtain⟨a1,b1⟩:=zG.1 hz;rw[<-b1,List.set_getElem_self]
 have xB:∀x∈qs.set (0+i.toNat) ⟨y.ty,e+3,y.st+1,y.ar++[z]⟩,x=⟨y.ty,e+3,y.st+1,y.ar++[z]⟩\/(x∈qs/\x.nm≠e+3):=fun x hx=>by
  obtain⟨j,hj⟩:=List.getElem?_of_mem hx;rw[Nat.zero_add,List.getElem?_set]at hj;by_cases cP:i.toNat=j;rw[if_pos cP]at hj;by_cases aE:i.toNat<qs.length;rw[if_pos aE]at hj;exact .inl (Option.some.inj hj).symm;rw[if_neg aE]at hj;cases hj;rw[if_neg cP]at hj;refine .inr ⟨zX hj,fun hc=>cP ?_⟩;have p1:(qs.map QN.nm)[i.toNat]? = some (e+3):=by rw[List.getElem?_map,h3,<-he];rfl
  have p2:(qs.map QN.nm)[j]? = some (e+3):=by rw[List.getElem?_map,hj,<-hc];rfl
  obtain⟨a1,b1⟩:=zG.1 p1;obtain⟨a2,b2⟩:=zG.1 p2;exact(List.getElem_inj (h₀:=a1) (h₁:=a2) q.nd).1 (by rw[b1,b2])
 refine⟨?_,?_,?_,?_,fun x hx=>?_,fun x hx=>?_,by rw[IF];exact q.nd⟩;rw[List.map_set,q.el];rfl;simp only[aP];rw[if_neg qq0,if_neg qq0,if_neg qq0,if_neg qq0];rfl;simp only[aP];rw[if_neg qq0,if_neg qq0,if_neg qq0,List.length_set];rfl;simp only[aP];rw[if_neg qq0,if_neg qq0];rfl;rcases xB x hx with rfl |⟨hx,cP⟩;simp only[aP];rw[if_neg qq0,if_neg qq0,if_neg qq0,if_neg qq0,if_neg qq0];simp;have l1:=q.lo x hx;have g1:=q.ga x hx;rw[aP,if_neg qq0,aP,if_neg qq0,aP,if_neg qq0]at g1;simp only[aP];rw[if_neg qq0,if_neg qq0,if_neg qq0,if_neg qq0,if_neg qq0,if_neg qq0,gt_rg,if_neg qq0];exact g1;rcases xB x hx with rfl |⟨hx,cP⟩;show 3<=e+3/\e+3<M+2+3;omega;have l1:=q.lo x hx;omega
instance{a:Int}{k:Nat}:DeC cQ [.int .i64 a,.vl k 0 0 0] ⟨a,k,0,[]⟩:=⟨rfl⟩
theorem nilRow{tm:X U}{x:Int}{H:X (Nat×B)}:Gh (M+4) tm ⟨(M+3,.row [.i6 x,.nils] 79)::H,M+4⟩ tm ⟨(M+4,.vec [] 105 2 0)::(M+3,.row [.i6 x,.vl (M+4) 0 0 0] 79)::H,M+5⟩:=by
 have h1:Nat.beq (M+4) (M+3)=false:=by rw[beq_eq];simp
 have h2:Nat.beq (M+3) (M+3)=true:=by rw[beq_eq];simp
 have:=BP (n0:=M+4) (tm:=tm) (V:=⟨(M+3,.row [.i6 x,.nils] 79)::H,M+4⟩) (q:=[.i6 x,.nils]) (e0:=79) (M+3) 1 105 2 qq3 (zF _) (by simp only[gt,h2,zC]) rfl;simp only[newU,ug,h1,h2,zC,zD,List.set]at this;exact this
theorem QI.app{st:Nat}(q:QI l qs M st ((2,.bv cQ qs 79 2 st)::(1,.row [.vl 2 st 0 qs.length] 39)::(0,.row [.nils] 39)::t))(x:Int):
  QI (l++[aO.mk x []]) (qs++[(⟨x,M+4,0,[]⟩:QN)]) (M+2) (st+1) ((M+4,.vec [] 105 2 0)::(M+3,.row [.i6 x,.vl (M+4) 0 0 0] 79)::(2,.bv cQ (qs++[(⟨x,M+4,0,[]⟩:QN)]) 79 2 (st+1))::(1,.row [.vl 2 (st+1) 0 (qs++[(⟨x,M+4,0,[]⟩:QN)]).length] 39)::(0,.row [.nils] 39)::t) where
 el:=by rw[q.el];simp[QN.nd]
 g0:=by simp only[aP];rw[if_neg qq0,if_neg qq0,if_neg qq0,if_neg qq0];rfl
 g1:=by simp only[aP];rw[if_neg qq0,if_neg qq0,if_neg qq0];rfl
 g2:=by simp only[aP];rw[if_neg qq0,if_neg qq0];rfl
 ga:=fun y hy=>by rcases yD.1 hy with hy |hy;have l1:=q.lo y hy;have g1:=q.ga y hy;rw[aP,if_neg qq0,aP,if_neg qq0,aP,if_neg qq0]at g1;simp only[aP];rw[if_neg qq0,if_neg qq0,if_neg qq0,if_neg qq0,if_neg qq0];exact g1;simp at hy;subst hy;simp[aP]
 lo:=fun y hy=>by rcases yD.1 hy with hy |hy;have l1:=q.lo y hy;omega;simp at hy;subst hy;show 3<=M+4/\M+4<M+2+3;omega
 nd:=by rw[List.map_append,List.nodup_append];refine⟨q.nd,by simp,fun a ha b hb=>?_⟩;obtain⟨y,hy,rfl⟩:=List.mem_map.1 ha;simp at hb;subst hb;have:=q.lo y hy;omega
theorem qi0:QI [] [] 0 0 [(2,.bv cQ ([]:X QN) 79 2 0),(1,.row [.vl 2 0 0 (([]:X QN).length)] 39),(0,.row [.nils] 39)]:=⟨rfl,rfl,rfl,rfl,(fun q hq=>by cases hq),(fun q hq=>by cases hq),List.nodup_nil⟩
end Go.Proofs
namespace Go.Proofs
open Go Go.Rx Go.Vx Tryz
instance:TbP prog tb:=⟨tb_ok⟩
set_option maxRecDepth 20000
set_option maxHeartbeats 4000000
set_option synthInstance.maxSize 4000
set_option synthInstance.maxHeartbeats 200000
def Sq(A8:Int)(XN:Int->(X aO)->Y (GFS))(AW:X aO):Y (GFS):=
 XN (IntKind.i64.wrap (A8+1)) AW
def sk(fA:Int)(i7:Int->(X aO)->Y (GFS))(qH:X aO):Y (GFS):=
 i7 (IntKind.i64.wrap (fA+1)) qH
def SM(p1:X aO)(p2:X Int)(n:Nat)(fA:Int)(i7:Int->(X aO)->Y (GFS))(lH:Int):Nat->Int->(X aO)->Y (GFS)
 |0,_,_=>none|m3+1,A8,rC=>
  a8 (aB p1 fA) fun x44=>cond (decide (A8<(x44.Arcs.length:Int))) (a8 (aB p1 fA) fun x47=>
   a8 (aB x47.Arcs A8) fun pY=>
   a8 (Pv n (GFS.mk rC) lH pY.Feat) fun fa=>cond (!fa.2) (a8 (aB rC lH) fun W2=>
    a8 (aB p2 pY.To) fun BT=>
    aF ((W2.Arcs.length+1)*16<=140737488355328/\W2.Arcs.length+1<=140737488355328) (
    a8 (aB rC lH) fun x60=>
    Sq A8 (SM p1 p2 n fA i7 lH m3) (rC.set (0+lH.toNat) (aO.mk x60.Typex (W2.Arcs++[(aR.mk pY.Feat BT)]))))) (Sq A8 (SM p1 p2 n fA i7 lH m3) rC)) (sk fA i7 rC)
def Jq(p2:X Int)(p4:Int)(n:Nat)(pA:X aO):Y (GFS):=
 a8 (aB p2 p4) fun ML=>
 a8 (Ia n (GFS.mk pA) ML) fun fi=>some fi
def LK(p1:X aO)(p2:X Int)(p4:Int)(n:Nat):Nat->Int->(X aO)->Y (GFS)
 |0,_,_=>none|m2+1,fA,kZ=>cond (decide (fA<(p1.length:Int))) (a8 (aB p2 fA) fun lH=>SM p1 p2 n fA (LK p1 p2 p4 n m2) lH n 0 kZ) (Jq p2 p4 n kZ)
def Sp(p1:X aO)(p2:X Int)(p4:Int)(n:Nat)(dA:X aO):Y (GFS):=
 LK p1 p2 p4 n n 0 dA
def Jp(p1:X aO)(p2:X Int)(p3:X Int)(p4:Int)(n:Nat):Nat->Int->(X aO)->Y (GFS)
 |0,_,_=>none|m1+1,eJ,c7=>cond (decide (eJ<(p1.length:Int))) (a8 (aB p3 eJ) fun Ls=>aF ((c7.length+1)*32<=140737488355328/\c7.length+1<=140737488355328) ((Jp p1 p2 p3 p4 n m1) (IntKind.i64.wrap (eJ+1)) (c7++[(aO.mk Ls [])]))) (Sp p1 p2 p4 n c7)
def Rm(n:Nat)(p1:X aO)(p2:X Int)(p3:X Int)(p4:Int):Y (GFS):=
 Jp p1 p2 p3 p4 n n 0 ([]:X aO)
theorem qk6(n:Nat)(p1:X aO)(p2:X Int)(p3:X Int)(p4:Int)(r:GFS)(O:Rm n p1 p2 p3 p4=some r):cY prog 139 [.isl false (p1.map b7),.isl false (p2.map (cI .i64)),.isl false (p3.map (cI .i64)),.int .i64 p4] (.agg [.isl false (r.Nodes.map b7)]):=by
 unfold Rm at O;refine Lg 98 UU ?_;refine gr ?_;refine gr ?_;refine gr ?_;refine dF (tm':=fr 98 [(0,.iM b7 p1),(1,.iM (cI .i64) p2),(2,.iM (cI .i64) p3),(3,.i6 p4),(8,.ptr 0 0 0),(9,.ptr 1 0 0),(10,.i6 0)]) (V':=⟨[(2,.bv cQ ([]:X QN) 79 2 0),(1,.row [.vl 2 0 0 (([]:X QN).length)] 39),(0,.row [.nils] 39)],3⟩) (Gh.trans (BP 1 0 79 2 qq3 NZ rfl rfl) (D7 ⟨rfl,rfl,rfl,rfl,rfl,rfl,rfl,trivial⟩ rfl)) NZ ?_;refine gL (fun m tm V=>∃eJ c7 gT,Jp p1 p2 p3 p4 n m eJ c7=some r/\tm=fr 98 [(0,.iM b7 p1),(1,.iM (cI .i64) p2),(2,.iM (cI .i64) p3),(3,.i6 p4),(8,.ptr 0 0 0),(9,.ptr 1 0 0),(10,.i6 eJ)]/\∃qs M h,QI c7 qs M gT h/\V=⟨h,M+3⟩) (fun tm V=>∃dA fK,Sp p1 p2 p4 n dA=some r/\tm=fr 98 [(0,.iM b7 p1),(1,.iM (cI .i64) p2),(3,.i6 p4),(8,.ptr 0 0 0),(9,.ptr 1 0 0)]/\∃qs M h,QI dA qs M fK h/\V=⟨h,M+3⟩) n ⟨0,([]:X aO),0,O,rfl,[],0,_,qi0,rfl⟩ ?_ ?_;rintro _ _ ⟨dA,fK,O,rfl,qs0,M0,hh0,hq0,rfl⟩;unfold Sp at O;refine go ?_;refine gL (fun m tm V=>∃fA kZ,LK p1 p2 p4 n m fA kZ=some r/\tm=fr 98 [(0,.iM b7 p1),(1,.iM (cI .i64) p2),(3,.i6 p4),(8,.ptr 0 0 0),(9,.ptr 1 0 0),(11,.i6 fA)]/\∃qs M h,QI kZ qs M fK h/\V=⟨h,M+3⟩) (fun tm V=>∃pA,Jq p2 p4 n pA=some r/\tm=fr 98 [(1,.iM (cI .i64) p2),(3,.i6 p4),(8,.ptr 0 0 0),(9,.ptr 1 0 0)]/\∃qs M h,QI pA qs M fK h/\V=⟨h,M+3⟩) n ⟨0,dA,O,rfl,qs0,M0,hh0,hq0,rfl⟩ ?_ ?_ NZ;rintro _ _ ⟨pA,O,rfl,qs,M,h,hq,rfl⟩;unfold Jq at O;have A3:BelS 3 [(1,.iM (cI .i64) p2),(3,.i6 p4),(8,.ptr 0 0 0),(9,.ptr 1 0 0)]:=BS.h;obtain⟨h',e1,e2,e3,e4⟩:=frz (n0:=0) (YD (n:=98) A3) (st:=fK) (N:=qs.length) (nx:=M+3) qs [] h (by simpa using hq.g2) hq.g1 hq.g0 (fun q hx=>⟨hq.ga q hx,(hq.lo q hx).1⟩) hq.nd;rw[List.nil_append,<-hq.el]at e2;have oE:qs.length=pA.length:=by rw[hq.el,yA]
 rw[oE]at e3;refine dF (e1.trans (Gh.three e2 e3 e4 qq0 (YD (n:=98) A3) (by simp[BelB,aG,aT]) (by simp[BelB,aG,aT]) (NM 3 (fun q=>vK 3 q) pA))) NZ ?_;refine gn ?_;refine dF (tm':=fr 98 [(1,.iM (cI .i64) p2),(3,.i6 p4),(8,.ptr 0 0 0),(9,.ptr 1 0 0)]) (V':=⟨[(1,.row [.iM b7 pA] 39),(0,.row [.nils] 39)],3⟩) (Gh.trans (Gh.sub (l':=[(1,.iM (cI .i64) p2),(3,.i6 p4),(8,.ptr 0 0 0),(9,.ptr 1 0 0)]) ⟨rfl,rfl,rfl,rfl,trivial⟩) (JU 2 2)) NZ ?_;obtain⟨ML,EG,fi,sP,O⟩:=bO O;refine go ?_;refine dE [] ?_;refine gd ?_;refine dX EG ?_;refine gd ?_;refine dL rfl (pC (qjv n (GFS.mk pA) ML fi sP)) JB ?_;refine qM ?_;refine bD ⟨by kernel_rfl,trivial,?_⟩;refine go ?_;obtain rfl:=sI O;exact rT (nG (kJ fT.h rfl (bB gZ.h) rfl rfl rfl) (eD)) (uU _ rfl);rintro(_|m2) _ _ ⟨fA,kZ,O,rfl,qs,M,h,hq,rfl⟩;cases O;unfold LK at O;refine gF O ?_ ?_<;>intro tS O;refine go ?_;apply cE;obtain⟨lH,oF,O⟩:=aI O;refine go ?_;refine c8 oF ?_;refine go ?_;refine gL (fun m tm V=>∃A8 rC,SM p1 p2 n fA (LK p1 p2 p4 n m2) lH m A8 rC=some r/\tm=fr 98 [(0,.iM b7 p1),(1,.iM (cI .i64) p2),(3,.i6 p4),(8,.ptr 0 0 0),(9,.ptr 1 0 0),(11,.i6 fA),(12,.i6 lH),(13,.i6 A8)]/\∃qs M h,QI rC qs M fK h/\V=⟨h,M+3⟩) (fun tm V=>∃qH,sk fA (LK p1 p2 p4 n m2) qH=some r/\tm=fr 98 [(0,.iM b7 p1),(1,.iM (cI .i64) p2),(3,.i6 p4),(8,.ptr 0 0 0),(9,.ptr 1 0 0),(11,.i6 fA)]/\∃qs M h,QI qH qs M fK h/\V=⟨h,M+3⟩) n ⟨0,kZ,O,rfl,qs,M,h,hq,rfl⟩ ?_ ?_ NZ;rintro _ _ ⟨qH,O,rfl,qs,M,h,hq,rfl⟩;unfold sk at O;refine go ?_;exact⟨_,_,_,zN _,⟨_,qH,O,rfl,qs,M,h,hq,rfl⟩,NZ,Gh.sub (by((repeat refine⟨rfl,?_⟩);exact trivial))⟩;rintro(_|m3) _ _ ⟨A8,rC,O,rfl,qs,M,h,hq,rfl⟩;cases O;unfold SM at O;obtain⟨x44,sO,O⟩:=aI O;refine go ?_;refine c8 sO ?_;refine gF O ?_ ?_<;>intro Lb O;obtain⟨t,EE,hq⟩:=hq.same (nx:=M+3) (fr 98 [(0,.iM b7 p1),(1,.iM (cI .i64) p2),(3,.i6 p4),(8,.ptr 0 0 0),(9,.ptr 1 0 0),(11,.i6 fA),(12,.i6 lH),(13,.i6 A8)]);refine dF (Gh.sub (l':=[(0,.iM b7 p1),(1,.iM (cI .i64) p2),(3,.i6 p4),(8,.ptr 0 0 0),(9,.ptr 1 0 0),(11,.i6 fA),(12,.i6 lH),(13,.i6 A8)]) (by((repeat refine⟨rfl,?_⟩);exact trivial))) NZ ?_;refine dF EE NZ ?_
 haveI:SuC (M+3) (M+4):=⟨rfl⟩
 haveI:SuC (M+4) (M+5):=⟨rfl⟩
 haveI:Nq (M+1) M:=⟨by rw[beq_eq];simp⟩
 refine go ?_;apply cE;obtain⟨x47,La,pY,Xl,O⟩:=bO O;refine go ?_;refine c8 La ?_;refine go ?_;refine c8 Xl ?_;obtain⟨fa,Dg,O⟩:=aI O;refine go ?_;have hq3:QI rC qs (M+1) fK ((M+3,.row (bF pY) 105)::(2,.bv cQ qs 79 2 fK)::(1,.row [.vl 2 fK 0 qs.length] 39)::(0,.row [.nils] 39)::t):=hq.more (.row (bF pY) 105);obtain⟨Vv,hgv⟩:=hq3.viewG (nx:=M+4) [.i6 lH,.i6 pY.Feat] (by simp[aG,aT]);refine aK rfl (aW.viewT (qrt n (GFS.mk rC) lH pY.Feat fa Dg) m8.h (by simp only[toV,lJ,okL,okC,zC]<;>rfl) (fun m=>by simp[ren,aJ]) hgv) UF ?_;refine gr ?_;refine sQ (fun tm V=>∃AW,Sq A8 (SM p1 p2 n fA (LK p1 p2 p4 n m2) lH m3) AW=some r/\tm=fr 98 [(0,.iM b7 p1),(1,.iM (cI .i64) p2),(3,.i6 p4),(8,.ptr 0 0 0),(9,.ptr 1 0 0),(11,.i6 fA),(12,.i6 lH),(13,.i6 A8)]/\∃qs M h,QI AW qs M fK h/\V=⟨h,M+3⟩) ?_ ?_;rintro _ _ ⟨AW,O,rfl,qs,M,h,hq,rfl⟩;unfold Sq at O;refine go ?_;exact⟨_,_,_,zN _,⟨_,AW,O,rfl,qs,M,h,hq,rfl⟩,NZ,Gh.sub (by((repeat refine⟨rfl,?_⟩);exact trivial))⟩;refine cF O ?_ ?_<;>intro h53 O;obtain⟨W2,U4,BT,Kz,O⟩:=bO O;obtain⟨h59,O⟩:=c6 O;obtain⟨x60,h61,O⟩:=aI O;have hxx:=U4.symm.trans h61;cases hxx;rw[hq.el]at U4;obtain⟨y,hy,rfl⟩:=z9f U4;obtain⟨e,he,be⟩:∃e,y.nm=e+3/\e<M:=by have:=hq.lo y (qzz hy);exact⟨y.nm-3,by omega,by omega⟩
 haveI:Nq (M+1) e:=⟨by rw[beq_eq];simp;omega⟩
 haveI:Nq M e:=⟨by rw[beq_eq];simp;omega⟩
 have Bb:=hq.ga y (qzz hy);refine dF (pullG (a:=pY) he be Bb) NZ ?_;rw[show y.nd.Arcs=y.ar from rfl]at h59;refine gn ?_;refine sQ (fun tm V=>tm=fr 98 [(0,.iM b7 p1),(1,.iM (cI .i64) p2),(3,.i6 p4),(8,.ptr 0 0 0),(9,.ptr 1 0 0),(11,.i6 fA),(12,.i6 lH),(13,.i6 A8)]/\V=⟨(M+4,.row [.i6 pY.Feat,.i6 BT] 105)::(M+3,.row (bF pY) 105)::(2,.bv cQ (qs.set (0+lH.toNat) ⟨y.ty,e+3,y.st+1,y.ar++[aR.mk pY.Feat BT]⟩) 79 2 fK)::(1,.row [.vl 2 fK 0 qs.length] 39)::(0,.row [.nils] 39)::(e+3,.bv bF (y.ar++[aR.mk pY.Feat BT]) 105 2 (y.st+1))::rg t (e+3),M+5⟩) ?_ ?_;rintro _ _ ⟨rfl,rfl⟩;refine go ?_;refine⟨_,_,⟨_,O,rfl,_,M+2,_,hq.upd hy he be pY ⟨pY.Feat,BT⟩,rfl⟩,NZ,Gh.sub (by((repeat refine⟨rfl,?_⟩);exact trivial))⟩;refine dE [(0,17),(0,18),(1,17),(1,18),(2,17),(2,18),(3,17),(4,17),(5,17),(6,17),(7,17),(8,17)] ?_;refine gd ?_;refine aV rfl (dZ rfl rfl (kA cQ iH.h (bB mX.h) qq3 Y3 (vo rfl) hy)) ?_;refine aV rfl (pP u7.h rfl (bB lO.h) rfl (DK rfl) rfl) ?_;refine aV (u:=.vl (e+3) y.st 0 y.ar.length) rfl (F6 cQ fS.h rfl Y3 rfl rfl (AO hy) (by rw[<-he];rfl)) ?_;refine gd ?_;refine dX Kz ?_;refine gd ?_;refine eN ?_;refine eN ?_;refine aV rfl (dZ rfl rfl (kA cQ iH.h (bB mX.h) qq3 Y3 (vo rfl) hy)) ?_;refine aV rfl (pP u7.h rfl (bB lO.h) rfl (DK rfl) rfl) (Fk (u:=.junk) (V':=⟨(M+4,.row [.i6 pY.Feat,.i6 BT] 105)::(M+3,.row (bF pY) 105)::(2,.bv cQ (qs.set (0+lH.toNat) ⟨y.ty,e+3,y.st+1,y.ar++[aR.mk pY.Feat BT]⟩) 79 2 fK)::(1,.row [.vl 2 fK 0 qs.length] 39)::(0,.row [.nils] 39)::(e+3,.bv bF (y.ar++[aR.mk pY.Feat BT]) 105 2 (y.st+1))::rg t (e+3),M+5⟩) rfl (td (y:=(⟨y.ty,e+3,y.st+1,y.ar++[aR.mk pY.Feat BT]⟩:QN)) cQ (bB lO.h) Y3 rfl rfl rfl rfl rfl rfl (AO hy) rfl rfl) rfl ?_);refine bD ⟨by kernel_rfl,⟨pP fT.h rfl (bB E3.h) rfl rfl rfl,⟨pP fT.h rfl (bB E3.h) rfl rfl rfl,⟨yM iH.h rfl rfl rfl rfl,⟨yM iH.h rfl rfl rfl rfl,⟨oD rfl,⟨oD rfl,⟨pP fT.h rfl (bB E3.h) rfl rfl rfl,⟨yM iH.h rfl rfl rfl rfl,⟨oD rfl,⟨dZ rfl rfl (kA cQ iH.h (bB mX.h) qq3 Y3 (vo rfl) hy),⟨pP u7.h rfl (bB lO.h) rfl (DK rfl) rfl,⟨F6 cQ fS.h rfl Y3 rfl rfl (AO hy) (by rw[<-he];rfl),trivial⟩⟩⟩⟩⟩⟩⟩⟩⟩⟩⟩⟩,?_⟩;refine go ?_;exact⟨_,_,⟨rfl,rfl⟩,NZ,Gh.sub (by((repeat refine⟨rfl,?_⟩);exact trivial))⟩;refine go ?_;exact⟨_,_,⟨rC,O,rfl,qs,M+1,_,hq3,rfl⟩,NZ,Gh.sub (by((repeat refine⟨rfl,?_⟩);exact trivial))⟩;refine go ?_;exact⟨_,_,⟨rC,O,rfl,qs,M,h,hq,rfl⟩,NZ,Gh.sub (by((repeat refine⟨rfl,?_⟩);exact trivial))⟩;refine go ?_;exact⟨_,_,⟨kZ,O,rfl,qs,M,h,hq,rfl⟩,NZ,Gh.sub (by((repeat refine⟨rfl,?_⟩);exact trivial))⟩;rintro(_|m1) _ _ ⟨eJ,c7,gT,O,rfl,qs,M,h,hq,rfl⟩;cases O;unfold Jp at O;refine gF O ?_ ?_<;>intro Xj O;obtain⟨t,EE,hq⟩:=hq.same (nx:=M+3) (fr 98 [(0,.iM b7 p1),(1,.iM (cI .i64) p2),(2,.iM (cI .i64) p3),(3,.i6 p4),(8,.ptr 0 0 0),(9,.ptr 1 0 0),(10,.i6 eJ)]);refine dF (Gh.sub (l':=[(0,.iM b7 p1),(1,.iM (cI .i64) p2),(2,.iM (cI .i64) p3),(3,.i6 p4),(8,.ptr 0 0 0),(9,.ptr 1 0 0),(10,.i6 eJ)]) (by((repeat refine⟨rfl,?_⟩);exact trivial))) NZ ?_;refine dF EE NZ ?_
 haveI:SuC (M+3) (M+4):=⟨rfl⟩
 haveI:Nq (M+1) M:=⟨by rw[beq_eq];simp⟩
 refine go ?_;apply cE;obtain⟨Ls,vR,O⟩:=aI O;obtain⟨h65,O⟩:=c6 O;rw[show c7.length=qs.length by rw[hq.el,yA]]at h65;refine go ?_;refine dE [(0,7),(1,7)] ?_;refine gd ?_;refine dX vR ?_;refine gd ?_;refine RD.fz (u1:=.sl (M+3) 0 1 1) (u:=.sl (M+3) 0 1 1) (s1:=⟨(M+3,.row [.i6 Ls,.nils] 79)::(2,.bv cQ qs 79 2 gT)::(1,.row [.vl 2 gT 0 qs.length] 39)::(0,.row [.nils] 39)::t,M+4⟩) rfl Go.Vx.opz nilRow (by show M+4<=M+5;omega) rfl rfl ?_;refine eN ?_;refine gd ?_;refine qM ?_;refine bD ⟨by kernel_rfl,⟨pP fT.h rfl (bB E3.h) rfl rfl rfl,⟨yM iH.h rfl rfl rfl rfl,trivial⟩⟩,?_⟩;refine go ?_;exact⟨_,_,_,zN _,⟨_,(c7++[(aO.mk Ls [])]),(gT+1),O,rfl,_,M+2,_,hq.app Ls,rfl⟩,NZ,Gh.sub (by((repeat refine⟨rfl,?_⟩);exact trivial))⟩;refine go ?_;exact⟨_,_,⟨c7,gT,O,rfl,qs,M,h,hq,rfl⟩,NZ,Gh.sub (by((repeat refine⟨rfl,?_⟩);exact trivial))⟩
end Go.Proofs
