import Derived.Test.YtmflfedkfdkipaaGreatP15
set_option linter.all false
namespace Go.Proofs
open Go Go.Rx Go.Vx Tryz
set_option maxRecDepth 20000
set_option maxHeartbeats 4000000
set_option synthInstance.maxSize 4000
set_option synthInstance.maxHeartbeats 200000
def DZ{v12 β:Type}(f:v12->V β):X v12->V (X β)
 |[]=>some []|a::l=>a8 (f a) fun b=>a8 (DZ f l) fun bs=>some (b::bs)
theorem Pf{v12 β:Type}{f:v12->V β}:∀{l:X v12}{bs:X β},DZ f l=some bs->bs.length=l.length/\∀(i:Nat)(a:v12),l[i]? = some a->∃b,bs[i]? = some b/\f a=some b
 |[],bs,h=>by obtain rfl:=sI h;exact⟨rfl,fun i a h=>by simp at h⟩
 |a::l,bs,h=>by
  obtain⟨b,hb,h⟩:=aI h;obtain⟨bs',hbs,h⟩:=aI h;obtain rfl:=sI h;obtain⟨h1,h2⟩:=Pf hbs;refine⟨by simp[h1],fun i c hc=>?_⟩;cases i with
  |zero=>simp at hc;subst hc;exact⟨b,rfl,hb⟩|succ i=>simp at hc;obtain⟨d,h3,h4⟩:=h2 i c hc;exact⟨d,by simpa using h3,h4⟩
def qx(n0 len:Nat)(a:aR):V eC:=cond (decide (0<=a.To/\a.To<(len:Int))) (some ⟨a.Feat,n0+a.To.toNat⟩) none
variable{n0:Nat}
variable{len:Nat}
theorem f?{a:aR}{b:eC}(h:qx n0 len a=some b):0<=a.To/\a.To<(len:Int)/\b=⟨a.Feat,n0+a.To.toNat⟩:=by unfold qx at h;rcases hd:decide (0<=a.To/\a.To<(len:Int))with _|_;rw[hd]at h;cases h;rw[hd]at h;have:=of_decide_eq_true hd;exact⟨this.1,this.2,(sI h).symm⟩
def SQ(n0 len:Nat)(x:aO):V PN:=aF (x.Arcs.length<=1000000) (a8 (DZ (qx n0 len) x.Arcs) fun l=>some (gO x.Typex l))
def yE(P:PP)(f:GFS):V (Int×PP):=
 aF (0<f.Nodes.length/\f.Nodes.length<=1000000/\P.roots.length<=1000000) (a8 (DZ (SQ P.N.length f.Nodes.length) f.Nodes) fun L=>some ((P.roots.length:Int),{ P with N:=P.N++L,size:=IntKind.i64.wrap (P.size+f.Nodes.length),roots:=P.roots++[P.N.length] }))
def KJ(x:PN):PN:=gO x.kind []
def uY(N L:X PN)(t:Nat):X PN:=N++(L.take t++(L.drop t).map KJ)
theorem z61(N L:X PN)(t:Nat):(uY N L t).length=N.length+L.length:=by simp[uY];omega
variable{N:X PN}
variable{t:Nat}
theorem z60{L:X PN}{x:PN}(h:L[t]? = some x):(uY N L t)[N.length+t]? = some (KJ x):=by have ht:=(zG.1 h).1;unfold uY;rw[List.getElem?_append_right qq0,show N.length+t-N.length=t by omega,List.getElem?_append_right (by simp;omega)];simp;rw[Nat.min_eq_left qq0,Nat.sub_self,Nat.add_zero];exact⟨x,h,rfl⟩
theorem z62{L:X PN}{x:PN}(h:L[t]? = some x):(uY N L t).set (N.length+t) x=uY N L (t+1):=by
 have ht:=(zG.1 h).1;have e:L.drop t=x::L.drop (t+1):=by rw[List.drop_eq_getElem_cons ht];rw[List.getElem?_eq_getElem ht]at h;cases h;rfl
 unfold uY;rw[List.set_append_right _ _ qq0,show N.length+t-N.length=t by omega,List.set_append_right _ _ (by simp;omega),e];congr 1;simp only[List.length_take,Nat.min_eq_left (Nat.le_of_lt ht),Nat.sub_self,zQ,List.set_cons_zero];rw[List.take_add_one,h];simp
def nC(nm:Nat->Nat)(o:V Nat):X U:=[po nm o]
def lZ(n0 len t:Nat):X (V Nat):=(List.range len).map fun i=>if i<t then some (n0+i)else none
theorem RZ{i:Nat}(h:i<len):(lZ n0 len t)[i]? = some (if i<t then some (n0+i)else none):=by simp[lZ,h]
theorem z5z(h:t<len):(lZ n0 len t).set t (some (n0+t))=lZ n0 len (t+1):=by apply List.ext_getElem?;intro i;rw[List.getElem?_set];by_cases e:t=i;subst e;rw[if_pos rfl,if_pos (by simp[lZ,h]),RZ h,if_pos (zN _)];rw[if_neg e];by_cases hi:i<len;rw[RZ hi,RZ hi];by_cases h2:i<t;rw[if_pos h2,if_pos qq0];rw[if_neg h2,if_neg qq0];rw[List.getElem?_eq_none (by simp[lZ];omega),List.getElem?_eq_none (by simp[lZ];omega)]
theorem z1o(n0 len:Nat):lZ n0 len 0=List.replicate len none:=by apply List.ext_getElem?;intro i;by_cases hi:i<len;rw[RZ hi];simp[hi];rw[List.getElem?_eq_none (by simp[lZ];omega),List.getElem?_eq_none (by simp;omega)]
section
variable{kp kr st:Nat}{nm:Nat->Nat}{P:PP}{h:X (Nat×B)}{nx:Nat}
theorem pX.more{nm1:Nat->Nat}{N:X PN}{s:Int}{c:Nat}{H:X (Nat×B)}{M:Nat}(m:pX kp kr st nm P h nx nm1 N s c H M)(hw:oH ⟨H,M⟩)(b:B):pX kp kr st nm P h nx nm1 N s c ((M,b)::H) (M+1):=
 ⟨m.ph.more fun k c hc=>by rw[jE (hw k c hc).1];exact hc,m.nmE,m.new,fun k k1 k2 k3=>by rw[jE (Nat.lt_of_lt_of_le k1 m.le)];exact m.fr k k1 k2 k3,Nat.le_succ_of_le m.le,m.len,m.cl⟩
theorem pX.add{nm1:Nat->Nat}{N:X PN}{s:Int}{c:Nat}{H:X (Nat×B)}{M:Nat}(m:pX kp kr st nm P h nx nm1 N s c H M)(hw:oH ⟨H,M⟩)(hc:c<=N.length)(k:Int):pX kp kr st nm P h nx (uA nm1 N.length M) (N++[gO k []]) s c ((M,.row (qV (uA nm1 N.length M) (gO k []) .nils) 103)::H) (M+1):=by
 refine⟨m.ph.add hw hc k (by simp[aP]) (fun k b hb=>by rw[jE (hw k b hb).1];exact hb),fun k hk=>by rw[vE k (Nat.lt_of_lt_of_le hk m.len)];exact m.nmE k hk,fun k ha hb=>?_,fun k k1 k2 k3=>by rw[jE (Nat.lt_of_lt_of_le k1 m.le)];exact m.fr k k1 k2 k3,Nat.le_succ_of_le m.le,by simp;exact Nat.le_succ_of_le m.len,m.cl⟩;rw[zU]at hb;rcases Nat.lt_or_ge k N.length with h9 |h9;rw[vE k h9];exact m.new k ha h9;have:k=N.length:=by simp at hb;omega
 subst this;rw[Y7];exact m.le
theorem pX.oth{nm1:Nat->Nat}{s:Int}{c:Nat}{H:X (Nat×B)}{M K:Nat}{q:X U}(m:pX kp kr st nm P h nx nm1 N s c H M)(hK:nx<=K)(hg:gt H K=some (.row q 92))(b:B):pX kp kr st nm P h nx nm1 N s c (ug H K b) M:=by
 have cR:∀k b',gt H k=some b'->(∀q,b'≠.row q 92)->gt (ug H K b) k=some b':=fun k b' hk hn=>by rw[bS,if_neg fun e=>?_];exact hk;rw[<-e,hg]at hk;exact hn q (Option.some.inj hk).symm
 refine⟨⟨cR _ _ m.ph.pool qq4,cR _ _ m.ph.roots qq4,fun i x hx hi=>cR _ _ (m.ph.node i x hx hi) qq4,fun i x hx hi=>⟨cR _ _ (m.ph.pend i x hx hi).1 qq4,(m.ph.pend i x hx hi).2⟩,m.ph.inj,m.ph.wf,m.ph.rt⟩,m.nmE,m.new,fun k k1 k2 k3=>?_,m.le,m.len,m.cl⟩;rw[bS,if_neg qq0];exact m.fr k k1 k2 k3
theorem qyw{nm':Nat->Nat}{n:Nat}(hn:∀k,k<n->nm' k=nm k)(ht:n0+t<=n):(lZ n0 len t).map (nC nm')=(lZ n0 len t).map (nC nm):=by refine List.map_congr_left fun o ho=>?_;simp only[lZ,List.mem_map]at ho;obtain⟨i,_,rfl⟩:=ho;by_cases hi:i<t;rw[if_pos hi];simp only[nC,po,pt,hn (n0+i) qq0];rw[if_neg hi];rfl
theorem ZJ(p:PH kp kr st nm P h){f:GFS}{r:Int×PP}(O:yE P f=some r):
  aW prog 18 [.ptr kp 0 0,.agg (kI f)] ⟨h,nx⟩ (fun u Y'=>u=.i6 r.1/\Y'=⟨cH kp kr (st+1) (jH nm P.N.length nx) r.2 h,nx+(r.2.N.length-P.N.length)⟩):=by
 refine aW.wf fun tA _=>?_;obtain⟨⟨FS,FR,OS⟩,O⟩:=c6 O;obtain⟨L,hL,O⟩:=aI O;obtain rfl:=sI O;obtain⟨mH,bn⟩:=Pf hL
 haveI:SuC nx (nx+1):=⟨rfl⟩
 haveI:SuC (nx+1) (nx+2):=⟨rfl⟩
 refine eL 99 IX ?_;refine goN ?_;refine RS.w rfl (Oe (c:=nC nm) (none:V Nat) rfl rfl gX.h iO.h rfl rfl rfl rfl ⟨by omega,by omega,by omega⟩) ?_;change RU _ _ _ _ _ (Sg.mk ((nx+1,.row ((List.replicate f.Nodes.length (none:V Nat)).map (nC nm)).flatten 92)::(nx,.row (kI f) 39)::h) (nx+2)) _
 haveI:Nq (nx+1) nx:=⟨by rw[beq_eq];simp⟩
 refine goN ?_;have hPN:P.N++(L.take 0).map KJ=P.N:=by simp
 have c0:pX kp kr st nm P h nx nm (P.N++(L.take 0).map KJ) P.size P.N.length ((nx+1,.row ((lZ P.N.length f.Nodes.length 0).map (nC nm)).flatten 92)::(nx,.row (kI f) 39)::h) (nx+2):=by rw[hPN];refine⟨p.pq.more fun k b hb=>?_,fun _ _=>rfl,fun k a b=>qq0,fun k k1 _ _=>?_,by omega,zF _,zF _⟩;have:k<nx:=(tA k b hb).1;rw[aP,if_neg qq0,aP,if_neg qq0];exact hb;rw[aP,if_neg qq0,aP,if_neg qq0]
 refine WPU.eqv rfl (Y':=⟨(nx+1,.row ((lZ P.N.length f.Nodes.length 0).map (nC nm)).flatten 92)::(nx,.row (kI f) 39)::h,nx+2⟩) (by rw[z1o]) ?_;refine gL (fun m tm Y=>∃(t:Nat)(nm1:Nat->Nat)(H:X (Nat×B))(M:Nat),m=f.Nodes.length-t/\t<=f.Nodes.length/\tm=fr 99 [(0,.ptr kp 0 0),(3,.ptr nx 0 0),(5,.sl (nx+1) 0 f.Nodes.length f.Nodes.length),(17,.iM b7 f.Nodes),(18,.i6 f.Nodes.length),(19,.i6 t)]/\Y=⟨H,M⟩/\pX kp kr st nm P h nx nm1 (P.N++(L.take t).map KJ) P.size P.N.length H M/\gt H (nx+1)=some (.row ((lZ P.N.length f.Nodes.length t).map (nC nm1)).flatten 92)/\gt H nx=some (.row (kI f) 39)/\nx+1<M)
  (fun tm Y=>∃(nm1:Nat->Nat)(H:X (Nat×B))(M:Nat),tm=fr 99 [(0,.ptr kp 0 0),(3,.ptr nx 0 0),(5,.sl (nx+1) 0 f.Nodes.length f.Nodes.length)]/\Y=⟨H,M⟩/\pX kp kr st nm P h nx nm1 (uY P.N L 0) P.size P.N.length H M/\gt H (nx+1)=some (.row ((lZ P.N.length f.Nodes.length f.Nodes.length).map (nC nm1)).flatten 92)/\gt H nx=some (.row (kI f) 39)/\nx+1<M) f.Nodes.length
  ⟨0,nm,_,nx+2,rfl,Nat.zero_le _,rfl,rfl,c0,by rw[aP,if_pos rfl],by rw[aP,if_neg qq0,aP,if_pos rfl],zN _⟩ ?_ ?_ (by show nx<=nx+2;omega)
 ·rintro _ _ ⟨nm1,H,M,rfl,rfl,hm,uK,TU,hM⟩
  haveI:eE H nx (.row [.iM b7 f.Nodes] 39):=⟨TU⟩
  refine goN ?_;refine gL (fun m tm Y=>∃(t:Nat)(H:X (Nat×B))(M:Nat),m=f.Nodes.length-t/\t<=f.Nodes.length/\tm=fr 99 [(0,.ptr kp 0 0),(5,.sl (nx+1) 0 f.Nodes.length f.Nodes.length),(33,.iM b7 f.Nodes),(34,.i6 f.Nodes.length),(35,.i6 t)]/\Y=⟨H,M⟩/\pX kp kr st nm P h nx nm1 (uY P.N L t) P.size (P.N.length+t) H M/\gt H (nx+1)=some (.row ((lZ P.N.length f.Nodes.length f.Nodes.length).map (nC nm1)).flatten 92)/\nx+1<M)
   (fun tm Y=>∃(H:X (Nat×B))(M:Nat),tm=fr 99 [(0,.ptr kp 0 0),(5,.sl (nx+1) 0 f.Nodes.length f.Nodes.length)]/\Y=⟨H,M⟩/\pX kp kr st nm P h nx nm1 (P.N++L) P.size (P.N.length+L.length) H M/\gt H (nx+1)=some (.row ((lZ P.N.length f.Nodes.length f.Nodes.length).map (nC nm1)).flatten 92)/\nx+1<M) f.Nodes.length
   ⟨0,H,M,rfl,Nat.zero_le _,rfl,rfl,hm,uK,hM⟩ ?_ ?_ hm.le
  rintro _ _ ⟨H,M,rfl,rfl,hm,uK,hM⟩;refine WPU.wf fun fM _=>?_;have Cc:live (Sg.mk H M) (nx+1) 0=true:=by simp[live,uK,B.st]
  have ID:=hm.ph.ph (Nat.le_of_eq qq4)
  haveI:=ID.gp
  haveI:SuC M (M+1):=⟨rfl⟩
  refine goN ?_;refine RS.w rfl (H5 rfl rfl rfl (z7s gX.h Cc)) ?_;refine goN ?_
  let sz:Int:=IntKind.i64.wrap (P.size+(f.Nodes.length:Nat))
  let P2:PP:={ P with N:=P.N++L,size:=sz }
  let H2:X (Nat×B):=ug H kp (.row (rW kr st P2) 83)
  have nL:PH kp kr st nm1 P2 H2:=ID.setP sz P.gen (by simp only[H2];rw[bS,if_pos rfl,ID.pool];rfl) fun k b hb hk=>by simp only[H2];rw[bS,if_neg (Ne.symm hk)];exact hb
  have tC:kp<M:=(fM _ _ ID.pool).1;have CP:kr<M:=(fM _ _ ID.roots).1;have hlx:kp≠nx+1:=fun e=>by have:=ID.pool;rw[e,uK]at this;simp at this
  have hlr:kr≠nx+1:=fun e=>by have:=ID.roots;rw[e,uK]at this;cases this
  have xF:gt H2 (nx+1)=some (.row ((lZ P.N.length f.Nodes.length f.Nodes.length).map (nC nm1)).flatten 92):=by simp only[H2];rw[bS,if_neg hlx];exact uK
  have Ca:live (Sg.mk H2 M) (nx+1) 0=true:=by simp[live,xF,B.st]
  have kR:i9 (lZ P.N.length f.Nodes.length f.Nodes.length) 0 f.Nodes.length 0=some (some P.N.length):=by rw[i9,if_pos ⟨by omega,by omega⟩];simp only[Int.toNat_zero,Nat.zero_add];rw[RZ FS,if_pos FS];simp
  change WPU _ _ _ _ (Sg.mk H2 M) _
  haveI:=nL.gp
  haveI:Nq M kp:=⟨by rw[beq_eq];simp;omega⟩
  haveI:Nq M kr:=⟨by rw[beq_eq];simp;omega⟩
  refine dE [(0,8),(0,9),(1,8),(2,8),(3,8),(4,8)] ?_;refine cM ?_;refine aV rfl (dZ rfl rfl (sW (Y:=⟨H2,M⟩) gX.h (bB iO.h) Ca kR)) (aV (u:=pt nm1 P.N.length) rfl (C2 (Y:=⟨H2,M⟩) (nC nm1) (po nm1) gW.h rfl (fun _=>rfl) rfl xF kR) ?_);refine cM ?_;refine eN ?_;have uL:gt ((M,.row [pt nm1 P.N.length] 92)::H2) kr=some (.vec (P.roots.map (dW nm1)).flatten 92 1 st):=by rw[aP,if_neg qq0];exact nL.roots
  have eZ:rowOf (Sg.mk ((M,.row [pt nm1 P.N.length] 92)::H2) (M+1)) M=some [pt nm1 P.N.length]:=by simp[rowOf,aP]
  refine RD.act rfl (pQ rfl rfl rfl rfl (DN (dW nm1) [P.N.length] gX.h gX.h iO.h rfl (fun _=>rfl) uL (FE (dW nm1) [P.N.length] (q:=[pt nm1 P.N.length]) eZ rfl rfl rfl) ⟨by show(P.roots.length+1)*_<=_;omega,by show P.roots.length+1<=_;omega⟩)) rfl rfl ?_;have Wn:eE (ug ((M,.row [pt nm1 P.N.length] 92)::H2) kr (.vec (List.map (dW nm1) (P.roots++[P.N.length])).flatten 92 1 (st+1))) kp (.row [.iM jW P2.H.Types,.iM mN P2.H.Feats,.vl kr st 0 P2.roots.length,.i6 P2.size,.i6 P2.gen] 83):=⟨by rw[bS,if_neg nL.krp,aP,if_neg qq0];exact nL.pool⟩
  haveI:=Wn
  refine cM ?_;refine qM ?_;refine bC ⟨by kernel_rfl,⟨opm,opm,opm,opm,opm,opm,trivial⟩,?_⟩
  let v08:B:=.vec (List.map (dW nm1) (P.roots++[P.N.length])).flatten 92 1 (st+1)
  let P3:PP:={ P with N:=P.N++L,size:=sz,roots:=P.roots++[P.N.length] }
  let T:X (Nat×B):=(M,.row [pt nm1 P.N.length] 92)::H2
  let T2:X (Nat×B):=ug (ug T kr v08) kp (.row (rW kr (st+1) P3) 83)
  have hT:∀k,k≠kp->k≠kr->k<M->gt T2 k=gt H k:=fun k k1 k2 k3=>by simp only[T2,T,H2];rw[bS,if_neg (Ne.symm k1),bS,if_neg (Ne.symm k2),aP,if_neg qq0,bS,if_neg (Ne.symm k1)]
  have p5:PH kp kr (st+1) nm1 P3 T2:=by refine⟨?_,?_,fun i x hx=>?_,nL.inj,nL.wf,fun r hr=>?_⟩;simp only[T2];rw[bS,if_pos rfl,Wn.h];rfl;simp only[T2];rw[bS,if_neg (Ne.symm nL.krp),bS,if_pos rfl];simp only[T];rw[uL];rfl;have hi:=oB hx;rw[hT _ (ID.kpn hi) (ID.krn hi) (ID.lt fM hi)];exact ID.node i x hx;rcases yD.1 hr with hr |hr;exact nL.rt r hr;simp at hr;subst hr;show P.N.length<(P.N++L).length;simp;omega
  change WPU _ _ _ _ (Sg.mk T2 (M+1)) _
  haveI:=p5.gp
  haveI:=p5.gr
  refine goN ?_;have kP:IntKind.i64.wrap (((P.roots++[P.N.length]).length:Int)-1)=P.roots.length:=by rw[zU,oZ qq4 (by simp;omega)];simp
  refine qy rfl rfl rfl (Nat.le_add_right _ _) (canon (P1:=P3) (nm1:=nm1) (tm':=[.i6 P.roots.length]) p tA p5 (by show P.N.length<=(P.N++L).length;simp) hm.nmE hm.new (fun k k1 k2 k3 k4=>?_) ?_ (by simp[aG,aT])) ⟨rfl,rfl⟩;have k1':k<nx:=k1;rw[hT k k2 k3 (by have:=hm.le;omega)];exact hm.fr k k1 k2 k4;simp only[fB,rU];rw[<-kP];rintro _ _ _ ⟨t,H,M,rfl,ht,rfl,rfl,hm,uK,hM⟩;refine WPU.wf fun fM _=>?_
  haveI:SuC M (M+1):=⟨rfl⟩
  refine goN ?_;refine eG rfl (fun h7=>?_) (fun h7=>?_)
  ·have eW:t<f.Nodes.length:=by simpa using h7
   obtain⟨x,hx⟩:∃a,f.Nodes[t]? = some a:=⟨_,List.getElem?_eq_getElem eW⟩;obtain⟨y,hy,nK⟩:=bn t x hx;obtain⟨lU,nK⟩:=c6 nK;obtain⟨l2,hl2',nK⟩:=aI nK;obtain⟨Wa,Wb⟩:=Pf hl2';have jX:aB f.Nodes (t:Int)=some x:=by rw[aB,if_pos ⟨by omega,by omega⟩];simpa using hx
   have kP:IntKind.i64.wrap ((t:Int)+1)=((t+1:Nat):Int):=by rw[oZ qq0 qq0];rfl
   refine goN ?_;apply cE;refine goN ?_;refine cB jX ?_;refine goN ?_;obtain rfl:=sI nK
   let q:=P.N.length+t
   have hq:(uY P.N L t)[q]? = some (gO x.Typex []):=z60 hy;have Bt:q<(uY P.N L t).length:=oB hq;obtain⟨LQ,_⟩:=hm.ph.pend q _ hq (zF _);have LQ:gt H (nm1 q)=some (.row (qV nm1 (gO x.Typex []) .nils) 103):=LQ;have hqM:nm1 q<M:=(fM _ _ LQ).1;have tC:kp<M:=(fM _ _ hm.ph.pool).1;have Bs:nm1 q≠kp:=hm.ph.kpn Bt;have hqx:nm1 q≠nx+1:=fun e=>by rw[e,uK]at LQ;simp at LQ
   have Uv:gt ((M,.row (b7 x) 79)::H) (nm1 q)=some (.row (qV nm1 (gO x.Typex []) .nils) 103):=by rw[aP,if_neg qq0];exact LQ
   refine dF (BO (Y:=⟨(M,.row (b7 x) 79)::H,M+1⟩) (nm1 q) 1 107 2 qq3 (Nat.le_succ_of_le hm.le) Uv rfl) (Nat.le_succ_of_le (Nat.le_succ_of_le hm.le)) ?_;refine gL (fun m tm Y=>∃(j:Nat)(s:Nat)(H':X (Nat×B))(M':Nat),m=x.Arcs.length-j/\j<=x.Arcs.length/\tm=fr 99 [(0,.ptr kp 0 0),(5,.sl (nx+1) 0 f.Nodes.length f.Nodes.length),(8,.i6 t),(33,.iM b7 f.Nodes),(34,.i6 f.Nodes.length),(35,.i6 t),(41,.iM bF x.Arcs),(42,.i6 x.Arcs.length),(43,.i6 j)]/\Y=⟨H',M'⟩/\M+1<M'/\gt H' (M+1)=some (.bv (bX nm1) (l2.take j) 107 2 s)/\gt H' (nm1 q)=some (.row (qV nm1 (gO x.Typex []) (.vl (M+1) s 0 (l2.take j).length)) 103)/\∀k,k<M->k≠nm1 q->gt H' k=gt H k)
    (fun tm Y=>∃(s:Nat)(H':X (Nat×B))(M':Nat),tm=fr 99 [(0,.ptr kp 0 0),(5,.sl (nx+1) 0 f.Nodes.length f.Nodes.length),(33,.iM b7 f.Nodes),(34,.i6 f.Nodes.length),(35,.i6 t)]/\Y=⟨H',M'⟩/\M+1<M'/\gt H' (M+1)=some (.bv (bX nm1) l2 107 2 s)/\gt H' (nm1 q)=some (.row (qV nm1 (gO x.Typex []) (.vl (M+1) s 0 l2.length)) 103)/\∀k,k<M->k≠nm1 q->gt H' k=gt H k) x.Arcs.length
    ⟨0,0,_,M+2,rfl,Nat.zero_le _,rfl,rfl,zN _,by rw[bS,if_neg qq0];simp[newU,aP],by rw[bS,if_pos rfl];simp only[newU];rw[aP,if_neg qq0,Uv];rfl,fun k hk jS=>by rw[bS,if_neg (Ne.symm jS)];simp only[newU];rw[aP,if_neg qq0,aP,if_neg qq0]⟩ ?_ ?_ (Nat.le_succ_of_le (Nat.le_succ_of_le hm.le))
   ·rintro _ _ ⟨s,H',M',rfl,rfl,Xg,hv,yT,fG⟩;refine goN ?_;have CW:∀k,k<(uY P.N L t).length->nm1 k<M:=fun k hk=>hm.ph.lt fM hk;have gtfz:∀k,k<M->k≠nm1 q->gt (fzH (M+1) (.bv (bX nm1) l2 107 2 s) 2 H') k=gt H k:=fun k hk jS=>by rw[AO,if_neg qq0,fG k hk jS];rcases hq:gt H k with _|b';rfl;simp only[zM];rw[Hb _ _ (Hg (Nat.le_succ M) (fM k b' hq).2)]
    have pS:∀a∈l2,a.to<(uY P.N L t).length:=fun b hb=>by
     obtain⟨j,hj⟩:=List.getElem?_of_mem hb;have iD:j<x.Arcs.length:=by rw[<-Wa];exact(zG.1 hj).1
     obtain⟨b',h1,h2⟩:=Wb j _ (List.getElem?_eq_getElem iD);rw[hj]at h1;cases h1;obtain⟨h3,h4,h5⟩:=f? h2;rw[h5,z61,mH];show P.N.length+_<_;omega
    have FW:pX kp kr st nm P h nx nm1 (uY P.N L (t+1)) P.size (P.N.length+(t+1)) (fzH (M+1) (.bv (bX nm1) l2 107 2 s) 2 H') M':=by rw[<-z62 hy];refine⟨hm.ph.upd hq (show P.N.length+t<P.N.length+(t+1) by omega) (fun j hj=>by have:j≠P.N.length+t:=hj;omega) ⟨pS,trivial,nofun,trivial⟩ ?_ fun k b hb hk=>by rw[gtfz k (fM k b hb).1 hk];exact hb,hm.nmE,fun k a b=>hm.new k a (by simpa using b),fun k a b e=>?_,by have:=hm.le;omega,by simpa using hm.len,by omega⟩;show gt _ (nm1 q)=_;rw[AO,if_neg qq0,yT];have e1:=GX (c:=bX nm1) (sz:=2) (fun _=>rfl) l2 (M+1) 2 107 s;simp only[zM,fzB,qV,gO,po,sZ,vF,DL,H6,KY];rw[e1];rfl;rw[gtfz k (by have:=hm.le;omega) fun e2=>by have:=hm.new q (Nat.le_add_right _ _) Bt;omega];exact hm.fr k a b e
    refine⟨f.Nodes.length-(t+1),_,_,by omega,⟨t+1,_,M',rfl,eW,rfl,rfl,FW,?_,by omega⟩,by have:=hm.le;show nx<=M';omega,Gh.trans (Gh.sub ?_) (Gh.fz (Y:=⟨H',M'⟩) (M+1) (.bv (bX nm1) l2 107 2 s) 2 hv nofun (tP _ _ _ (YD ?_)) rfl)⟩;rw[gtfz (nx+1) hM (Ne.symm hqx)];exact uK
    ·rw[<-kP];(repeat refine⟨rfl,?_⟩);exact trivial
    simp only[BelS,aT,and_true,true_and];exact⟨by omega,by omega,sJ _ (fun q=>vJ _ q) _⟩
   rintro _ _ _ ⟨j,s,H',M',rfl,hj,rfl,rfl,Xg,hv,yT,fG⟩
   haveI:SuC M' (M'+1):=⟨rfl⟩
   haveI:SuC (M'+1) (M'+2):=⟨rfl⟩
   refine goN ?_;refine eG rfl (fun h9=>?_) (fun h9=>?_)
   ·have iD:j<x.Arcs.length:=by simpa using h9
    obtain⟨a,ha⟩:∃a,x.Arcs[j]? = some a:=⟨_,List.getElem?_eq_getElem iD⟩;obtain⟨b,hb,PJ⟩:=Wb j a ha;obtain⟨ha1,ha2,rfl⟩:=f? PJ;have BG:aB x.Arcs (j:Int)=some a:=by rw[aB,if_pos ⟨by omega,by omega⟩];simpa using ha
    have B4:IntKind.i64.wrap ((j:Int)+1)=((j+1:Nat):Int):=by rw[oZ qq0 qq0];rfl
    have Bi:l2.take (j+1)=l2.take j++[⟨a.Feat,P.N.length+a.To.toNat⟩]:=by rw[List.take_add_one,hb];rfl
    have Vf:(l2.take j).length=j:=by rw[List.length_take,Nat.min_eq_left qq0]
    have hxM:nx+1<M:=hM
    let A0:X (Nat×B):=(M',.row (bF a) 105)::H'
    have Cl:∀{A:X (Nat×B)},gt A (nx+1)=gt H' (nx+1)->gt A (nx+1)=some (.row ((lZ P.N.length f.Nodes.length f.Nodes.length).map (nC nm1)).flatten 92):=fun e=>by rw[e,fG _ hxM (Ne.symm hqx)];exact uK
    have kR:i9 (lZ P.N.length f.Nodes.length f.Nodes.length) 0 f.Nodes.length (t:Int)=some (some q):=by rw[i9,if_pos ⟨by omega,by omega⟩];simp only[zZ,Nat.zero_add];rw[RZ eW,if_pos eW]
    have Wj:i9 (lZ P.N.length f.Nodes.length f.Nodes.length) 0 f.Nodes.length a.To=some (some (P.N.length+a.To.toNat)):=by rw[i9,if_pos ⟨ha1,ha2⟩];simp only[Nat.zero_add];rw[RZ qq0,if_pos qq0]
    have OX:gt A0 (nx+1)=some (.row ((lZ P.N.length f.Nodes.length f.Nodes.length).map (nC nm1)).flatten 92):=Cl (by simp only[A0];rw[aP,if_neg qq0]);have Cb:live (Sg.mk A0 (M'+1)) (nx+1) 0=true:=by simp[live,OX,B.st]
    haveI:Nq M' (nm1 q):=⟨by rw[beq_eq];simp;omega⟩
    haveI:Nq (M'+1) (nm1 q):=⟨by rw[beq_eq];simp;omega⟩
    haveI:Nq (M'+1) M':=⟨by rw[beq_eq];simp⟩
    haveI:eE H' (nm1 q) (.row [.i6 x.Typex,.vl (M+1) s 0 (l2.take j).length,.nilp,.i6 0,.i6 0,.i6 0,.isl false [],.i6 0,.nilp,.i6 0,.bool false,.i6 0] 103):=⟨yT⟩
    refine goN ?_;apply cE;refine goN ?_;refine cB BG ?_;refine goN ?_;refine dE [(0,19),(0,20),(1,19),(1,20),(2,19),(2,20),(3,19),(3,20),(4,19),(5,19),(6,19),(7,19),(8,19),(9,19),(10,19)] ?_;refine cM ?_;refine aV rfl (dZ rfl rfl (sW (Y:=⟨A0,M'+1⟩) gX.h (bB iO.h) Cb kR)) (aV (u:=pt nm1 q) rfl (C2 (Y:=⟨A0,M'+1⟩) (nC nm1) (po nm1) gW.h rfl (fun _=>rfl) rfl OX kR) ?_);refine cM ?_;refine aV rfl (dZ rfl rfl (sW (Y:=⟨A0,M'+1⟩) gX.h (bB iO.h) Cb kR)) (aV (u:=pt nm1 q) rfl (C2 (Y:=⟨A0,M'+1⟩) (nC nm1) (po nm1) gW.h rfl (fun _=>rfl) rfl OX kR) ?_);refine cM ?_;refine aV rfl (dZ rfl rfl (sW (Y:=⟨A0,M'+1⟩) gX.h (bB iO.h) Cb Wj)) (aV (u:=pt nm1 (P.N.length+a.To.toNat)) rfl (C2 (Y:=⟨A0,M'+1⟩) (nC nm1) (po nm1) gW.h rfl (fun _=>rfl) rfl OX Wj) ?_);refine cM ?_;refine eN ?_
    let A1:X (Nat×B):=(M'+1,.row [.i6 a.Feat,pt nm1 (P.N.length+a.To.toNat)] 107)::A0
    have uL:gt A1 (M+1)=some (.vec ((l2.take j).map (bX nm1)).flatten 107 2 s):=by simp only[A1,A0];rw[aP,if_neg qq0,aP,if_neg qq0];exact hv
    have eZ:rowOf (Sg.mk A1 (M'+2)) (M'+1)=some [.i6 a.Feat,pt nm1 (P.N.length+a.To.toNat)]:=by simp[A1,rowOf,aP]
    refine RD.act rfl (pQ rfl rfl rfl rfl (DN (bX nm1) [⟨a.Feat,P.N.length+a.To.toNat⟩] DA.h DA.h CC.h rfl (fun _=>rfl) uL (FE (bX nm1) [⟨a.Feat,P.N.length+a.To.toNat⟩] (q:=[.i6 a.Feat,pt nm1 (P.N.length+a.To.toNat)]) eZ rfl rfl rfl) ⟨by rw[Vf];simp;omega,by rw[Vf];simp;omega⟩)) rfl rfl ?_
    let v08:B:=.vec (List.map (bX nm1) (l2.take j++[⟨a.Feat,P.N.length+a.To.toNat⟩])).flatten 107 2 (s+1)
    haveI:eE (ug A1 (M+1) v08) (nm1 q) (.row [.i6 x.Typex,.vl (M+1) s 0 (l2.take j).length,.nilp,.i6 0,.i6 0,.i6 0,.isl false [],.i6 0,.nilp,.i6 0,.bool false,.i6 0] 103):=⟨by rw[bS,if_neg qq0];simp only[A1,A0];rw[aP,if_neg qq0,aP,if_neg qq0];exact yT⟩
    have Cm:gt A1 (nx+1)=some (.row ((lZ P.N.length f.Nodes.length f.Nodes.length).map (nC nm1)).flatten 92):=Cl (by simp only[A1,A0];rw[aP,if_neg qq0,aP,if_neg qq0]);have xF:gt (ug A1 (M+1) v08) (nx+1)=some (.row ((lZ P.N.length f.Nodes.length f.Nodes.length).map (nC nm1)).flatten 92):=Cl (by rw[bS,if_neg qq0];simp only[A1,A0];rw[aP,if_neg qq0,aP,if_neg qq0]);have Vw:live (Sg.mk A1 (M'+2)) (nx+1) 0=true:=by simp[live,Cm,B.st]
    have Ca:live (Sg.mk (ug A1 (M+1) v08) (M'+2)) (nx+1) 0=true:=by simp[live,xF,B.st]
    refine cM ?_;refine qM ?_;refine bC ⟨by kernel_rfl,⟨opm,opm,opm,opm,dZ rfl rfl (sW (Y:=⟨A1,M'+2⟩) gX.h (bB iO.h) Vw kR),dZ rfl rfl (sW (Y:=⟨ug A1 (M+1) v08,M'+2⟩) gX.h (bB iO.h) Ca kR),C2 (Y:=⟨A1,M'+2⟩) (nC nm1) (po nm1) gW.h rfl (fun _=>rfl) rfl Cm kR,C2 (Y:=⟨ug A1 (M+1) v08,M'+2⟩) (nC nm1) (po nm1) gW.h rfl (fun _=>rfl) rfl xF kR,opm,opm,dZ rfl rfl (sW (Y:=⟨A1,M'+2⟩) gX.h (bB iO.h) Vw kR),C2 (Y:=⟨A1,M'+2⟩) (nC nm1) (po nm1) gW.h rfl (fun _=>rfl) rfl Cm kR,opm,opm,opm,trivial⟩,?_⟩;refine goN ?_;refine⟨x.Arcs.length-(j+1),_,_,by omega,⟨j+1,s+1,_,M'+2,rfl,iD,rfl,rfl,by omega,?_,?_,fun k hk jS=>?_⟩,by have:=hm.le;show nx<=M'+2;omega,Gh.sub ?_⟩;rw[bS,if_neg qq0,bS,if_pos rfl];show Option.map _ (gt A1 (M+1))=_;rw[uL,Bi];rfl;rw[bS,if_pos rfl,bS,if_neg qq0];show Option.map _ (gt A1 (nm1 q))=_;simp only[A1,A0];rw[aP,if_neg qq0,aP,if_neg qq0,yT,Bi];rfl;rw[bS,if_neg (Ne.symm jS),bS,if_neg qq0];show gt A1 k=_;simp only[A1,A0];rw[aP,if_neg qq0,aP,if_neg qq0];exact fG k hk jS
    ·rw[<-B4];(repeat refine⟨rfl,?_⟩);exact trivial
   ·refine goN ?_;have iD:j=x.Arcs.length:=by
     have:¬ (j:Int)<x.Arcs.length:=by simpa using h9
     omega
    subst iD;have e:l2.take x.Arcs.length=l2:=by rw[<-Wa,List.take_length]
    rw[e]at hv yT;exact⟨_,_,⟨s,H',M',rfl,rfl,Xg,hv,yT,fG⟩,by have:=hm.le;show nx<=M';omega,Gh.sub (by((repeat refine⟨rfl,?_⟩);exact trivial))⟩
  ·refine goN ?_;have eW:t=f.Nodes.length:=by
    have:¬ (t:Int)<f.Nodes.length:=by simpa using h7
    omega
   subst eW;refine⟨_,_,⟨H,M,rfl,rfl,?_,uK,hM⟩,hm.le,Gh.sub (by((repeat refine⟨rfl,?_⟩);exact trivial))⟩;have e:uY P.N L f.Nodes.length=P.N++L:=by rw[<-mH];simp[uY]
   rw[e,<-mH]at hm;exact hm
 rintro _ _ _ ⟨t,nm1,H,M,rfl,ht,rfl,rfl,hm,uK,TU,hM⟩;refine WPU.wf fun fM _=>?_
 haveI:SuC M (M+1):=⟨rfl⟩
 haveI:SuC (M+1) (M+2):=⟨rfl⟩
 refine goN ?_;refine eG rfl (fun h7=>?_) (fun h7=>?_)
 ·have eW:t<f.Nodes.length:=by simpa using h7
  obtain⟨x,hx⟩:∃a,f.Nodes[t]? = some a:=⟨_,List.getElem?_eq_getElem eW⟩;obtain⟨y,hy,nK⟩:=bn t x hx;have jX:aB f.Nodes (t:Int)=some x:=by rw[aB,if_pos ⟨by omega,by omega⟩];simpa using hx
  have kP:IntKind.i64.wrap ((t:Int)+1)=((t+1:Nat):Int):=by rw[oZ qq0 qq0];rfl
  haveI:Nq (M+1) (nx+1):=⟨by rw[beq_eq];simp;omega⟩
  haveI:Nq M (nx+1):=⟨by rw[beq_eq];simp;omega⟩
  refine goN ?_;apply cE;refine goN ?_;refine cB jX ?_;refine goN ?_
  let N1:X PN:=P.N++(L.take t).map KJ
  have CW:N1.length=P.N.length+t:=by simp[N1];omega
  let jQ:Nat->Nat:=uA nm1 N1.length (M+1)
  let R0:B:=.row [.i6 x.Typex,.nils,.nilp,.i6 0,.i6 0,.i6 0,.nils,.i6 0,.nilp,.i6 0,.bool false,.i6 0] 103
  let R2:B:=.row (qV jQ (gO x.Typex []) .nils) 103
  let H2:X (Nat×B):=(M+1,R0)::(M,.row (b7 x) 79)::H
  have hm1:=hm.more fM (.row (b7 x) 79);have mF:oH ⟨(M,.row (b7 x) 79)::H,M+1⟩:=fun k b hb=>by have hb:gt ((M,B.row (b7 x) 79)::H) k=some b:=hb;rw[aP]at hb;by_cases e:M=k;rw[if_pos e]at hb;cases hb;exact⟨by show k<M+1;omega,vJ _ x⟩;rw[if_neg e]at hb;obtain⟨h1,h2⟩:=fM k b hb;exact⟨Nat.lt_succ_of_lt h1,Hg (Nat.le_succ _) h2⟩
  have uJ:=hm1.add mF (by rw[CW];omega) x.Typex;have bh:(lZ P.N.length f.Nodes.length t).map (nC nm1)=(lZ P.N.length f.Nodes.length t).map (nC jQ):=(qyw (nm':=jQ) (nm:=nm1) (n:=N1.length) vE qq0).symm;have xF:gt H2 (nx+1)=some (.row ((lZ P.N.length f.Nodes.length t).map (nC jQ)).flatten 92):=by simp only[H2];rw[aP,if_neg qq0,aP,if_neg qq0,uK,bh]
  have Cc:live (Sg.mk H2 (M+2)) (nx+1) 0=true:=by simp[live,xF,B.st]
  have kR:i9 (lZ P.N.length f.Nodes.length t) 0 f.Nodes.length (t:Int)=some none:=by rw[i9,if_pos ⟨by omega,by omega⟩];simp only[zZ,Nat.zero_add];rw[RZ eW,if_neg (Nat.lt_irrefl _)]
  refine RS.w rfl (dZ rfl rfl (sW (Y:=⟨H2,M+2⟩) gX.h (bB iO.h) Cc kR)) ?_;have BK:([.ptr (M+1) 0 0]:X U)=nC jQ (some (P.N.length+t)):=by simp only[nC,po,pt,jQ,<-CW,Y7]
  refine RS.wn rfl (XT (Y:=⟨H2,M+2⟩) (y:=some (P.N.length+t)) (nC jQ) (bB iO.h) (fun _=>rfl) rfl rfl rfl rfl BK xF kR rfl) ?_;refine goN ?_;have hug:∀b,ug H2 (M+1) b=(M+1,b)::(M,.row (b7 x) 79)::H:=fun b=>by simp[H2,ug,beq_eq]
  have hy2:KJ y=gO x.Typex []:=by obtain⟨_,nK⟩:=c6 nK;obtain⟨l2,_,nK⟩:=aI nK;obtain rfl:=sI nK;rfl
  have hH3:pX kp kr st nm P h nx jQ (P.N++(L.take (t+1)).map KJ) P.size P.N.length (ug ((M+1,R2)::(M,.row (b7 x) 79)::H) (nx+1) (.row ((lZ P.N.length f.Nodes.length (t+1)).map (nC jQ)).flatten 92)) (M+2):=by
   have e:P.N++(L.take (t+1)).map KJ=N1++[gO x.Typex []]:=by rw[List.take_add_one,hy];simp[N1,hy2]
   rw[e];refine uJ.oth (Nat.le_succ _) (q:=((lZ P.N.length f.Nodes.length t).map (nC jQ)).flatten) ?_ _;rw[aP,if_neg qq0,aP,if_neg qq0,uK,bh]
  refine⟨f.Nodes.length-(t+1),_,_,by omega,⟨t+1,jQ,_,M+2,rfl,eW,rfl,rfl,hH3,?_,?_,by omega⟩,hH3.le,Gh.trans (Gh.sub (l':=[(0,.ptr kp 0 0),(3,.ptr nx 0 0),(5,.sl (nx+1) 0 f.Nodes.length f.Nodes.length),(17,.iM b7 f.Nodes),(18,.i6 f.Nodes.length),(19,.i6 ((t+1:Nat):Int))]) ?_) ?_⟩;rw[bS,if_pos rfl,aP,if_neg qq0,aP,if_neg qq0,uK];rfl;rw[bS,if_neg qq0,aP,if_neg qq0,aP,if_neg qq0];exact TU
  ·rw[<-kP];(repeat refine⟨rfl,?_⟩);exact trivial
  have e3:(lZ P.N.length f.Nodes.length t).set ((t:Int)).toNat (some (P.N.length+t))=lZ P.N.length f.Nodes.length (t+1):=z5z eW;rw[e3];have Vc:∀(b c:B),ug ((M+1,b)::(M,.row (b7 x) 79)::H) (nx+1) c=(M+1,b)::(M,.row (b7 x) 79)::ug H (nx+1) c:=fun b c=>by simp only[ug,beq_eq];rw[decide_eq_false qq0,decide_eq_false qq0];rfl
  have hug3:∀(T:X (Nat×B))(b:B),ug ((M+1,R0)::T) (M+1) b=(M+1,b)::T:=fun T b=>by simp[ug,beq_eq]
  have hgM:∀T:X (Nat×B),gt ((M+1,R0)::T) (M+1)=some R0:=fun T=>by simp[aP]
  refine(Gh.eqv rfl (congrArg (fun T=>(⟨T,M+2⟩:Sg)) (Vc R0 _))).trans ((Gh.rowW (Y:=⟨_,M+2⟩) (K:=M+1) (hgM _) (q':=qV jQ (gO x.Typex []) .nils) rfl ?_).trans (Gh.eqv rfl ?_));exact .cons (.refl _) (.cons (.refl _) (.cons (.refl _) (.cons (.refl _) (.cons (.refl _) (.cons (.refl _) (.cons (.nil false) (oU.refl _)))))));exact congrArg (fun T=>(⟨T,M+2⟩:Sg)) ((hug3 _ _).trans (Vc R2 _).symm)
 ·refine goN ?_;have eW:t=f.Nodes.length:=by
   have:¬ (t:Int)<f.Nodes.length:=by simpa using h7
   omega
  subst eW;refine⟨_,_,⟨nm1,H,M,rfl,rfl,?_,uK,TU,hM⟩,hm.le,Gh.sub (by((repeat refine⟨rfl,?_⟩);exact trivial))⟩;have e:P.N++(L.take f.Nodes.length).map KJ=uY P.N L 0:=by rw[<-mH,List.take_length];simp[uY]
  rw[<-e];exact hm
end
end Go.Proofs
namespace Go.Proofs
open Go Go.Rx Go.Vx Tryz
set_option maxRecDepth 20000
set_option maxHeartbeats 4000000
def Q?(n:Nat)(t:Int):V GFS:=a8 (L5 n 0 [0,1]) fun a=>a8 (L5 n t []) fun b=>Hi n [a,b]
def pEx(n:Nat):V PE :=
 a8 (vr n) fun H=>a8 (Q? n 1) fun f0=>a8 (yE (uC H) f0) fun r0=>aF (r0.1=0) (a8 (Q? n 0) fun f1=>a8 (yE r0.2 f1) fun r1=>aF (r1.1=1) (a8 (Q? n 2) fun f2=>a8 (yE r1.2 f2) fun r2=>aF (r2.1=2) (a8 (vA n r2.2 0 1) fun u=>aF (u.1.1=3/\u.1.2=true) (a8 (AI n u.2 3) fun g=>aF (g.2=true) (a8 (vA n u.2 0 2) fun v=>aF (v.1.1=0/\v.1.2=false) (a8 (NT n g.1 f0) fun e=>aF (e=true) (a8 (AH n v.2 1 2) fun t1=>aF (t1.1=true) (a8 (AH n t1.2 0 2) fun t2=>aF (t2.1=false) (a8 (vA n t2.2 1 2) fun w=>aF (w.1.1=4/\w.1.2=true) (a8 (AI n w.2 5) fun x=>aF (x.2=false/\w.2.size>=2/\w.2.size<=10) (some true)))))))))))
theorem R?(m:Nat):pEx (m+200)=some true:=qq1
theorem ZR{n:Nat}(h:200<=n):pEx n=some true:=by
 have:=R? (n-200)
 rwa [Nat.sub_add_cancel h]at this
end Go.Proofs
namespace Go.Proofs
open Go Go.Rx Go.Vx Tryz
set_option maxRecDepth 20000
set_option maxHeartbeats 4000000
set_option synthInstance.maxSize 4000
set_option synthInstance.maxHeartbeats 200000
variable{P:PP}
variable{f:GFS}
theorem oc{r:Int×PP}(h:yE P f=some r)(w:Wf P.N)(hr:∀k∈P.roots,k<P.N.length):Wf r.2.N/\(∀k∈r.2.roots,k<r.2.N.length)/\P.N.length<=r.2.N.length:=by
 obtain⟨⟨FS,_,_⟩,h⟩:=c6 h;obtain⟨L,hL,h⟩:=aI h;obtain rfl:=sI h;obtain⟨mH,bn⟩:=Pf hL;have aQ:(P.N++L).length=P.N.length+f.Nodes.length:=by simp[mH]
 refine⟨fun x hx=>?_,fun k hk=>?_,by show _<=(P.N++L).length;omega⟩;show kF (P.N++L).length x;rw[aQ];rcases yD.1 hx with hx |hx;exact(w x hx).le (Nat.le_add_right _ _);obtain⟨i,hi⟩:=List.getElem?_of_mem hx;have lS:i<f.Nodes.length:=by rw[<-mH];exact oB hi
 obtain⟨y,h1,h2⟩:=bn i _ (List.getElem?_eq_getElem lS);rw[hi]at h1;cases h1;obtain⟨_,h2⟩:=c6 h2;obtain⟨l,h3,h2⟩:=aI h2;obtain rfl:=sI h2;obtain⟨h4,h5⟩:=Pf h3;refine⟨fun a ha=>?_,trivial,nofun,trivial⟩;obtain⟨j,hj⟩:=List.getElem?_of_mem ha;have hj:l[j]? = some a:=hj;have iD:j<l.length:=(zG.1 hj).1;rw[h4]at iD;obtain⟨b,h6,h7⟩:=h5 j _ (List.getElem?_eq_getElem iD);rw[hj]at h6;cases h6;obtain⟨h8,h9,gC⟩:=f? h7;rw[gC];show P.N.length+_<_;omega;show k<(P.N++L).length;rcases yD.1 hk with hk |hk;have:=hr k hk;omega;simp at hk;subst hk;omega
variable{a:Int}
variable{b:Int}
theorem z1f{n:Nat}{r:(Int×PE)×PP}(h:vA n P a b=some r)(w:Wf P.N)(hr:∀k∈P.roots,k<P.N.length):Wf r.2.N/\(∀k∈r.2.roots,k<r.2.N.length)/\P.N.length<=r.2.N.length:=by
 obtain⟨r1,h1,h⟩:=aI h;obtain⟨s1,s2,s3,s4,s5,s6⟩:=Ov h1 w;cases hq:r1.1 with
 |none=>rw[hq]at h;obtain rfl:=sI h;exact⟨s2,fun k hk=>by rw[s4]at hk;rw[s1.len];exact hr k hk,by rw[s1.len];exact zF _⟩
 |some q=>rw[hq]at h;obtain⟨c,hc,h⟩:=aI h;obtain⟨_,h⟩:=c6 h;obtain rfl:=sI h;obtain⟨e1,e2,e3⟩:=qvy hc s2;have hl:r1.2.N.length<=c.2.1.length:=e1.len;refine⟨e2,fun k hk=>?_,by show P.N.length<=c.2.1.length;rw[<-s1.len];exact hl⟩;show k<c.2.1.length;rcases yD.1 hk with hk |hk;rw[s4]at hk;have:=hr k hk;rw[<-s1.len]at this;omega;simp at hk;subst hk;exact e3
theorem z5w{n:Nat}{r:PE×PP}(h:AH n P a b=some r)(w:Wf P.N)(hr:∀k∈P.roots,k<P.N.length):Wf r.2.N/\(∀k∈r.2.roots,k<r.2.N.length)/\r.2.N.length=P.N.length:=by obtain⟨r1,h1,h⟩:=aI h;obtain rfl:=sI h;obtain⟨s1,s2,s3,s4,s5,s6⟩:=Ov h1 w;exact⟨s2,fun k hk=>by rw[s4]at hk;rw[s1.len];exact hr k hk,s1.len⟩
def NP(b:B):Prop:=(∀l,b≠.row l 83)/\(∀l,b≠.row l 103)/\∀l s t,b≠.vec l 92 s t
structure PL(n0:Nat)(h0:X (Nat×B))(kp:Nat)(P:PP)(h:X (Nat×B))(nx:Nat):Prop where
 ex:∃kr st nm,PH kp kr st nm P h/\n0<=kr/\(∀i,i<P.N.length->n0<=nm i)/\kr<nx/\kp<nx/\∀i,i<P.N.length->nm i<nx
 kp:n0<=kp
 lo:∀k,k<n0->gt h k=gt h0 k
 le:n0<=nx
structure PS(n0:Nat)(h0:X (Nat×B))(kp:Nat)(P:PP)(h:X (Nat×B))(nx:Nat)(h':X (Nat×B))(nx':Nat):Prop where
 pl:PL n0 h0 kp P h' nx'
 le:nx<=nx'
 np:∀k b,k<nx->gt h k=some b->NP b->gt h' k=some b
section
variable{n0 kp:Nat}{h0:X (Nat×B)}{P:PP}{h:X (Nat×B)}{nx:Nat}
theorem PL.more(p:PL n0 h0 kp P h nx)(b:B):PL n0 h0 kp P ((nx,b)::h) (nx+1):=by obtain⟨kr,st,nm,h1,h2,h3,h4,h5,h6⟩:=p.ex;exact⟨⟨kr,st,nm,⟨by rw[jE h5];exact h1.pool,by rw[jE h4];exact h1.roots,fun i x hx=>by rw[jE (h6 i (zG.1 hx).1)];exact h1.node i x hx,h1.inj,h1.wf,h1.rt⟩,h2,h3,by omega,by omega,fun i hi=>by have:=h6 i hi;omega⟩,p.kp,fun k hk=>by rw[jE (Nat.lt_of_lt_of_le hk p.le)];exact p.lo k hk,Nat.le_succ_of_le p.le⟩
theorem PL.up(p:PL n0 h0 kp P h nx){nx':Nat}(hn:nx<=nx'):PL n0 h0 kp P h nx':=by obtain⟨kr,st,nm,h1,h2,h3,h4,h5,h6⟩:=p.ex;exact⟨⟨kr,st,nm,h1,h2,h3,by omega,by omega,fun i hi=>by have:=h6 i hi;omega⟩,p.kp,p.lo,Nat.le_trans p.le hn⟩
theorem PL.oth(p:PL n0 h0 kp P h nx){h':X (Nat×B)}{K:Nat}(hK:n0<=K){b:B}(hb:gt h K=some b)(hn:NP b)(hs:∀k,k≠K->gt h' k=gt h k):PL n0 h0 kp P h' nx:=by
 obtain⟨kr,st,nm,h1,h2,h3,h4⟩:=p.ex;have key:∀k c,gt h k=some c->¬ NP c->gt h' k=some c:=fun k c hc IH=>by rw[hs k fun e=>?_];exact hc;rw[e,hb]at hc;cases hc;exact IH hn
 refine⟨⟨kr,st,nm,⟨key _ _ h1.pool fun hn=>hn.1 _ rfl,key _ _ h1.roots fun hn=>hn.2.2 _ _ _ rfl,fun i x hx=>key _ _ (h1.node i x hx) fun hn=>hn.2.1 _ rfl,h1.inj,h1.wf,h1.rt⟩,h2,h3,h4⟩,p.kp,fun k hk=>by rw[hs k qq0];exact p.lo k hk,p.le⟩
theorem PL.wf(p:PL n0 h0 kp P h nx):Wf P.N:=by obtain⟨_,_,_,h1,_⟩:=p.ex;exact h1.wf
theorem PL.rt(p:PL n0 h0 kp P h nx):∀k∈P.roots,k<P.N.length:=by obtain⟨_,_,_,h1,_⟩:=p.ex;exact h1.rt
theorem qz0{kr st:Nat}{nm:Nat->Nat}{bJ:Nat}{P1:PP}(p:PH kp kr st nm P h)(tC:kp<nx)(CP:kr<nx)(CM:∀i,i<P.N.length->nm i<nx)(W8:∀x∈P1.N,kF P1.N.length x)(rt1:∀r∈P1.roots,r<P1.N.length):PH kp kr bJ (jH nm P.N.length nx) P1 (cH kp kr bJ (jH nm P.N.length nx) P1 h):=by
 have hc:∀i,(i<P.N.length/\jH nm P.N.length nx i=nm i)\/(P.N.length<=i/\jH nm P.N.length nx i=nx+(i-P.N.length)):=fun i=>by rcases Nat.lt_or_ge i P.N.length with h1 |h1;exact .inl ⟨h1,yK i h1⟩;exact .inr ⟨h1,by rw[jH,if_neg qq0]⟩
 refine tx (Ne.symm p.krp) (fun i _=>?_) (fun i _=>?_) (fun i j _ _ e=>?_) W8 rt1;rcases hc i with⟨h1,h2⟩|⟨h1,h2⟩;rw[h2];exact p.kpn h1;omega;rcases hc i with⟨h1,h2⟩|⟨h1,h2⟩;rw[h2];exact p.krn h1;omega;rcases hc i with⟨h1,h2⟩|⟨h1,h2⟩<;>rcases hc j with⟨h3,h4⟩|⟨h3,h4⟩;rw[h2,h4]at e;exact p.inj i j h1 h3 e;have:=CM i h1;omega;have:=CM j h3;omega;omega
theorem SP{kr st:Nat}{nm:Nat->Nat}(p:PH kp kr st nm P h)(q1:kp<nx)(q2:kr<nx)(q3:∀i,i<P.N.length->nm i<nx)(lo:∀k,k<n0->gt h k=gt h0 k)(le:n0<=nx)(tC:n0<=kp)(CP:n0<=kr)(IG:∀i,i<P.N.length->n0<=nm i){bJ:Nat}{P1:PP}(W8:Wf P1.N)(rt1:∀r∈P1.roots,r<P1.N.length)(N:Nat)(hN:nx+(P1.N.length-P.N.length)<=N):PS n0 h0 kp P1 h nx (cH kp kr bJ (jH nm P.N.length nx) P1 h) N:=by
 have eT:∀k,k<nx->k≠kp->k≠kr->(∀i,i<P.N.length->nm i≠k)->gt (cH kp kr bJ (jH nm P.N.length nx) P1 h) k=gt h k:=fun k k0 k1 k2 k3=>zh k1 k2 fun i hi e=>by rcases Nat.lt_or_ge i P.N.length with h5 |h5;rw[yK i h5]at e;exact k3 i h5 e;rw[jH,if_neg qq0]at e;omega
 refine⟨⟨⟨kr,bJ,_,qz0 p q1 q2 q3 W8 rt1,CP,fun i hi=>?_,by omega,by omega,fun i hi=>?_⟩,tC,fun k hk=>?_,by omega⟩,by omega,fun k b hk hb hn=>?_⟩;rcases Nat.lt_or_ge i P.N.length with h5 |h5;rw[yK i h5];exact IG i h5;rw[jH,if_neg qq0];omega;rcases Nat.lt_or_ge i P.N.length with h5 |h5;rw[yK i h5];have:=q3 i h5;omega;rw[jH,if_neg qq0];omega;rw[eT k qq0 qq0 qq0 fun i hi e=>by have:=IG i hi;omega];exact lo k hk;rw[eT k hk (fun e=>?_) (fun e=>?_) fun i hi e=>?_];exact hb;rw[e,p.pool]at hb;cases hb;exact hn.1 _ rfl;rw[e,p.roots]at hb;cases hb;exact hn.2.2 _ _ _ rfl;rw[<-e,p.node i _ (List.getElem?_eq_getElem hi)]at hb;cases hb;exact hn.2.1 _ rfl
variable{k:Int}
variable{P':PP}
theorem z1t(p:PL n0 h0 kp P h nx)(O:yE P f=some (k,P')):∃h' nx',aW prog 18 [.ptr kp 0 0,.agg (kI f)] ⟨h,nx⟩ (fun u Y'=>u=.i6 k/\Y'=⟨h',nx'⟩)/\PS n0 h0 kp P' h nx h' nx':=by obtain⟨kr,st,nm,h1,h2,h3,h4,h5,h6⟩:=p.ex;obtain⟨w1,w2,w3⟩:=oc O p.wf p.rt;exact⟨_,_,ZJ h1 O,SP h1 h5 h4 h6 p.lo p.le p.kp h2 h3 w1 w2 _ (zF _)⟩
theorem za8(p:PL n0 h0 kp P h nx)(O:yE P f=some (k,P')):aW prog 18 [.ptr kp 0 0,.agg (kI f)] ⟨h,nx⟩ (fun u Y'=>∃h' nx',u=.i6 k/\Y'=⟨h',nx'⟩/\PS n0 h0 kp P' h nx h' nx'):=by obtain⟨h',nx',g1,g2⟩:=z1t p O;exact g1.mono fun u Y' ⟨e1,e2⟩=>⟨h',nx',e1,e2,g2⟩
theorem J'(p:PL n0 h0 kp P h nx){r:Int×PP}(O:yE P f=some r):aW prog 18 [.ptr kp 0 0,.agg (kI f)] ⟨h,nx⟩ (fun u Y'=>∃h' nx',u=.i6 r.1/\Y'=⟨h',nx'⟩/\PS n0 h0 kp r.2 h nx h' nx'):=za8 p O
theorem ja(p:PL n0 h0 kp P h nx)(n:Nat){r:(Int×PE)×PP}(O:vA n P a b=some r):aW prog 21 [.ptr kp 0 0,.i6 a,.i6 b] ⟨h,nx⟩ (fun u Y'=>∃h' nx',u=.tup [.i6 r.1.1,.bool r.1.2]/\Y'=⟨h',nx'⟩/\PS n0 h0 kp r.2 h nx h' nx'):=by obtain⟨kr,st,nm,h1,h2,h3,h4,h5,h6⟩:=p.ex;obtain⟨w1,w2,w3⟩:=z1f O p.wf p.rt;exact(z6o h1 n O).mono fun u Y' ⟨bJ,e1,e2⟩=>⟨_,_,e1,e2,SP h1 h5 h4 h6 p.lo p.le p.kp h2 h3 w1 w2 _ (zF _)⟩
theorem a_(p:PL n0 h0 kp P h nx)(n:Nat){r:PE×PP}(O:AH n P a b=some r):∃h',aW prog 22 [.ptr kp 0 0,.i6 a,.i6 b] ⟨h,nx⟩ (fun u Y'=>u=.bool r.1/\Y'=⟨h',nx⟩)/\PS n0 h0 kp r.2 h nx h' nx:=by obtain⟨kr,st,nm,h1,h2,h3,h4,h5,h6⟩:=p.ex;obtain⟨w1,w2,w3⟩:=z5w O p.wf p.rt;have eT:∀k,k≠kp->k≠kr->(∀i,i<P.N.length->nm i≠k)->gt (cH kp kr st nm r.2 h) k=gt h k:=fun k k1 k2 k3=>zh k1 k2 fun i hi=>k3 i qq0;refine⟨_,zas h1 n O,⟨⟨kr,st,nm,qqc h1 w3 w1 w2,h2,fun i hi=>h3 i qq0,h4,h5,fun i hi=>h6 i qq0⟩,p.kp,fun k hk=>?_,p.le⟩,zF _,fun k b _ hb hn=>?_⟩;rw[eT k (by have:=p.kp;omega) qq0 fun i hi e=>by have:=h3 i hi;omega];exact p.lo k hk;rw[eT k (fun e=>?_) (fun e=>?_) fun i hi e=>?_];exact hb;rw[e,h1.pool]at hb;cases hb;exact hn.1 _ rfl;rw[e,h1.roots]at hb;cases hb;exact hn.2.2 _ _ _ rfl;rw[<-e,h1.node i _ (List.getElem?_eq_getElem hi)]at hb;cases hb;exact hn.2.1 _ rfl
theorem nh(p:PL n0 h0 kp P h nx)(n:Nat){r:GFS×PE}(O:AI n P k=some r):aW prog 19 [.ptr kp 0 0,.i6 k] ⟨h,nx⟩ (fun u Y'=>u=.tup [.agg (kI r.1),.bool r.2]/\Y'=⟨h,nx⟩):=by obtain⟨kr,st,nm,h1,_⟩:=p.ex;exact ni h1 n O
theorem z3c(p:PL n0 h0 kp P h nx)(n:Nat){ok:PE}(O:vA n P a b=some ((k,ok),P')):aW prog 21 [.ptr kp 0 0,.i6 a,.i6 b] ⟨h,nx⟩ (fun u Y'=>∃h' nx',u=.tup [.i6 k,.bool ok]/\Y'=⟨h',nx'⟩/\PS n0 h0 kp P' h nx h' nx'):=ja p n O
theorem h_(p:PL n0 h0 kp P h nx)(n:Nat){ok:PE}(O:AI n P k=some (f,ok)):aW prog 19 [.ptr kp 0 0,.i6 k] ⟨h,nx⟩ (fun u Y'=>u=.tup [.agg (kI f),.bool ok]/\Y'=⟨h,nx⟩):=nh p n O
theorem iu(p:PL n0 h0 kp P h nx):aW prog 16 [.ptr kp 0 0] ⟨h,nx⟩ (fun u Y'=>u=.i6 P.size/\Y'=⟨h,nx⟩):=by obtain⟨kr,st,nm,h1,_⟩:=p.ex;exact zaj h1
theorem ae(H:cZ)(hn:n0<=nx)(hl:∀k,k<n0->gt h k=gt h0 k):PL n0 h0 (nx+1) (uC H) (G6 H nx h) (nx+3):=
 ⟨⟨nx+2,0,id,z9t H nx h id,by omega,fun i hi=>by simp[uC]at hi,by omega,by omega,fun i hi=>by simp[uC]at hi⟩,by omega,fun k hk=>by rw[G6,aP,if_neg qq0,aP,if_neg qq0,aP,if_neg qq0];exact hl k hk,by omega⟩
end
structure ExR(n:Nat)(H:cZ)(a0 b0 a1 b1 a2 b2:aO)(f0 f1 f2:GFS)(r0 r1 r2:Int×PP)(u v w:(Int×PE)×PP)(g x:GFS×PE)(t1 t2:PE×PP):Prop where
 hH:vr n=some H
 ha0:L5 n 0 [0,1]=some a0
 hb0:L5 n 1 []=some b0
 hf0:Hi n [a0,b0]=some f0
 hr0:yE (uC H) f0=some r0
 hv0:r0.1=0
 ha1:L5 n 0 [0,1]=some a1
 hb1:L5 n 0 []=some b1
 hf1:Hi n [a1,b1]=some f1
 hr1:yE r0.2 f1=some r1
 hv1:r1.1=1
 ha2:L5 n 0 [0,1]=some a2
 hb2:L5 n 2 []=some b2
 hf2:Hi n [a2,b2]=some f2
 hr2:yE r1.2 f2=some r2
 hv2:r2.1=2
 hu:vA n r2.2 0 1=some u
 hvu:u.1.1=3/\u.1.2=true
 hg:AI n u.2 3=some g
 hvg:g.2=true
 hv:vA n u.2 0 2=some v
 hvv:v.1.1=0/\v.1.2=false
 he:NT n g.1 f0=some true
 ht1:AH n v.2 1 2=some t1
 hvt1:t1.1=true
 ht2:AH n t1.2 0 2=some t2
 hvt2:t2.1=false
 hw:vA n t2.2 1 2=some w
 hvw:w.1.1=4/\w.1.2=true
 hx:AI n w.2 5=some x
 hvx:x.2=false/\w.2.size>=2/\w.2.size<=10
theorem exR{n:Nat}(hn:200<=n):∃H a0 b0 a1 b1 a2 b2 f0 f1 f2 r0 r1 r2 u v w g x t1 t2,ExR n H a0 b0 a1 b1 a2 b2 f0 f1 f2 r0 r1 r2 u v w g x t1 t2:=by have hE:=ZR hn;obtain⟨H,hH,hE⟩:=aI hE;obtain⟨f0,hf0,hE⟩:=aI hE;obtain⟨r0,hr0,hE⟩:=aI hE;obtain⟨v0,hE⟩:=c6 hE;obtain⟨f1,hf1,hE⟩:=aI hE;obtain⟨r1,hr1,hE⟩:=aI hE;obtain⟨v1,hE⟩:=c6 hE;obtain⟨f2,hf2,hE⟩:=aI hE;obtain⟨r2,hr2,hE⟩:=aI hE;obtain⟨v2,hE⟩:=c6 hE;obtain⟨u,hu,hE⟩:=aI hE;obtain⟨vu,hE⟩:=c6 hE;obtain⟨g,hg,hE⟩:=aI hE;obtain⟨vg,hE⟩:=c6 hE;obtain⟨v,hv,hE⟩:=aI hE;obtain⟨vv,hE⟩:=c6 hE;obtain⟨e,he,hE⟩:=aI hE;obtain⟨ve,hE⟩:=c6 hE;obtain⟨t1,ht1,hE⟩:=aI hE;obtain⟨vt1,hE⟩:=c6 hE;obtain⟨t2,ht2,hE⟩:=aI hE;obtain⟨vt2,hE⟩:=c6 hE;obtain⟨w,hw,hE⟩:=aI hE;obtain⟨vw,hE⟩:=c6 hE;obtain⟨x,hx,hE⟩:=aI hE;obtain⟨vx,hE⟩:=c6 hE;obtain⟨a0,ha0,hf0⟩:=aI hf0;obtain⟨b0,hb0,hf0⟩:=aI hf0;obtain⟨a1,ha1,hf1⟩:=aI hf1;obtain⟨b1,hb1,hf1⟩:=aI hf1;obtain⟨a2,ha2,hf2⟩:=aI hf2;obtain⟨b2,hb2,hf2⟩:=aI hf2;exact⟨H,a0,b0,a1,b1,a2,b2,f0,f1,f2,r0,r1,r2,u,v,w,g,x,t1,t2,hH,ha0,hb0,hf0,hr0,v0,ha1,hb1,hf1,hr1,v1,ha2,hb2,hf2,hr2,v2,hu,vu,hg,vg,hv,vv,by rw[ve]at he;exact he,ht1,vt1,ht2,vt2,hw,vw,hx,vx⟩
theorem xh{m:Nat}:∀{a b:X U},aG m a->aG m b->aG m (a++b):=fun{a b} ha hb=>by
 rw[vG];intro u hu;rcases yD.1 hu with hu |hu;exact(vG _ _).1 ha u hu;exact(vG _ _).1 hb u hu
theorem PL.live{n0 kp:Nat}{h0:X (Nat×B)}{P:PP}{h:X (Nat×B)}{nx:Nat}(p:PL n0 h0 kp P h nx):Go.Vx.live ⟨h,nx⟩ kp 0=true:=by obtain⟨kr,st,nm,q,_⟩:=p.ex;simp[Go.Vx.live,q.pool];rfl
theorem Zd{n:Nat}(hn:200<=n)(h0:X (Nat×B))(HI:Nat):aW prog 11 [] ⟨h0,HI⟩ (fun u Y'=>u=.bool true/\Y'=⟨h0,HI⟩):=by
 refine aW.wf fun tA _=>?_;obtain⟨H,a0,b0,a1,b1,a2,b2,f0,f1,f2,r0,r1,r2,u,v,w,g,x,t1,t2,E⟩:=exR hn;refine bg0 131 Du ?_;refine goN ?_;refine aK rfl (pC (qoh n H E.hH) _) v07 (nF rfl (iA rfl Dt rfl).2 (z7x H h0 HI) rfl rfl ?_);rintro _ _ ⟨rfl,rfl⟩;have p0:PL HI h0 (HI+1) (uC H) (G6 H HI h0) (HI+3):=ae H (zF _) fun _ _=>rfl;refine goN ?_;refine RS.w rfl (ZT rfl rfl rfl (Tr du.h p0.live rfl)) ?_;refine goN ?_;refine nF rfl (iA rfl PY rfl).2 (iu p0) rfl rfl ?_;rintro _ _ ⟨rfl,rfl⟩;refine goN ?_;refine D8 rfl (fN.bsf (cs:=[.i6 0,.i6 1]) (rs:=List.map (cI .i64) [0,1]) tb_ok rfl cU.h iG.h rfl rfl rfl rfl rfl rfl rfl rfl rfl rfl rfl (by simp[aG,aT])) ?_;rintro _ _ ⟨rfl,rfl⟩;refine goN ?_;refine aK rfl (pC (SB n 0 [0,1] a0 E.ha0) _) uQ ?_;refine goN ?_;refine aK rfl (G3 (args':=[.i6 1,.isl false []]) (.cons (.refl _) (.cons (.nil false) .nil)) (pC (SB n 1 [] b0 E.hb0)) _) uQ ?_;refine goN ?_;refine D8 rfl (fN.bsf (cs:=b7 a0++b7 b0) (rs:=List.map b7 [a0,b0]) tb_ok rfl iI.h mX.h rfl rfl rfl rfl rfl rfl rfl rfl rfl rfl rfl (xh (vJ 0 _) (vJ 0 _))) ?_;rintro _ _ ⟨rfl,rfl⟩;refine goN ?_;refine aK rfl (pC (vf n [a0,b0] f0 E.hf0) _) IU ?_;refine goN ?_;refine nF rfl (iA rfl IX rfl).2 (J' (p0.up (nx':=HI+5) qq0) E.hr0) rfl rfl ?_;rintro _ _ ⟨h1,n1,rfl,rfl,p1⟩;rw[E.hv0];refine goN ?_;refine D8 rfl (fN.bsf (cs:=[.i6 0,.i6 1]) (rs:=List.map (cI .i64) [0,1]) tb_ok rfl cU.h iG.h rfl rfl rfl rfl rfl rfl rfl rfl rfl rfl rfl (by simp[aG,aT])) ?_;rintro _ _ ⟨rfl,rfl⟩;refine goN ?_;refine aK rfl (pC (SB n 0 [0,1] a1 E.ha1) _) uQ ?_;refine goN ?_;refine aK rfl (G3 (args':=[.i6 0,.isl false []]) (.cons (.refl _) (.cons (.nil false) .nil)) (pC (SB n 0 [] b1 E.hb1)) _) uQ ?_;refine goN ?_;refine D8 rfl (fN.bsf (cs:=b7 a1++b7 b1) (rs:=List.map b7 [a1,b1]) tb_ok rfl iI.h mX.h rfl rfl rfl rfl rfl rfl rfl rfl rfl rfl rfl (xh (vJ 0 _) (vJ 0 _))) ?_;rintro _ _ ⟨rfl,rfl⟩;refine goN ?_;refine aK rfl (pC (vf n [a1,b1] f1 E.hf1) _) IU ?_;refine goN ?_;refine nF rfl (iA rfl IX rfl).2 (J' (p1.pl.up (nx':=n1+2) qq0) E.hr1) rfl rfl ?_;rintro _ _ ⟨h2,n2,rfl,rfl,p2⟩;rw[E.hv1];refine goN ?_;refine D8 rfl (fN.bsf (cs:=[.i6 0,.i6 1]) (rs:=List.map (cI .i64) [0,1]) tb_ok rfl cU.h iG.h rfl rfl rfl rfl rfl rfl rfl rfl rfl rfl rfl (by simp[aG,aT])) ?_;rintro _ _ ⟨rfl,rfl⟩;refine goN ?_;refine aK rfl (pC (SB n 0 [0,1] a2 E.ha2) _) uQ ?_;refine goN ?_;refine aK rfl (G3 (args':=[.i6 2,.isl false []]) (.cons (.refl _) (.cons (.nil false) .nil)) (pC (SB n 2 [] b2 E.hb2)) _) uQ ?_;refine goN ?_;refine D8 rfl (fN.bsf (cs:=b7 a2++b7 b2) (rs:=List.map b7 [a2,b2]) tb_ok rfl iI.h mX.h rfl rfl rfl rfl rfl rfl rfl rfl rfl rfl rfl (xh (vJ 0 _) (vJ 0 _))) ?_;rintro _ _ ⟨rfl,rfl⟩;refine goN ?_;refine aK rfl (pC (vf n [a2,b2] f2 E.hf2) _) IU ?_;refine goN ?_;refine nF rfl (iA rfl IX rfl).2 (J' (p2.pl.up (nx':=n2+2) qq0) E.hr2) rfl rfl ?_;rintro _ _ ⟨h3,n3,rfl,rfl,p3⟩;rw[E.hv2];refine goN ?_;refine eG rfl (fun q=>absurd q qq3) (fun _=>?_);refine goN ?_;refine nF rfl (iA rfl IV rfl).2 (ja p3.pl n E.hu) rfl rfl ?_;rintro _ _ ⟨h4,n4,rfl,rfl,p4⟩;rw[E.hvu.1,E.hvu.2]
 haveI:SuC n4 (n4+1):=⟨rfl⟩
 refine goN ?_;refine nF rfl (iA rfl EI rfl).2 (nh p4.pl n E.hg) rfl rfl ?_;rintro _ _ ⟨rfl,rfl⟩;rw[E.hvg];refine goN ?_;refine nF rfl (iA rfl IV rfl).2 (ja (p4.pl.more _) n E.hv) rfl rfl ?_;rintro _ _ ⟨h5,n5,rfl,rfl,p5⟩;rw[E.hvv.1,E.hvv.2]
 haveI:eE h5 n4 (.row [.iM b7 g.1.Nodes] 39):=⟨p5.np _ _ (zN _) (by rw[aP,if_pos rfl];rfl) ⟨nofun,nofun,nofun⟩⟩
 refine goN ?_;obtain⟨h6,e6,p6⟩:=a_ p5.pl n E.ht1;obtain⟨h7,e7,p7⟩:=a_ p6.pl n E.ht2;rw[E.hvt1]at e6;rw[E.hvt2]at e7
 haveI:m9 0 (b7 a0++b7 b0):=⟨xh (vJ 0 _) (vJ 0 _)⟩
 refine dE [] ?_;refine cM ?_;refine qr (u:=.isl false (List.map (cI .i64) [0,1])) (by exact wA) (sX.bs (cs:=[.i6 0,.i6 1]) cU.h iG.h rfl rfl rfl rfl rfl rfl rfl rfl rfl) rfl rfl ?_;refine cM ?_;refine dK rfl (pC (SB n 0 [0,1] a0 E.ha0)) uQ ?_;refine cM ?_;refine dK rfl (G3 (args':=[.i6 1,.isl false []]) (.cons (.refl _) (.cons (.nil false) .nil)) (pC (SB n 1 [] b0 E.hb0))) uQ ?_;refine cM ?_;refine qr (u:=.isl false (List.map b7 [a0,b0])) (by exact wA) (sX.bs (cs:=b7 a0++b7 b0) iI.h mX.h rfl rfl rfl rfl rfl rfl rfl rfl rfl) rfl rfl ?_;refine cM ?_;refine dK rfl (pC (vf n [a0,b0] f0 E.hf0)) IU ?_;refine cM ?_;refine dK rfl (pC (yp n g.1 f0 true E.he)) IW ?_;refine cM ?_;refine JW (by exact wA) (iA rfl PX rfl).2 e6 rfl rfl ?_;refine cM ?_;refine JW (by exact wA) (iA rfl PX rfl).2 e7 rfl rfl ?_;refine cM ?_;refine bC ⟨by kernel_rfl,trivial,?_⟩;refine goN ?_;refine eG rfl (fun q=>absurd q qq3) (fun _=>?_);refine goN ?_;refine nF rfl (iA rfl IV rfl).2 (ja p7.pl n E.hw) rfl rfl ?_;rintro _ _ ⟨h8,n8,rfl,rfl,p8⟩;rw[E.hvw.1,E.hvw.2]
 haveI:SuC n8 (n8+1):=⟨rfl⟩
 refine goN ?_;refine nF rfl (iA rfl EI rfl).2 (nh p8.pl n E.hx) rfl rfl ?_;rintro _ _ ⟨rfl,rfl⟩;rw[E.hvx.1];refine goN ?_;refine nF rfl (iA rfl PY rfl).2 (iu (p8.pl.more _)) rfl rfl ?_;rintro _ _ ⟨rfl,rfl⟩;refine goN ?_;rw[decide_eq_true E.hvx.2.1];refine goN ?_;refine nF rfl (iA rfl PY rfl).2 (iu (p8.pl.more _)) rfl rfl ?_;rintro _ _ ⟨rfl,rfl⟩;refine goN ?_;rw[decide_eq_true E.hvx.2.2];refine goN ?_;exact qz tA rfl rfl rfl (p8.pl.more _).lo (p8.pl.more (.row (kI x.1) 39)).le (by simp[aT]) ⟨rfl,rfl⟩
instance:uS tb 237 [.nils,.nils,.nils] [(0,1),(1,1),(2,1)]:=⟨vV QM.h Up.h rfl qq1⟩
abbrev NJ(a)(b:Nat)(c)(d:Nat)(e)(f:Nat)(g)(h):=([(6,.bv b7 a 79 2 b),(5,.row [.vl 6 b 0 a.length] 39),(4,.bv (cI .i64) c 3 1 d),(3,.bv (cI .i64) e 3 1 f),(2,.row [.iM b7 g,.vl 3 f 0 e.length,.vl 4 d 0 c.length] 237),(1,.row [.nils] 39),(0,.row [.iM b7 h] 39)]:X (Nat×B))
abbrev NI(a)(b:Nat)(c:Nat)(d)(e):=([(0,.row [.iM b7 a,.vl 1 b 0 d.length,.vl 2 c 0 e.length] 237),(1,.bv (cI .i64) d 3 1 b),(2,.bv (cI .i64) e 3 1 c)]:X (Nat×B))
abbrev Hk(a):=([(1,.row [.nils] 39),(0,.row [.iM b7 a] 39)]:X (Nat×B))
def Jk(p1:X aR)(z6:Int)(l7:X aR)(cA:Int->(X aR)->V ((X aR)))(dS:Int):V ((X aR)):=
 aF ((0:Int)<=dS/\dS<=((l7.length:Nat):Int)) (
 aF (0+dS.toNat<=l7.length) (
 aF (((l7.drop 0).take dS.toNat).length*16<=140737488355328/\((l7.drop 0).take dS.toNat).length<=140737488355328) (
 a8 (aB p1 z6) fun oW=>
 aF ((((l7.drop 0).take dS.toNat).length+1)*16<=140737488355328/\((l7.drop 0).take dS.toNat).length+1<=140737488355328) (
 aF ((0:Int)<=dS/\dS<=((l7.length:Nat):Int)) (
 aF ((0+dS.toNat)+(l7.length-dS.toNat)<=l7.length) (
 aF (((((l7.drop 0).take dS.toNat)++[oW]).length+((l7.drop (0+dS.toNat)).take (l7.length-dS.toNat)).length)*16<=140737488355328/\(((l7.drop 0).take dS.toNat)++[oW]).length+((l7.drop (0+dS.toNat)).take (l7.length-dS.toNat)).length<=140737488355328) (
 cA (IntKind.i64.wrap (z6+1)) ((((l7.drop 0).take dS.toNat)++[oW])++((l7.drop (0+dS.toNat)).take (l7.length-dS.toNat))))))))))
def Jj(p1:X aR)(z6:Int)(l7:X aR)(cA:Int->(X aR)->V ((X aR))):Nat->Int->V ((X aR))
 |0,_=>none|m2+1,QD=>a8 (cond (decide (QD>0)) (a8 (aB l7 (IntKind.i64.wrap (QD-1))) fun uU=>a8 (aB p1 z6) fun lJ=>some (decide (uU.Feat>lJ.Feat))) (some false)) fun b33=>cond b33 ((Jj p1 z6 l7 cA m2) (IntKind.i64.wrap (QD-1))) (Jk p1 z6 l7 cA QD)
def ur  (l9:X aR):V ((X aR)):=
 some l9
def OD(p1:X aR)(n:Nat):Nat->Int->(X aR)->V ((X aR))
 |0,_,_=>none|m1+1,z6,l7=>cond (decide (z6<(p1.length:Int))) (Jj p1 z6 l7 (OD p1 n m1) n (l7.length:Int)) (ur l7)
def Qv(n:Nat)(p1:X aR):V ((X aR)):=
 OD p1 n n 0 ([]:X aR)
theorem qge(n:Nat)(p1:X aR)(r:(X aR))(O:Qv n p1=some r):aW prog 142 [.isl false (p1.map bF)] ⟨[],0⟩ (fun u Y'=>∃t,u=.vl 0 t 0 r.length/\Y'=⟨[(0,.bv bF r 105 2 t)],0+1⟩):=by unfold Qv at O;refine lG 52 J2 ?_;refine gr ?_;refine gr ?_;refine gr ?_;refine gV 3 105 2 1 ?_;refine nN (a3:=0) (fun m z6 l7 _=>OD p1 n m z6 l7) (fun z6 l7 t8=>[(0,.iM bF p1),(3,.vl 0 t8 0 l7.length),(4,.i6 z6)]) (fun _ l7 t8=>⟨[(0,.bv bF l7 105 2 t8)],1⟩) (lH (fun l9 _=>ur l9) (fun l9 eQ=>[(3,.vl 0 eQ 0 l9.length)]) (fun l9 eQ=>⟨[(0,.bv bF l9 105 2 eQ)],1⟩)) O (nD ?_) ?_;intro l9 eQ O;unfold ur at O;refine go ?_;obtain rfl:=sI O;exact⟨.inr rfl,[.vl 0 eQ 0 l9.length],dT rfl eD,.vl 0 eQ 0 l9.length,⟨[(0,.bv bF l9 105 2 eQ)],1⟩,NZ,Gh.trans (Gh.only (fun k=>Nat.beq k 0)) (Gh.to (n1:=1) [] rfl rfl NZ NL m9.h BH.h),eQ,rfl,rfl⟩;intro m1 z6 l7 t8 O;unfold OD at O;refine gG O ?_ ?_<;>intro jT O;refine go ?_;refine oG (Jj p1 z6 l7 (OD p1 n m1)) (fun QD=>[(0,.iM bF p1),(3,.vl 0 t8 0 l7.length),(4,.i6 z6),(5,.i6 QD)]) (fun _=>⟨[(0,.bv bF l7 105 2 t8)],1⟩) (pW (Jk p1 z6 l7 (OD p1 n m1)) (fun dS=>[(0,.iM bF p1),(3,.vl 0 t8 0 l7.length),(4,.i6 z6),(5,.i6 dS)]) (fun _=>⟨[(0,.bv bF l7 105 2 t8)],1⟩)) O (tX ?_) ?_;intro dS O;unfold Jk at O;obtain⟨kE,O⟩:=c6 O;obtain⟨tE,O⟩:=c6 O;obtain⟨tU,O⟩:=c6 O;refine go ?_;refine aY (u:=.vl 0 t8 0 dS.toNat) rfl (L1 rfl MD (MC rfl) (Ln bF fS.h (bB hX.h) vI (vo rfl) (Nat.le_of_eq (Nat.zero_add _)) (ij kE.1 kE.2))) (aY (u:=.vl 1 0 0 (((l7.drop 0).take dS.toNat).length)) (Y':=⟨[(1,.bv bF ((l7.drop 0).take dS.toNat) 105 2 0),(0,.bv bF l7 105 2 t8)],2⟩) rfl (pQ rfl rfl rfl rfl (rk bF ((l7.drop 0).take dS.toNat) fS.h fS.h hX.h rfl (wb bF vI (vo rfl) tE) tU)) ?_);obtain⟨oW,tD,O⟩:=aI O;obtain⟨pJ,O⟩:=c6 O;refine gI tD ?_;refine aY (u:=.sl 2 0 1 1) (Y':=⟨[(2,.row (bF oW) 105),(1,.bv bF ((l7.drop 0).take dS.toNat) 105 2 0),(0,.bv bF l7 105 2 t8)],3⟩) rfl (yJ fS.h hX.h rfl rfl rfl rfl rfl rfl rfl) ?_;refine c5 ?_;obtain⟨IR,O⟩:=c6 O;obtain⟨o4,O⟩:=c6 O;obtain⟨EG,O⟩:=c6 O;refine go ?_;refine aY (u:=.vl 0 t8 (0+dS.toNat) (l7.length-dS.toNat)) rfl (L1 rfl (MC rfl) MD (Ln bF fS.h (bB hX.h) vI (vo rfl) (Nat.le_of_eq (Nat.zero_add _)) (ii IR.1 IR.2))) (aY (u:=.vl 1 2 0 (((((l7.drop 0).take dS.toNat)++[oW])++((l7.drop (0+dS.toNat)).take (l7.length-dS.toNat))).length)) (Y':=⟨[(2,.row (bF oW) 105),(1,.bv bF ((((l7.drop 0).take dS.toNat)++[oW])++((l7.drop (0+dS.toNat)).take (l7.length-dS.toNat))) 105 2 2),(0,.bv bF l7 105 2 t8)],3⟩) rfl (pQ rfl rfl rfl rfl (DN bF ((l7.drop (0+dS.toNat)).take (l7.length-dS.toNat)) fS.h fS.h hX.h rfl vI rfl (wb bF vI (vo rfl) o4) EG)) ?_);refine go ?_;exact⟨m1,_,_,zN _,⟨(IntKind.i64.wrap (z6+1)),((((l7.drop 0).take dS.toNat)++[oW])++((l7.drop (0+dS.toNat)).take (l7.length-dS.toNat))),2,O,rfl,rfl⟩,NZ,Gh.trans (Gh.sub (l':=[(0,.iM bF p1),(3,.vl 1 2 0 (((((l7.drop 0).take dS.toNat)++[oW])++((l7.drop (0+dS.toNat)).take (l7.length-dS.toNat))).length)),(4,.i6 (IntKind.i64.wrap (z6+1)))]) ⟨rfl,rfl,rfl,trivial⟩) (Gh.trans (Gh.mv (l':=[(0,.iM bF p1),(3,.vl 0 2 0 (((((l7.drop 0).take dS.toNat)++[oW])++((l7.drop (0+dS.toNat)).take (l7.length-dS.toNat))).length)),(4,.i6 (IntKind.i64.wrap (z6+1)))]) (h':=[(2,.row (bF oW) 105),(0,.bv bF ((((l7.drop 0).take dS.toNat)++[oW])++((l7.drop (0+dS.toNat)).take (l7.length-dS.toNat))) 105 2 2)]) 0 1 NZ rfl rfl (by simp only[rS,rU,fB,RT,yS,Nat.beq,zC,zD]) rfl (by simp only[Zt,rB,Gl,fB,rU,RT,wg,yS,Nat.beq,zC,zD,and_self])) (M8 (n1:=1) ⟨rfl,rfl,rfl,trivial⟩ rfl NZ qq4))⟩;intro m2 QD O;unfold Jj at O;obtain⟨b33,nM,O⟩:=aI O;refine gn ?_;refine nE [(0,.iM bF p1),(3,.vl 0 t8 0 l7.length),(4,.i6 z6),(5,.i6 QD),(30,.bool b33)] ⟨[(0,.bv bF l7 105 2 t8)],1⟩ ?_ ?_;refine gG O ?_ ?_<;>intro rQ O;exact wx O;exact wx O;refine dE [] ?_;refine gd ?_;rcases gB nM with⟨xO,nM⟩|⟨xO,nM⟩;obtain⟨uU,tT,nM⟩:=aI nM;obtain⟨lJ,oE,nM⟩:=aI nM;obtain rfl:=sI nM;refine gd ?_;refine RD.w rfl (dZ rfl rfl (kC bF fS.h (bB hX.h) qq3 vI (vo rfl) tT)) ?_;refine RD.w rfl (pO tH.h rfl (bB iG.h) rfl (DK rfl) rfl) (RD.w (u:=.i6 uU.Feat) rfl (F7 bF sD.h rfl vI rfl rfl (AN tT) rfl) ?_);refine gJ oE ?_;refine bC ⟨by kernel_rfl,trivial,?_⟩;refine go ?_;exact mS;obtain rfl:=sI nM;refine gd ?_;refine bC ⟨by kernel_rfl,trivial,?_⟩;refine go ?_;exact mS;exact wx O
def Js(fA:Int)(cA:Int->(X Int)->(X Int)->V ((X Int)×(X Int)))(AW:X Int)(Jx:X Int):V ((X Int)×(X Int)):=
 cA (IntKind.i64.wrap (fA+1)) AW Jx
def pc  (l27:X Int) (bU:X Int):V ((X Int)×(X Int)):=
 some (l27,bU)
def SN(p2:X aO)(fV:X aR)(self:Int->(X aO)->(X Int)->(X Int)->V ((X Int)×(X Int))):Nat->Int->(X Int)->(X Int)->V ((X Int)×(X Int))
 |0,_,_,_=>none|m1+1,fA,lB,p9=>
  cond (decide (fA<(fV.length:Int))) (a8 (aB fV fA) fun lJ=>
   a8 (aB lB lJ.To) fun pZ=>cond (decide (pZ<0)) (a8 (aB fV fA) fun x39=>
    a8 (self x39.To p2 lB p9) fun R3=>
    Js fA (SN p2 fV self m1) R3.1 R3.2) (Js fA (SN p2 fV self m1) lB p9)) (pc lB p9)
def sx(n:Nat)(self:Int->(X aO)->(X Int)->(X Int)->V ((X Int)×(X Int)))(p1:Int)(p2:X aO)(p3:X Int)(p5:X Int):V ((X Int)×(X Int)):=
 a8 (aB p3 p1) fun x7=>
 aF ((p5.length+1)*8<=140737488355328/\p5.length+1<=140737488355328) (
 a8 (aB p2 p1) fun x10=>
 a8 (Qv n x10.Arcs) fun fV=>
 SN p2 fV self n 0 (p3.set (0+p1.toNat) (p5.length:Int)) (p5++[p1]))
def OH:Nat->Int->(X aO)->(X Int)->(X Int)->V ((X Int)×(X Int))
 |0,_,_,_,_=>none|n+1,p1,p2,p3,p5=>sx n (OH n) p1 p2 p3 p5
theorem qaf:∀(n:Nat)(p1:Int)(p2:X aO)(p3:X Int)(p5:X Int)(r:(X Int)×(X Int)),OH n p1 p2 p3 p5=some r->∀t4 t6:Nat,aW prog 141 [.ptr 0 0 0,.int .i64 p1] ⟨NI p2 t4 t6 p3 p5,3⟩ (fun u Y'=>∃t:Nat->Nat,u=.tup []/\Y'=⟨NI p2 t4 (t 0) r.1 r.2,3⟩)
 |0,p1,p2,p3,p5,r,O=>by cases O
 |n+1,p1,p2,p3,p5,r,O=>by have ih:=qaf n;unfold OH sx at O;intro t4 t6;refine eL 62 J3 ?_;obtain⟨x7,h8,O⟩:=aI O;refine gn ?_;refine nE [(0,.ptr 0 0 0),(1,.i6 p1)] ⟨NI p2 t4 t6 (p3.set (0+p1.toNat) (p5.length:Int)) p5,3⟩ ?_ ?_;obtain⟨h9,O⟩:=c6 O;refine go ?_;refine aY (u:=.ptr 0 0 0) rfl (DJ rfl rfl) ?_;refine go ?_;refine c5 ?_;refine c5 ?_;refine aY (u:=.ptr 0 0 0) rfl (DJ rfl rfl) ?_;obtain⟨x10,jT,fV,eB,O⟩:=bO O;refine go ?_;refine aY (u:=.ptr 0 0 0) rfl (DJ rfl rfl) ?_;refine gI jT ?_;refine nF (R:=fun u Y'=>u=.vl 4 0 0 fV.length/\Y'=⟨(4,.bv bF fV 105 2 0)::(3,.row [.i6 p1] 3)::NI p2 t4 (t6+1) (p3.set (0+p1.toNat) (p5.length:Int)) (p5++[p1]),5⟩) (args:=[.iM bF x10.Arcs]) rfl (yN rfl rfl J2 rfl rfl rfl) (qp bF (qge n x10.Arcs fV eB) _ 4 rfl) rfl rfl ?_;rintro _ _ ⟨rfl,rfl⟩;refine go ?_;refine gL (fun m tm Y=>∃fA lB,∃p9 dw,SN p2 fV (OH n) m fA lB p9=some r/\tm=fr 62 [(0,.ptr 0 0 0),(4,.vl 4 0 0 fV.length),(5,.i6 fA)]/\Y=⟨(4,.bv bF fV 105 2 0)::(3,.row [.i6 p1] 3)::NI p2 t4 dw lB p9,5⟩) (fun tm Y=>∃l27 bU iX,pc l27 bU=some r/\tm=fr 62 []/\Y=⟨(4,.bv bF fV 105 2 0)::(3,.row [.i6 p1] 3)::NI p2 t4 iX l27 bU,5⟩) n ⟨0,(p3.set (0+p1.toNat) (p5.length:Int)),(p5++[p1]),(t6+1),O,rfl,rfl⟩ ?_ ?_;rintro _ _ ⟨l27,bU,iX,O,rfl,rfl⟩;unfold pc at O;refine go ?_;obtain rfl:=sI O;exact⟨.inl rfl,[],eD,.tup [],⟨NI p2 t4 iX l27 bU,3⟩,NL,Gh.to (n1:=3) [] rfl rfl NL NL m9.h BH.h,stF [iX],rfl,rfl⟩;rintro(_|m1) _ _ ⟨fA,lB,p9,dw,O,rfl,rfl⟩;cases O;unfold SN at O;refine gG O ?_ ?_<;>intro tT O;obtain⟨lJ,oE,pZ,nM,O⟩:=bO O;refine go ?_;refine dE [] ?_;refine gd ?_;refine aV (u:=.ptr 0 0 0) rfl (DJ rfl rfl) ?_;refine gd ?_;refine aV rfl (dZ rfl rfl (kC bF fS.h (bB hX.h) qq3 vI (vo rfl) oE)) ?_;refine aV rfl (pO tH.h rfl (bB iG.h) rfl (DK rfl) rfl) (aV (u:=.i6 lJ.To) rfl (F7 bF sD.h rfl vI rfl rfl (AN oE) rfl) ?_);refine aV rfl (dZ rfl rfl (kC (cI .i64) cU.h (bB iG.h) qq3 (mC .i64) (vo rfl) nM)) ?_;refine aV rfl (sY (cI .i64) (fun x=>.i6 x) sD.h rfl (fun _=>rfl) rfl rfl nM) ?_;refine gd ?_;refine bC ⟨by kernel_rfl,trivial,?_⟩;refine gn ?_;refine Wj3 r (fun AW Jx _=>Js fA (SN p2 fV (OH n) m1) AW Jx) (fun _ _ _=>[(0,.ptr 0 0 0),(4,.vl 4 0 0 fV.length),(5,.i6 fA)]) (fun AW Jx t38=>⟨(4,.bv bF fV 105 2 0)::(3,.row [.i6 p1] 3)::NI p2 t4 t38 AW Jx,5⟩) ?_ ?_;intro AW Jx t38 O;unfold Js at O;exact wx O;refine cF O ?_ ?_<;>intro rQ O;obtain⟨x39,xM,R3,vS,O⟩:=bO O;refine go ?_;refine aY rfl (dZ rfl rfl (kC bF fS.h (bB hX.h) qq3 vI (vo rfl) xM)) ?_;refine aY rfl (pO tH.h rfl (bB iG.h) rfl (DK rfl) rfl) (aY (u:=.i6 x39.To) rfl (F7 bF sD.h rfl vI rfl rfl (AN xM) rfl) (nF (args:=[.ptr 0 0 0,.i6 x39.To]) rfl (yN rfl rfl J3 rfl rfl rfl) (aW.st [0,1,2] (ih x39.To p2 lB p9 R3 vS t4 dw)) rfl rfl ?_));rintro _ _ ⟨Nj,rfl,rfl⟩;exact wx O;exact wx O;exact wx O;refine dE [] ?_;refine gd ?_;refine aV (u:=.ptr 0 0 0) rfl (DJ rfl rfl) ?_;refine gd ?_;refine aV (u:=.ptr 0 0 0) rfl (DJ rfl rfl) ?_;refine gd ?_;refine aV rfl (dZ rfl rfl (kC (cI .i64) cU.h (bB iG.h) qq3 (mC .i64) (vo rfl) h8)) ?_;refine Fj (u:=.junk) (Y':=⟨[(0,.row [.iM b7 p2,.vl 1 t4 0 p3.length,.vl 2 t6 0 p5.length] 237),(1,.bv (cI .i64) (p3.set (0+p1.toNat) (p5.length:Int)) 3 1 t4),(2,.bv (cI .i64) p5 3 1 t6)],3⟩) rfl (tf (cI .i64) (bB iG.h) (mC .i64) rfl rfl rfl rfl rfl rfl rfl (AN h8) rfl) rfl ?_;refine bC ⟨by kernel_rfl,trivial,?_⟩;refine go ?_;exact⟨_,_,⟨rfl,rfl⟩,NL,D7 ⟨rfl,rfl,trivial⟩ (by simp only[NI,List.length_set])⟩
def Rb(nP:Int)(l27:X aO)(i8:Int->(X aO)->V (GFS))(oV:aO)(AV:X aR):V (GFS):=
 aF ((l27.length+1)*32<=140737488355328/\l27.length+1<=140737488355328) (
 i8 (IntKind.i64.wrap (nP+1)) (l27++[(aO.mk oV.Typex AV)]))
def YW(lN:(X Int)×(X Int))(nP:Int)(l27:X aO)(i8:Int->(X aO)->V (GFS))(oV:aO):Nat->Int->(X aR)->V (GFS)
 |0,_,_=>none|m3+1,EQ,sK=>
  cond (decide (EQ<(sK.length:Int))) (a8 (aB sK EQ) fun BR=>
   a8 (aB lN.1 BR.To) fun G8=>
   a8 (aB sK EQ) fun Fm=>(YW lN nP l27 i8 oV m3) (IntKind.i64.wrap (EQ+1)) (sK.set (0+EQ.toNat) (aR.mk Fm.Feat G8))) (Rb nP l27 i8 oV sK)
def yn  (wN:X aO):V (GFS):=
 some (GFS.mk wN)
def O0(p1:GFS)(n:Nat)(lN:(X Int)×(X Int)):Nat->Int->(X aO)->V (GFS)
 |0,_,_=>none|m2+1,nP,l27=>
  cond (decide (nP<(lN.2.length:Int))) (a8 (aB lN.2 nP) fun sR=>
   a8 (aB p1.Nodes sR) fun oV=>
   a8 (Qv n oV.Arcs) fun Nw=>
   YW lN nP l27 (O0 p1 n lN m2) oV n 0 Nw) (yn l27)
def Rd(p1:GFS)(p2:Int)(n:Nat)(fQ:X Int):V (GFS):=
 a8 (OH n p2 p1.Nodes fQ ([]:X Int)) fun lN=>
 O0 p1 n lN n 0 ([]:X aO)
def Ix(p1:GFS)(p2:Int)(n:Nat):Nat->Int->(X Int)->V (GFS)
 |0,_,_=>none|m1+1,z9,l10=>cond (decide (z9<(p1.Nodes.length:Int))) (aF ((l10.length+1)*8<=140737488355328/\l10.length+1<=140737488355328) ((Ix p1 p2 n m1) (IntKind.i64.wrap (z9+1)) (l10++[(-1)]))) (Rd p1 p2 n l10)
def Hz(n:Nat)(p1:GFS)(p2:Int):V (GFS):=
 Ix p1 p2 n n 0 ([]:X Int)
theorem qjv(n:Nat)(p1:GFS)(p2:Int)(r:GFS)(O:Hz n p1 p2=some r):cY prog 101 [.agg [.isl false (p1.Nodes.map b7)],.int .i64 p2] (.agg [.isl false (r.Nodes.map b7)]):=by unfold Hz at O;refine eL 88 JC ?_;refine gr ?_;refine gr ?_;refine gr ?_;refine dF (tm':=fr 88 [(1,.i6 p2),(2,.ptr 0 0 0),(4,.ptr 1 0 0),(5,.ptr 2 0 0),(6,.i6 0)]) (Y':=⟨(3,.bv (cI .i64) ([]:X Int) 3 1 0)::(2,.row [.iM b7 p1.Nodes,.vl 3 0 0 (([]:X Int).length),.nils] 237)::Hk p1.Nodes,4⟩) (Gh.trans (BO 2 1 3 1 qq3 NZ rfl rfl) (D7 ⟨rfl,rfl,rfl,rfl,rfl,trivial⟩ rfl)) NZ ?_;refine nN (a3:=0) (fun m z9 l10 _=>Ix p1 p2 n m z9 l10) (fun z9 _ _=>[(1,.i6 p2),(2,.ptr 0 0 0),(4,.ptr 1 0 0),(5,.ptr 2 0 0),(6,.i6 z9)]) (fun _ l10 sE=>⟨(3,.bv (cI .i64) l10 3 1 sE)::(2,.row [.iM b7 p1.Nodes,.vl 3 sE 0 l10.length,.nils] 237)::Hk p1.Nodes,4⟩) (lH (fun fQ _=>Rd p1 p2 n fQ) (fun _ _=>[(1,.i6 p2),(2,.ptr 0 0 0),(4,.ptr 1 0 0),(5,.ptr 2 0 0)]) (fun fQ mU=>⟨(3,.bv (cI .i64) fQ 3 1 mU)::(2,.row [.iM b7 p1.Nodes,.vl 3 mU 0 fQ.length,.nils] 237)::Hk p1.Nodes,4⟩)) O (nD ?_) ?_;intro fQ mU O;unfold Rd at O;refine gn ?_;refine dF (tm':=fr 88 [(1,.i6 p2),(2,.ptr 0 0 0),(4,.ptr 1 0 0),(5,.ptr 2 0 0)]) (Y':=⟨(4,.bv (cI .i64) ([]:X Int) 3 1 0)::(3,.bv (cI .i64) fQ 3 1 mU)::(2,.row [.iM b7 p1.Nodes,.vl 3 mU 0 fQ.length,.vl 4 0 0 (([]:X Int).length)] 237)::Hk p1.Nodes,5⟩) (Gh.trans (BO 2 2 3 1 qq3 NZ rfl rfl) (D7 ⟨rfl,rfl,rfl,rfl,trivial⟩ rfl)) NZ ?_;obtain⟨lN,lV,O⟩:=aI O;refine go ?_;refine nF (args:=[.ptr 2 0 0,.i6 p2]) rfl (yN rfl rfl J3 rfl rfl rfl) (aW.st [2,3,4] (qaf n p2 p1.Nodes fQ ([]:X Int) lN lV mU 0)) rfl rfl ?_;rintro _ _ ⟨fK,rfl,rfl⟩;refine gr ?_;refine gr ?_;refine dF (tm':=fr 88 [(2,.ptr 0 0 0),(4,.ptr 1 0 0),(5,.ptr 2 0 0),(7,.ptr 5 0 0),(8,.i6 0)]) (Y':=⟨(6,.bv b7 ([]:X aO) 79 2 0)::(5,.row [.vl 6 0 0 (([]:X aO).length)] 39)::(4,.bv (cI .i64) lN.2 3 1 (fK 0))::(3,.bv (cI .i64) lN.1 3 1 mU)::(2,.row [.iM b7 p1.Nodes,.vl 3 mU 0 lN.1.length,.vl 4 (fK 0) 0 lN.2.length] 237)::Hk p1.Nodes,7⟩) (Gh.trans (BO 5 0 79 2 qq3 NZ rfl rfl) (D7 ⟨rfl,rfl,rfl,rfl,rfl,trivial⟩ rfl)) NZ ?_;refine nN (a3:=0) (fun m nP l27 _=>O0 p1 n lN m nP l27) (fun nP _ _=>[(2,.ptr 0 0 0),(4,.ptr 1 0 0),(5,.ptr 2 0 0),(7,.ptr 5 0 0),(8,.i6 nP)]) (fun _ l27 BV=>⟨NJ l27 BV lN.2 (fK 0) lN.1 mU p1.Nodes p1.Nodes,7⟩) (lH (fun wN _=>yn wN) (fun _ _=>[(4,.ptr 1 0 0),(7,.ptr 5 0 0)]) (fun wN XE=>⟨NJ wN XE lN.2 (fK 0) lN.1 mU p1.Nodes p1.Nodes,7⟩)) O (nD ?_) ?_;intro wN XE O;unfold yn at O;refine go ?_;obtain rfl:=sI O;exact rT (us:=[.agg [.vl 6 XE 0 wN.length]]) (u:=.agg [.iM b7 wN]) (nH (kL fT.h rfl (bB hJ.h) rfl rfl rfl) (eD)) (fR 6 2);intro m2 nP l27 BV O;unfold O0 at O;refine go ?_;refine aY (u:=.ptr 2 0 0) rfl (DJ rfl rfl) ?_;refine gG O ?_ ?_<;>intro BM O;obtain⟨sR,vT,oV,rQ,O⟩:=bO O;refine go ?_;refine dE [(0,11),(1,11),(2,11),(3,11),(4,11),(5,11),(6,11),(7,11),(8,11),(9,11),(10,11)] ?_;refine gd ?_;refine aV (u:=.ptr 2 0 0) rfl (DJ rfl rfl) ?_;refine gd ?_;refine aV rfl (dZ rfl rfl (kC (cI .i64) cU.h (bB iG.h) qq3 (mC .i64) (vo rfl) vT)) ?_;refine aV rfl (sY (cI .i64) (fun x=>.i6 x) sD.h rfl (fun _=>rfl) rfl rfl vT) ?_;refine dU rQ ?_;refine gd ?_;refine eN ?_;refine qM ?_;refine bC ⟨by kernel_rfl,⟨pO fT.h rfl (bB E3.h) rfl rfl rfl,⟨yL iI.h rfl rfl rfl rfl,⟨oD rfl,⟨DJ rfl rfl,⟨pO QM.h rfl (bB Us.h) rfl rfl rfl,⟨yL cU.h rfl rfl rfl rfl,⟨oD rfl,⟨dZ rfl rfl (kC (cI .i64) cU.h (bB iG.h) qq3 (mC .i64) (vo rfl) vT),⟨sY (cI .i64) (fun x=>.i6 x) sD.h rfl (fun _=>rfl) rfl rfl vT,⟨dZ rfl rfl (Gq b7 iI.h (bB mX.h) vd rQ rfl),⟨z7t u9.h rfl (bB mX.h) rfl rfl,trivial⟩⟩⟩⟩⟩⟩⟩⟩⟩⟩⟩,?_⟩;obtain⟨Nw,FX,O⟩:=aI O;refine go ?_;refine nF (R:=fun u Y'=>u=.vl 8 0 0 Nw.length/\Y'=⟨(8,.bv bF Nw 105 2 0)::(7,.row (b7 oV) 79)::NJ l27 BV lN.2 (fK 0) lN.1 mU p1.Nodes p1.Nodes,9⟩) (args:=[.iM bF oV.Arcs]) rfl (yN rfl rfl J2 rfl rfl rfl) (qp bF (qge n oV.Arcs Nw FX) _ 8 rfl) rfl rfl ?_;rintro _ _ ⟨rfl,rfl⟩;refine go ?_;refine D3 (YW lN nP l27 (O0 p1 n lN m2) oV) (fun EQ sK=>[(2,.ptr 0 0 0),(4,.ptr 1 0 0),(5,.ptr 2 0 0),(7,.ptr 5 0 0),(8,.i6 nP),(9,.ptr 7 0 0),(10,.vl 8 0 0 sK.length),(11,.i6 EQ)]) (fun _ sK=>⟨(8,.bv bF sK 105 2 0)::(7,.row (b7 oV) 79)::NJ l27 BV lN.2 (fK 0) lN.1 mU p1.Nodes p1.Nodes,9⟩) (pW (Rb nP l27 (O0 p1 n lN m2) oV) (fun AV=>[(2,.ptr 0 0 0),(4,.ptr 1 0 0),(5,.ptr 2 0 0),(7,.ptr 5 0 0),(8,.i6 nP),(9,.ptr 7 0 0),(10,.vl 8 0 0 AV.length)]) (fun AV=>⟨(8,.bv bF AV 105 2 0)::(7,.row (b7 oV) 79)::NJ l27 BV lN.2 (fK 0) lN.1 mU p1.Nodes p1.Nodes,9⟩)) O (tX ?_) ?_;intro AV O;unfold Rb at O;refine gn ?_;refine dF (tm':=fr 88 [(2,.ptr 0 0 0),(4,.ptr 1 0 0),(5,.ptr 2 0 0),(7,.ptr 5 0 0),(8,.i6 nP),(9,.ptr 7 0 0),(10,.iM bF AV)]) (Y':=⟨(7,.row (b7 oV) 79)::NJ l27 BV lN.2 (fK 0) lN.1 mU p1.Nodes p1.Nodes,9⟩) (Gh.trans (Gh.sub (l':=[(2,.ptr 0 0 0),(4,.ptr 1 0 0),(5,.ptr 2 0 0),(7,.ptr 5 0 0),(8,.i6 nP),(9,.ptr 7 0 0),(10,.vl 8 0 0 AV.length)]) ⟨rfl,rfl,rfl,rfl,rfl,rfl,rfl,trivial⟩) (JV 8 2)) NZ ?_;obtain⟨bo,O⟩:=c6 O;refine go ?_;refine c5 ?_;refine c5 ?_;exact wx O;intro m3 EQ sK O;unfold YW at O;refine gG O ?_ ?_<;>intro U4 O;obtain⟨BR,Kz,G8,Xk,Fm,Xj,O⟩:=oM O;refine gn ?_;refine nE [(2,.ptr 0 0 0),(4,.ptr 1 0 0),(5,.ptr 2 0 0),(7,.ptr 5 0 0),(8,.i6 nP),(9,.ptr 7 0 0),(10,.vl 8 0 0 ((sK.set (0+EQ.toNat) (aR.mk Fm.Feat G8)).length)),(11,.i6 EQ)] ⟨(8,.bv bF (sK.set (0+EQ.toNat) (aR.mk Fm.Feat G8)) 105 2 0)::(7,.row (b7 oV) 79)::NJ l27 BV lN.2 (fK 0) lN.1 mU p1.Nodes p1.Nodes,9⟩ ?_ ?_;exact wx O;refine dE [] ?_;refine gd ?_;refine aV (u:=.ptr 2 0 0) rfl (DJ rfl rfl) ?_;refine gd ?_;refine aV rfl (dZ rfl rfl (kC bF fS.h (bB hX.h) qq3 vI (vo rfl) Kz)) ?_;refine aV rfl (pO tH.h rfl (bB iG.h) rfl (DK rfl) rfl) (aV (u:=.i6 BR.To) rfl (F7 bF sD.h rfl vI rfl rfl (AN Kz) rfl) ?_);refine aV rfl (dZ rfl rfl (kC (cI .i64) cU.h (bB iG.h) qq3 (mC .i64) (vo rfl) Xk)) ?_;refine aV rfl (sY (cI .i64) (fun x=>.i6 x) sD.h rfl (fun _=>rfl) rfl rfl Xk) ?_;refine aV rfl (dZ rfl rfl (kC bF fS.h (bB hX.h) qq3 vI (vo rfl) Xj)) ?_;refine aV rfl (pO tH.h rfl (bB iG.h) rfl (DK rfl) rfl) (Fj (u:=.junk) (Y':=⟨(8,.bv bF (sK.set (0+EQ.toNat) (aR.mk Fm.Feat G8)) 105 2 0)::(7,.row (b7 oV) 79)::NJ l27 BV lN.2 (fK 0) lN.1 mU p1.Nodes p1.Nodes,9⟩) rfl (tg (y:=(aR.mk Fm.Feat G8)) bF (bB iG.h) vI rfl rfl rfl rfl rfl rfl (AN Xj) rfl rfl) rfl ?_);refine bC ⟨by kernel_rfl,trivial,?_⟩;refine go ?_;exact⟨_,_,⟨rfl,rfl⟩,NZ,D7 ⟨rfl,rfl,rfl,rfl,rfl,rfl,(by simp only[Hk,NJ,List.length_set];rfl),rfl,trivial⟩ rfl⟩;exact wx O;exact wx O;intro m1 z9 l10 sE O;unfold Ix at O;refine gG O ?_ ?_<;>intro h63 O;obtain⟨vQ,O⟩:=c6 O;refine go ?_;refine aY (u:=.ptr 2 0 0) rfl (DJ rfl rfl) ?_;refine go ?_;refine c5 ?_;refine c5 ?_;refine aY (u:=.ptr 2 0 0) rfl (DJ rfl rfl) ?_;exact wx O;exact wx O
def yj: V (Int×PE):=
 some (0,false)
def Is(p3:Int)(x4:aO):Nat->Int->V (Int×PE)
 |0,_=>none|m1+1,dX=>cond (decide (dX<(x4.Arcs.length:Int))) (a8 (aB x4.Arcs dX) fun qA=>cond (qA.Feat==p3) (a8 (aB x4.Arcs dX) fun tG=>some (tG.To,true)) ((Is p3 x4 m1) (IntKind.i64.wrap (dX+1)))) (yj)
def Pv(n:Nat)(p1:GFS)(p2:Int)(p3:Int):V (Int×PE):=
 a8 (aB p1.Nodes p2) fun x4=>
 Is p3 x4 n 0
theorem qrt(n:Nat)(p1:GFS)(p2:Int)(p3:Int)(r:Int×PE)(O:Pv n p1 p2 p3=some r):cY prog 166 [.agg [.isl false (p1.Nodes.map b7)],.int .i64 p2,.int .i64 p3] (.tup [.int .i64 r.1,.bool r.2]):=by unfold Pv at O;refine xU 34 UF ?_;obtain⟨x4,h5,O⟩:=aI O;refine gI h5 ?_;refine oG (Is p3 x4) (fun dX=>[(2,.i6 p3),(8,.iM bF x4.Arcs),(9,.i6 dX)]) (fun _=>⟨[(0,.row [.iM b7 p1.Nodes] 39)],1⟩) (pK yj [] ⟨[(0,.row [.iM b7 p1.Nodes] 39)],1⟩) O (rY ?_) ?_;intro O;unfold yj at O;refine go ?_;obtain rfl:=sI O;exact y5 rfl rfl rfl rfl rfl;intro m1 dX O;unfold Is at O;refine gG O ?_ ?_<;>intro jT O;obtain⟨qA,eB,O⟩:=aI O;refine go ?_;refine cB eB ?_;refine gF O ?_ ?_<;>intro i7 O;obtain⟨tG,qL,O⟩:=aI O;refine gI qL ?_;obtain rfl:=sI O;exact y5 rfl rfl rfl rfl rfl;exact wx O;exact wx O
end Go.Proofs
namespace Go.Vx
open Go Go.Rx
theorem q_(K:Nat)(b:B)(sz:Nat):∀(l m:X U),gU K b sz (l++m)=gU K b sz l++gU K b sz m
 |[],m=>by simp[vF]
 |u::l,m=>by rw[List.cons_append,sZ,sZ,q_ K b sz l m,List.cons_append]
theorem Gh.three{n:Nat}{l:X (Nat×U)}{h:X (Nat×B)}{nx:Nat}{a b c:B}(h2:gt h 2=some c)(h1:gt h 1=some b)(h0:gt h 0=some a)(hn:3<=nx)(hl:aG 3 (fr n l))(ha:BelB 3 a)(hb:BelB 3 b)(hc:BelB 3 c):Gh 0 (fr n l) ⟨h,nx⟩ (fr n l) ⟨[(2,c),(1,b),(0,a)],3⟩:=by
 have key:∀k,gt [(2,c),(1,b),(0,a)] k=gt (Vx.cut 3 h) k:=fun k=>by rw[Y5];rcases k with _ |_ |_ |k;simp[aP,h0];simp[aP,h1];simp[aP,h2];simp[aP,gt];omega
 refine(Gh.cutG (Y:=⟨h,nx⟩) (n1:=3) (Nat.zero_le _) hn hl fun k d hd=>?_).trans (Gh.same (Y:=⟨Vx.cut 3 h,3⟩) _ key);rw[<-key]at hd;rcases k with _ |_ |_ |k;simp[aP]at hd;subst hd;exact ha;simp[aP]at hd;subst hd;exact hb;simp[aP]at hd;subst hd;exact hc;have hz:gt [(2,c),(1,b),(0,a)] (k+3)=none:=by rw[aP,if_neg qq0,aP,if_neg qq0,aP,if_neg qq0];rfl
 have bH:gt [(2,c),(1,b),(0,a)] (k+3)=some d:=hd;rw[hz]at bH;cases bH
end Go.Vx
namespace Go.Proofs
open Go Go.Rx Go.Vx
structure QN where
 ty:Int
 nm:Nat
 st:Nat
 ar:X aR
def QN.nd(q:QN):aO:=⟨q.ty,q.ar⟩
def cQ(q:QN):X U:=[.int .i64 q.ty,.vl q.nm q.st 0 q.ar.length]
theorem Y3(q:QN):(cQ q).length=2:=rfl
instance:fX cQ 2:=⟨Y3⟩
structure QI(l:X aO)(qs:X QN)(M st:Nat)(h:X (Nat×B)):Prop where
 el:l=qs.map QN.nd
 g0:gt h 0=some (.row [.nils] 39)
 g1:gt h 1=some (.row [.vl 2 st 0 qs.length] 39)
 g2:gt h 2=some (.bv cQ qs 79 2 st)
 ga:∀q∈qs,gt h q.nm=some (.bv bF q.ar 105 2 q.st)
 lo:∀q∈qs,3<=q.nm/\q.nm<M+3
 nd:(qs.map QN.nm).Nodup
theorem z47(n:Nat)(l:X aR):aG n (l.map bF).flatten:=NK n (fun q=>kj n q) l
theorem fz_dn(K:Nat)(b:B)(sz:Nat)(l:X aO):gU K b sz (l.map b7).flatten=(l.map b7).flatten:=tP _ _ _ (NK K (fun q=>vJ K q) l)
theorem fz_qs(K:Nat)(b:B)(sz:Nat):∀(l:X QN),(∀q∈l,q.nm≠K)->gU K b sz (l.map cQ).flatten=(l.map cQ).flatten
 |[],_=>by simp[vF]
 |q::l,h=>by
  have h1:Nat.beq q.nm K=false:=by rw[beq_eq];simpa using h q qq4
  rw[zQ,List.flatten_cons,q_,fz_qs K b sz l fun x hx=>h x (by simp[hx])];simp only[cQ,sZ,vF,DL,zf h1]
theorem frz{n0:Nat}{tm:X U}(hb:aG 3 tm){st N nx:Nat}:∀(qs:X QN)(dn:X aO)(h:X (Nat×B)),
  gt h 2=some (.vec ((dn.map b7).flatten++(qs.map cQ).flatten) 79 2 st)->gt h 1=some (.row [.vl 2 st 0 N] 39)->gt h 0=some (.row [.nils] 39)->
  (∀q∈qs,gt h q.nm=some (.bv bF q.ar 105 2 q.st)/\3<=q.nm)->(qs.map QN.nm).Nodup->
  ∃h',Gh n0 tm ⟨h,nx⟩ tm ⟨h',nx⟩/\gt h' 2=some (.bv b7 (dn++qs.map QN.nd) 79 2 st)/\gt h' 1=some (.row [.vl 2 st 0 N] 39)/\gt h' 0=some (.row [.nils] 39)
 |[],dn,h,h2,h1,h0,_,_=>⟨h,Gh.refl _ _ _,by simpa using h2,h1,h0⟩|q::qs,dn,h,h2,h1,h0,hq,hn=>by
  obtain⟨g1,g2⟩:=hq q qq4;rw[zQ,List.nodup_cons]at hn;have cR:∀x∈qs,x.nm≠q.nm:=fun x hx e=>hn.1 (by rw[<-e];exact List.mem_map_of_mem hx);have hbq:aG q.nm tm:=(vG _ _).2 fun u hu=>aT.le g2 u ((vG _ _).1 hb u hu);have step:Gh n0 tm ⟨h,nx⟩ tm ⟨fzH q.nm (.bv bF q.ar 105 2 q.st) 2 h,nx⟩:=Gh.fz q.nm _ 2 g1 nofun (tP _ _ _ hbq) rfl;obtain⟨h',e1,e2,e3,e4⟩:=frz hb (n0:=n0) (nx:=nx) (N:=N) (st:=st) qs (dn++[q.nd]) (fzH q.nm (.bv bF q.ar 105 2 q.st) 2 h)
   (by
    rw[AO,if_neg qq0,h2];simp only[zM,fzB,q_,fz_dn,zQ,List.flatten_cons,fz_qs _ _ _ qs cR];have:gU q.nm (.bv bF q.ar 105 2 q.st) 2 (cQ q)=b7 q.nd:=by simp only[cQ,sZ,vF,DL,GX vI,b7,QN.nd]
    rw[this];simp)
   (by
    rw[AO,if_neg qq0,h1];have:Nat.beq 2 q.nm=false:=by rw[beq_eq];simp;omega
    simp only[zM,fzB,sZ,vF,zf this])
   (by rw[AO,if_neg qq0,h0];simp only[zM,fzB,sZ,vF,ND])
   (fun x hx=>by obtain⟨k1,k2⟩:=hq x (by simp[hx]);refine⟨?_,k2⟩;rw[AO,if_neg (cR x hx),k1];simp only[zM,fzB,tP _ _ _ (z47 _ _)])
   hn.2
  exact⟨h',step.trans e1,by simpa using e2,e3,e4⟩
theorem QI.same{l:X aO}{qs:X QN}{M st nx:Nat}{h:X (Nat×B)}(q:QI l qs M st h)(tm:X U):∃t,Gh 0 tm ⟨h,nx⟩ tm ⟨(2,.bv cQ qs 79 2 st)::(1,.row [.vl 2 st 0 qs.length] 39)::(0,.row [.nils] 39)::t,nx⟩/\QI l qs M st ((2,.bv cQ qs 79 2 st)::(1,.row [.vl 2 st 0 qs.length] 39)::(0,.row [.nils] 39)::t):=by
 have key:∀k,gt ((2,.bv cQ qs 79 2 st)::(1,.row [.vl 2 st 0 qs.length] 39)::(0,.row [.nils] 39)::h) k=gt h k:=fun k=>by simp only[aP];by_cases e2:2=k;subst e2;simp[q.g2];by_cases e1:1=k;subst e1;simp[q.g1];by_cases e0:0=k;subst e0;simp[q.g0];simp[e2,e1,e0]
 refine⟨h,Gh.same (Y:=⟨h,nx⟩) _ key,⟨q.el,?_,?_,?_,fun x hx=>?_,q.lo,q.nd⟩⟩;rw[key];exact q.g0;rw[key];exact q.g1;rw[key];exact q.g2;rw[key];exact q.ga x hx
variable{l:X aO}
variable{qs:X QN}
variable{M:Nat}
theorem QI.more{st:Nat}{h:X (Nat×B)}(q:QI l qs M st h)(b:B):QI l qs (M+1) st ((M+3,b)::h) where
 el:=q.el
 g0:=by rw[aP,if_neg qq0];exact q.g0
 g1:=by rw[aP,if_neg qq0];exact q.g1
 g2:=by rw[aP,if_neg qq0];exact q.g2
 ga:=fun x hx=>by have:=q.lo x hx;rw[aP,if_neg qq0];exact q.ga x hx
 lo:=fun x hx=>by have:=q.lo x hx;omega
 nd:=q.nd
theorem QI.viewG{st nx:Nat}{h:X (Nat×B)}(q:QI l qs M st h)(az:X U)(ha:aG 2 az):∃Y1,Gh 0 (.agg [.vl 2 st 0 qs.length]::az) ⟨h,nx⟩ (.agg [.isl false (l.map b7)]::az) Y1:=by
 have hb:aG 3 (.agg [.vl 2 st 0 qs.length]::az):=by
  refine(vG _ _).2 fun u hu=>?_;rcases zI.1 hu with rfl |hu
  simp[aT,aG];exact aT.le qq0 u ((vG _ _).1 ha u hu)
 obtain⟨h',e1,e2,e3,e4⟩:=frz (n0:=0) hb (st:=st) (N:=qs.length) (nx:=nx) qs [] h (by simpa using q.g2) q.g1 q.g0 (fun x hx=>⟨q.ga x hx,(q.lo x hx).1⟩) q.nd;rw[List.nil_append,<-q.el]at e2;have hl:qs.length=l.length:=by rw[q.el,yA]
 refine⟨⟨fzH 2 (.bv b7 l 79 2 st) 2 h',nx⟩,e1.trans (Gh.fz 2 (.bv b7 l 79 2 st) 2 e2 nofun ?_ rfl)⟩;rw[sZ,tP _ _ _ ha,N8,sZ,vF,hl,GX vd]
variable{i:Int}
theorem z9g{v12 β:Type}{f:v12->β}{l:X v12}{y:β}(h:aB (l.map f) i=some y):∃x,aB l i=some x/\f x=y:=by obtain⟨h1,h2,h3⟩:=NH h;rw[List.getElem?_map]at h3;rcases e:l[i.toNat]? with _|x;rw[e]at h3;cases h3;rw[e]at h3;refine⟨x,?_,Option.some.inj h3⟩;rw[yA]at h2;rw[aB,if_pos ⟨h1,h2⟩];exact e
theorem qzy{v12:Type}{l:X v12}{y:v12}(h:aB l i=some y):y∈l:=zX (NH h).2.2
variable{t:X (Nat×B)}
theorem pullG{n0:Nat}{tm:X U}{st e:Nat}{y:QN}{a:aR}(he:y.nm=e+3)(bg:e<M)
  (hy:gt ((2,.bv cQ qs 79 2 st)::(1,.row [.vl 2 st 0 qs.length] 39)::(0,.row [.nils] 39)::t) y.nm=some (.bv bF y.ar 105 2 y.st)):
  Gh n0 tm ⟨(M+3,.row (bF a) 105)::(2,.bv cQ qs 79 2 st)::(1,.row [.vl 2 st 0 qs.length] 39)::(0,.row [.nils] 39)::t,M+4⟩ tm
   ⟨(M+3,.row (bF a) 105)::(2,.bv cQ qs 79 2 st)::(1,.row [.vl 2 st 0 qs.length] 39)::(0,.row [.nils] 39)::(e+3,.bv bF y.ar 105 2 y.st)::rg t (e+3),M+4⟩:=by
 refine Gh.same (Y:=⟨_,M+4⟩) _ fun k=>?_;rw[he,aP,if_neg qq0,aP,if_neg qq0,aP,if_neg qq0]at hy;simp only[aP];split;rfl;split;rfl;split;rfl;split;rfl;split
 ·next h=>rw[<-h,hy]
 ·next h=>rw[gt_rg,if_neg h]
theorem QI.upd{st e:Nat}{y:QN}(q:QI l qs M st ((2,.bv cQ qs 79 2 st)::(1,.row [.vl 2 st 0 qs.length] 39)::(0,.row [.nils] 39)::t))(hy:aB qs i=some y)(he:y.nm=e+3)(bg:e<M)(a:aR)(z:aR):
  QI (l.set (0+i.toNat) ⟨y.nd.Typex,y.nd.Arcs++[z]⟩) (qs.set (0+i.toNat) ⟨y.ty,e+3,y.st+1,y.ar++[z]⟩) (M+2) st ((M+4,.row [.i6 z.Feat,.i6 z.To] 105)::(M+3,.row (bF a) 105)::(2,.bv cQ (qs.set (0+i.toNat) ⟨y.ty,e+3,y.st+1,y.ar++[z]⟩) 79 2 st)::(1,.row [.vl 2 st 0 qs.length] 39)::(0,.row [.nils] 39)::(e+3,.bv bF (y.ar++[z]) 105 2 (y.st+1))::rg t (e+3)):=by
 obtain⟨h1,h2,h3⟩:=NH hy;have hi:i.toNat<qs.length:=(zG.1 h3).1;have IG:(qs.set (0+i.toNat) ⟨y.ty,e+3,y.st+1,y.ar++[z]⟩).map QN.nm=qs.map QN.nm:=by
  rw[Nat.zero_add,List.map_set];have:(⟨y.ty,e+3,y.st+1,y.ar++[z]⟩:QN).nm=y.nm:=by rw[he]
  rw[this];have hz:(qs.map QN.nm)[i.toNat]? = some y.nm:=by rw[List.getElem?_map,h3];rfl
  obtain⟨a1,b1⟩:=zG.1 hz;rw[<-b1,List.set_getElem_self]
 have xB:∀x∈qs.set (0+i.toNat) ⟨y.ty,e+3,y.st+1,y.ar++[z]⟩,x=⟨y.ty,e+3,y.st+1,y.ar++[z]⟩\/(x∈qs/\x.nm≠e+3):=fun x hx=>by
  obtain⟨j,hj⟩:=List.getElem?_of_mem hx;rw[Nat.zero_add,List.getElem?_set]at hj;by_cases cR:i.toNat=j;rw[if_pos cR]at hj;by_cases aE:i.toNat<qs.length;rw[if_pos aE]at hj;exact .inl (Option.some.inj hj).symm;rw[if_neg aE]at hj;cases hj;rw[if_neg cR]at hj;refine .inr ⟨zX hj,fun hc=>cR ?_⟩;have p1:(qs.map QN.nm)[i.toNat]? = some (e+3):=by rw[List.getElem?_map,h3,<-he];rfl
  have p2:(qs.map QN.nm)[j]? = some (e+3):=by rw[List.getElem?_map,hj,<-hc];rfl
  obtain⟨a1,b1⟩:=zG.1 p1;obtain⟨a2,b2⟩:=zG.1 p2;exact(List.getElem_inj (h₀:=a1) (h₁:=a2) q.nd).1 (by rw[b1,b2])
 refine⟨?_,?_,?_,?_,fun x hx=>?_,fun x hx=>?_,by rw[IG];exact q.nd⟩;rw[List.map_set,q.el];rfl;simp only[aP];rw[if_neg qq0,if_neg qq0,if_neg qq0,if_neg qq0];rfl;simp only[aP];rw[if_neg qq0,if_neg qq0,if_neg qq0,List.length_set];rfl;simp only[aP];rw[if_neg qq0,if_neg qq0];rfl;rcases xB x hx with rfl |⟨hx,cR⟩;simp only[aP];rw[if_neg qq0,if_neg qq0,if_neg qq0,if_neg qq0,if_neg qq0];simp;have l1:=q.lo x hx;have g1:=q.ga x hx;rw[aP,if_neg qq0,aP,if_neg qq0,aP,if_neg qq0]at g1;simp only[aP];rw[if_neg qq0,if_neg qq0,if_neg qq0,if_neg qq0,if_neg qq0,if_neg qq0,gt_rg,if_neg qq0];exact g1;rcases xB x hx with rfl |⟨hx,cR⟩;show 3<=e+3/\e+3<M+2+3;omega;have l1:=q.lo x hx;omega
instance{a:Int}{k:Nat}:DeC cQ [.int .i64 a,.vl k 0 0 0] ⟨a,k,0,[]⟩:=⟨rfl⟩
theorem nilRow{tm:X U}{x:Int}{H:X (Nat×B)}:Gh (M+4) tm ⟨(M+3,.row [.i6 x,.nils] 79)::H,M+4⟩ tm ⟨(M+4,.vec [] 105 2 0)::(M+3,.row [.i6 x,.vl (M+4) 0 0 0] 79)::H,M+5⟩:=by
 have h1:Nat.beq (M+4) (M+3)=false:=by rw[beq_eq];simp
 have h2:Nat.beq (M+3) (M+3)=true:=by rw[beq_eq];simp
 have:=BO (n0:=M+4) (tm:=tm) (Y:=⟨(M+3,.row [.i6 x,.nils] 79)::H,M+4⟩) (q:=[.i6 x,.nils]) (e0:=79) (M+3) 1 105 2 qq3 (zF _) (by simp only[gt,h2,zC]) rfl;simp only[newU,ug,h1,h2,zC,zD,List.set]at this;exact this
theorem QI.app{st:Nat}(q:QI l qs M st ((2,.bv cQ qs 79 2 st)::(1,.row [.vl 2 st 0 qs.length] 39)::(0,.row [.nils] 39)::t))(x:Int):
  QI (l++[aO.mk x []]) (qs++[(⟨x,M+4,0,[]⟩:QN)]) (M+2) (st+1) ((M+4,.vec [] 105 2 0)::(M+3,.row [.i6 x,.vl (M+4) 0 0 0] 79)::(2,.bv cQ (qs++[(⟨x,M+4,0,[]⟩:QN)]) 79 2 (st+1))::(1,.row [.vl 2 (st+1) 0 (qs++[(⟨x,M+4,0,[]⟩:QN)]).length] 39)::(0,.row [.nils] 39)::t) where
 el:=by rw[q.el];simp[QN.nd]
 g0:=by simp only[aP];rw[if_neg qq0,if_neg qq0,if_neg qq0,if_neg qq0];rfl
 g1:=by simp only[aP];rw[if_neg qq0,if_neg qq0,if_neg qq0];rfl
 g2:=by simp only[aP];rw[if_neg qq0,if_neg qq0];rfl
 ga:=fun y hy=>by rcases yD.1 hy with hy |hy;have l1:=q.lo y hy;have g1:=q.ga y hy;rw[aP,if_neg qq0,aP,if_neg qq0,aP,if_neg qq0]at g1;simp only[aP];rw[if_neg qq0,if_neg qq0,if_neg qq0,if_neg qq0,if_neg qq0];exact g1;simp at hy;subst hy;simp[aP]
 lo:=fun y hy=>by rcases yD.1 hy with hy |hy;have l1:=q.lo y hy;omega;simp at hy;subst hy;show 3<=M+4/\M+4<M+2+3;omega
 nd:=by rw[List.map_append,List.nodup_append];refine⟨q.nd,by simp,fun a ha b hb=>?_⟩;obtain⟨y,hy,rfl⟩:=List.mem_map.1 ha;simp at hb;subst hb;have:=q.lo y hy;omega
theorem qi0:QI [] [] 0 0 [(2,.bv cQ ([]:X QN) 79 2 0),(1,.row [.vl 2 0 0 (([]:X QN).length)] 39),(0,.row [.nils] 39)]:=⟨rfl,rfl,rfl,rfl,(fun q hq=>by cases hq),(fun q hq=>by cases hq),List.nodup_nil⟩
end Go.Proofs
namespace Go.Proofs
open Go Go.Rx Go.Vx Tryz
instance:TbP prog tb:=⟨tb_ok⟩
set_option maxRecDepth 20000
set_option maxHeartbeats 4000000
set_option synthInstance.maxSize 4000
set_option synthInstance.maxHeartbeats 200000
def Sq(A6:Int)(XN:Int->(X aO)->V (GFS))(AV:X aO):V (GFS):=
 XN (IntKind.i64.wrap (A6+1)) AV
def sr(fA:Int)(i8:Int->(X aO)->V (GFS))(qH:X aO):V (GFS):=
 i8 (IntKind.i64.wrap (fA+1)) qH
def SL(p1:X aO)(p2:X Int)(n:Nat)(fA:Int)(i8:Int->(X aO)->V (GFS))(lJ:Int):Nat->Int->(X aO)->V (GFS)
 |0,_,_=>none|m3+1,A6,rC=>
  a8 (aB p1 fA) fun x44=>cond (decide (A6<(x44.Arcs.length:Int))) (a8 (aB p1 fA) fun x47=>
   a8 (aB x47.Arcs A6) fun pY=>
   a8 (Pv n (GFS.mk rC) lJ pY.Feat) fun fb=>cond (!fb.2) (a8 (aB rC lJ) fun W2=>
    a8 (aB p2 pY.To) fun BR=>
    aF ((W2.Arcs.length+1)*16<=140737488355328/\W2.Arcs.length+1<=140737488355328) (
    a8 (aB rC lJ) fun x60=>
    Sq A6 (SL p1 p2 n fA i8 lJ m3) (rC.set (0+lJ.toNat) (aO.mk x60.Typex (W2.Arcs++[(aR.mk pY.Feat BR)]))))) (Sq A6 (SL p1 p2 n fA i8 lJ m3) rC)) (sr fA i8 rC)
def Jp(p2:X Int)(p4:Int)(n:Nat)(p9:X aO):V (GFS):=
 a8 (aB p2 p4) fun MJ=>
 a8 (Hz n (GFS.mk p9) MJ) fun fj=>some fj
def LJ(p1:X aO)(p2:X Int)(p4:Int)(n:Nat):Nat->Int->(X aO)->V (GFS)
 |0,_,_=>none|m2+1,fA,lB=>cond (decide (fA<(p1.length:Int))) (a8 (aB p2 fA) fun lJ=>SL p1 p2 n fA (LJ p1 p2 p4 n m2) lJ n 0 lB) (Jp p2 p4 n lB)
def Sp(p1:X aO)(p2:X Int)(p4:Int)(n:Nat)(dA:X aO):V (GFS):=
 LJ p1 p2 p4 n n 0 dA
def Jo(p1:X aO)(p2:X Int)(p3:X Int)(p4:Int)(n:Nat):Nat->Int->(X aO)->V (GFS)
 |0,_,_=>none|m1+1,eJ,c7=>cond (decide (eJ<(p1.length:Int))) (a8 (aB p3 eJ) fun Ls=>aF ((c7.length+1)*32<=140737488355328/\c7.length+1<=140737488355328) ((Jo p1 p2 p3 p4 n m1) (IntKind.i64.wrap (eJ+1)) (c7++[(aO.mk Ls [])]))) (Sp p1 p2 p4 n c7)
def Rm(n:Nat)(p1:X aO)(p2:X Int)(p3:X Int)(p4:Int):V (GFS):=
 Jo p1 p2 p3 p4 n n 0 ([]:X aO)
theorem qk6(n:Nat)(p1:X aO)(p2:X Int)(p3:X Int)(p4:Int)(r:GFS)(O:Rm n p1 p2 p3 p4=some r):cY prog 139 [.isl false (p1.map b7),.isl false (p2.map (cI .i64)),.isl false (p3.map (cI .i64)),.int .i64 p4] (.agg [.isl false (r.Nodes.map b7)]):=by
 unfold Rm at O;refine Lg 98 UU ?_;refine gr ?_;refine gr ?_;refine gr ?_;refine dF (tm':=fr 98 [(0,.iM b7 p1),(1,.iM (cI .i64) p2),(2,.iM (cI .i64) p3),(3,.i6 p4),(8,.ptr 0 0 0),(9,.ptr 1 0 0),(10,.i6 0)]) (Y':=⟨[(2,.bv cQ ([]:X QN) 79 2 0),(1,.row [.vl 2 0 0 (([]:X QN).length)] 39),(0,.row [.nils] 39)],3⟩) (Gh.trans (BO 1 0 79 2 qq3 NZ rfl rfl) (D7 ⟨rfl,rfl,rfl,rfl,rfl,rfl,rfl,trivial⟩ rfl)) NZ ?_;refine gL (fun m tm Y=>∃eJ c7 gT,Jo p1 p2 p3 p4 n m eJ c7=some r/\tm=fr 98 [(0,.iM b7 p1),(1,.iM (cI .i64) p2),(2,.iM (cI .i64) p3),(3,.i6 p4),(8,.ptr 0 0 0),(9,.ptr 1 0 0),(10,.i6 eJ)]/\∃qs M h,QI c7 qs M gT h/\Y=⟨h,M+3⟩) (fun tm Y=>∃dA fK,Sp p1 p2 p4 n dA=some r/\tm=fr 98 [(0,.iM b7 p1),(1,.iM (cI .i64) p2),(3,.i6 p4),(8,.ptr 0 0 0),(9,.ptr 1 0 0)]/\∃qs M h,QI dA qs M fK h/\Y=⟨h,M+3⟩) n ⟨0,([]:X aO),0,O,rfl,[],0,_,qi0,rfl⟩ ?_ ?_;rintro _ _ ⟨dA,fK,O,rfl,qs0,M0,hh0,hq0,rfl⟩;unfold Sp at O;refine go ?_;refine gL (fun m tm Y=>∃fA lB,LJ p1 p2 p4 n m fA lB=some r/\tm=fr 98 [(0,.iM b7 p1),(1,.iM (cI .i64) p2),(3,.i6 p4),(8,.ptr 0 0 0),(9,.ptr 1 0 0),(11,.i6 fA)]/\∃qs M h,QI lB qs M fK h/\Y=⟨h,M+3⟩) (fun tm Y=>∃p9,Jp p2 p4 n p9=some r/\tm=fr 98 [(1,.iM (cI .i64) p2),(3,.i6 p4),(8,.ptr 0 0 0),(9,.ptr 1 0 0)]/\∃qs M h,QI p9 qs M fK h/\Y=⟨h,M+3⟩) n ⟨0,dA,O,rfl,qs0,M0,hh0,hq0,rfl⟩ ?_ ?_ NZ;rintro _ _ ⟨p9,O,rfl,qs,M,h,hq,rfl⟩;unfold Jp at O;have zP:BelS 3 [(1,.iM (cI .i64) p2),(3,.i6 p4),(8,.ptr 0 0 0),(9,.ptr 1 0 0)]:=BS.h;obtain⟨h',e1,e2,e3,e4⟩:=frz (n0:=0) (YD (n:=98) zP) (st:=fK) (N:=qs.length) (nx:=M+3) qs [] h (by simpa using hq.g2) hq.g1 hq.g0 (fun q hx=>⟨hq.ga q hx,(hq.lo q hx).1⟩) hq.nd;rw[List.nil_append,<-hq.el]at e2;have pU:qs.length=p9.length:=by rw[hq.el,yA]
 rw[pU]at e3;refine dF (e1.trans (Gh.three e2 e3 e4 qq0 (YD (n:=98) zP) (by simp[BelB,aG,aT]) (by simp[BelB,aG,aT]) (NK 3 (fun q=>vJ 3 q) p9))) NZ ?_;refine gn ?_;refine dF (tm':=fr 98 [(1,.iM (cI .i64) p2),(3,.i6 p4),(8,.ptr 0 0 0),(9,.ptr 1 0 0)]) (Y':=⟨[(1,.row [.iM b7 p9] 39),(0,.row [.nils] 39)],3⟩) (Gh.trans (Gh.sub (l':=[(1,.iM (cI .i64) p2),(3,.i6 p4),(8,.ptr 0 0 0),(9,.ptr 1 0 0)]) ⟨rfl,rfl,rfl,rfl,trivial⟩) (JV 2 2)) NZ ?_;obtain⟨MJ,EG,fj,sP,O⟩:=bO O;refine go ?_;refine dE [] ?_;refine gd ?_;refine dU EG ?_;refine gd ?_;refine dK rfl (pC (qjv n (GFS.mk p9) MJ fj sP)) JC ?_;refine qM ?_;refine bC ⟨by kernel_rfl,trivial,?_⟩;refine go ?_;obtain rfl:=sI O;exact rT (nH (kL fT.h rfl (bB hJ.h) rfl rfl rfl) (eD)) (uT _ rfl);rintro(_|m2) _ _ ⟨fA,lB,O,rfl,qs,M,h,hq,rfl⟩;cases O;unfold LJ at O;refine gF O ?_ ?_<;>intro tT O;refine go ?_;apply cE;obtain⟨lJ,oE,O⟩:=aI O;refine go ?_;refine cB oE ?_;refine go ?_;refine gL (fun m tm Y=>∃A6 rC,SL p1 p2 n fA (LJ p1 p2 p4 n m2) lJ m A6 rC=some r/\tm=fr 98 [(0,.iM b7 p1),(1,.iM (cI .i64) p2),(3,.i6 p4),(8,.ptr 0 0 0),(9,.ptr 1 0 0),(11,.i6 fA),(12,.i6 lJ),(13,.i6 A6)]/\∃qs M h,QI rC qs M fK h/\Y=⟨h,M+3⟩) (fun tm Y=>∃qH,sr fA (LJ p1 p2 p4 n m2) qH=some r/\tm=fr 98 [(0,.iM b7 p1),(1,.iM (cI .i64) p2),(3,.i6 p4),(8,.ptr 0 0 0),(9,.ptr 1 0 0),(11,.i6 fA)]/\∃qs M h,QI qH qs M fK h/\Y=⟨h,M+3⟩) n ⟨0,lB,O,rfl,qs,M,h,hq,rfl⟩ ?_ ?_ NZ;rintro _ _ ⟨qH,O,rfl,qs,M,h,hq,rfl⟩;unfold sr at O;refine go ?_;exact⟨_,_,_,zN _,⟨_,qH,O,rfl,qs,M,h,hq,rfl⟩,NZ,Gh.sub (by((repeat refine⟨rfl,?_⟩);exact trivial))⟩;rintro(_|m3) _ _ ⟨A6,rC,O,rfl,qs,M,h,hq,rfl⟩;cases O;unfold SL at O;obtain⟨x44,sO,O⟩:=aI O;refine go ?_;refine cB sO ?_;refine gF O ?_ ?_<;>intro Lb O;obtain⟨t,EE,hq⟩:=hq.same (nx:=M+3) (fr 98 [(0,.iM b7 p1),(1,.iM (cI .i64) p2),(3,.i6 p4),(8,.ptr 0 0 0),(9,.ptr 1 0 0),(11,.i6 fA),(12,.i6 lJ),(13,.i6 A6)]);refine dF (Gh.sub (l':=[(0,.iM b7 p1),(1,.iM (cI .i64) p2),(3,.i6 p4),(8,.ptr 0 0 0),(9,.ptr 1 0 0),(11,.i6 fA),(12,.i6 lJ),(13,.i6 A6)]) (by((repeat refine⟨rfl,?_⟩);exact trivial))) NZ ?_;refine dF EE NZ ?_
 haveI:SuC (M+3) (M+4):=⟨rfl⟩
 haveI:SuC (M+4) (M+5):=⟨rfl⟩
 haveI:Nq (M+1) M:=⟨by rw[beq_eq];simp⟩
 refine go ?_;apply cE;obtain⟨x47,La,pY,Xl,O⟩:=bO O;refine go ?_;refine cB La ?_;refine go ?_;refine cB Xl ?_;obtain⟨fb,Df,O⟩:=aI O;refine go ?_;have hq3:QI rC qs (M+1) fK ((M+3,.row (bF pY) 105)::(2,.bv cQ qs 79 2 fK)::(1,.row [.vl 2 fK 0 qs.length] 39)::(0,.row [.nils] 39)::t):=hq.more (.row (bF pY) 105);obtain⟨v13,hgv⟩:=hq3.viewG (nx:=M+4) [.i6 lJ,.i6 pY.Feat] (by simp[aG,aT]);refine aK rfl (aW.viewT (qrt n (GFS.mk rC) lJ pY.Feat fb Df) m9.h (by simp only[toV,lL,okL,okC,zC]<;>rfl) (fun m=>by simp[ren,aJ]) hgv) UF ?_;refine gr ?_;refine tF (fun tm Y=>∃AV,Sq A6 (SL p1 p2 n fA (LJ p1 p2 p4 n m2) lJ m3) AV=some r/\tm=fr 98 [(0,.iM b7 p1),(1,.iM (cI .i64) p2),(3,.i6 p4),(8,.ptr 0 0 0),(9,.ptr 1 0 0),(11,.i6 fA),(12,.i6 lJ),(13,.i6 A6)]/\∃qs M h,QI AV qs M fK h/\Y=⟨h,M+3⟩) ?_ ?_;rintro _ _ ⟨AV,O,rfl,qs,M,h,hq,rfl⟩;unfold Sq at O;refine go ?_;exact⟨_,_,_,zN _,⟨_,AV,O,rfl,qs,M,h,hq,rfl⟩,NZ,Gh.sub (by((repeat refine⟨rfl,?_⟩);exact trivial))⟩;refine cF O ?_ ?_<;>intro h53 O;obtain⟨W2,U4,BR,Kz,O⟩:=bO O;obtain⟨h59,O⟩:=c6 O;obtain⟨x60,h61,O⟩:=aI O;have hxx:=U4.symm.trans h61;cases hxx;rw[hq.el]at U4;obtain⟨y,hy,rfl⟩:=z9g U4;obtain⟨e,he,bg⟩:∃e,y.nm=e+3/\e<M:=by have:=hq.lo y (qzy hy);exact⟨y.nm-3,by omega,by omega⟩
 haveI:Nq (M+1) e:=⟨by rw[beq_eq];simp;omega⟩
 haveI:Nq M e:=⟨by rw[beq_eq];simp;omega⟩
 have Bb:=hq.ga y (qzy hy);refine dF (pullG (a:=pY) he bg Bb) NZ ?_;rw[show y.nd.Arcs=y.ar from rfl]at h59;refine gn ?_;refine tF (fun tm Y=>tm=fr 98 [(0,.iM b7 p1),(1,.iM (cI .i64) p2),(3,.i6 p4),(8,.ptr 0 0 0),(9,.ptr 1 0 0),(11,.i6 fA),(12,.i6 lJ),(13,.i6 A6)]/\Y=⟨(M+4,.row [.i6 pY.Feat,.i6 BR] 105)::(M+3,.row (bF pY) 105)::(2,.bv cQ (qs.set (0+lJ.toNat) ⟨y.ty,e+3,y.st+1,y.ar++[aR.mk pY.Feat BR]⟩) 79 2 fK)::(1,.row [.vl 2 fK 0 qs.length] 39)::(0,.row [.nils] 39)::(e+3,.bv bF (y.ar++[aR.mk pY.Feat BR]) 105 2 (y.st+1))::rg t (e+3),M+5⟩) ?_ ?_;rintro _ _ ⟨rfl,rfl⟩;refine go ?_;refine⟨_,_,⟨_,O,rfl,_,M+2,_,hq.upd hy he bg pY ⟨pY.Feat,BR⟩,rfl⟩,NZ,Gh.sub (by((repeat refine⟨rfl,?_⟩);exact trivial))⟩;refine dE [(0,17),(0,18),(1,17),(1,18),(2,17),(2,18),(3,17),(4,17),(5,17),(6,17),(7,17),(8,17)] ?_;refine gd ?_;refine aV rfl (dZ rfl rfl (kC cQ iI.h (bB mX.h) qq3 Y3 (vo rfl) hy)) ?_;refine aV rfl (pO u9.h rfl (bB lP.h) rfl (DK rfl) rfl) ?_;refine aV (u:=.vl (e+3) y.st 0 y.ar.length) rfl (F7 cQ fS.h rfl Y3 rfl rfl (AN hy) (by rw[<-he];rfl)) ?_;refine gd ?_;refine dU Kz ?_;refine gd ?_;refine eN ?_;refine eN ?_;refine aV rfl (dZ rfl rfl (kC cQ iI.h (bB mX.h) qq3 Y3 (vo rfl) hy)) ?_;refine aV rfl (pO u9.h rfl (bB lP.h) rfl (DK rfl) rfl) (Fj (u:=.junk) (Y':=⟨(M+4,.row [.i6 pY.Feat,.i6 BR] 105)::(M+3,.row (bF pY) 105)::(2,.bv cQ (qs.set (0+lJ.toNat) ⟨y.ty,e+3,y.st+1,y.ar++[aR.mk pY.Feat BR]⟩) 79 2 fK)::(1,.row [.vl 2 fK 0 qs.length] 39)::(0,.row [.nils] 39)::(e+3,.bv bF (y.ar++[aR.mk pY.Feat BR]) 105 2 (y.st+1))::rg t (e+3),M+5⟩) rfl (tg (y:=(⟨y.ty,e+3,y.st+1,y.ar++[aR.mk pY.Feat BR]⟩:QN)) cQ (bB lP.h) Y3 rfl rfl rfl rfl rfl rfl (AN hy) rfl rfl) rfl ?_);refine bC ⟨by kernel_rfl,⟨pO fT.h rfl (bB E3.h) rfl rfl rfl,⟨pO fT.h rfl (bB E3.h) rfl rfl rfl,⟨yL iI.h rfl rfl rfl rfl,⟨yL iI.h rfl rfl rfl rfl,⟨oD rfl,⟨oD rfl,⟨pO fT.h rfl (bB E3.h) rfl rfl rfl,⟨yL iI.h rfl rfl rfl rfl,⟨oD rfl,⟨dZ rfl rfl (kC cQ iI.h (bB mX.h) qq3 Y3 (vo rfl) hy),⟨pO u9.h rfl (bB lP.h) rfl (DK rfl) rfl,⟨F7 cQ fS.h rfl Y3 rfl rfl (AN hy) (by rw[<-he];rfl),trivial⟩⟩⟩⟩⟩⟩⟩⟩⟩⟩⟩⟩,?_⟩;refine go ?_;exact⟨_,_,⟨rfl,rfl⟩,NZ,Gh.sub (by((repeat refine⟨rfl,?_⟩);exact trivial))⟩;refine go ?_;exact⟨_,_,⟨rC,O,rfl,qs,M+1,_,hq3,rfl⟩,NZ,Gh.sub (by((repeat refine⟨rfl,?_⟩);exact trivial))⟩;refine go ?_;exact⟨_,_,⟨rC,O,rfl,qs,M,h,hq,rfl⟩,NZ,Gh.sub (by((repeat refine⟨rfl,?_⟩);exact trivial))⟩;refine go ?_;exact⟨_,_,⟨lB,O,rfl,qs,M,h,hq,rfl⟩,NZ,Gh.sub (by((repeat refine⟨rfl,?_⟩);exact trivial))⟩;rintro(_|m1) _ _ ⟨eJ,c7,gT,O,rfl,qs,M,h,hq,rfl⟩;cases O;unfold Jo at O;refine gF O ?_ ?_<;>intro Xj O;obtain⟨t,EE,hq⟩:=hq.same (nx:=M+3) (fr 98 [(0,.iM b7 p1),(1,.iM (cI .i64) p2),(2,.iM (cI .i64) p3),(3,.i6 p4),(8,.ptr 0 0 0),(9,.ptr 1 0 0),(10,.i6 eJ)]);refine dF (Gh.sub (l':=[(0,.iM b7 p1),(1,.iM (cI .i64) p2),(2,.iM (cI .i64) p3),(3,.i6 p4),(8,.ptr 0 0 0),(9,.ptr 1 0 0),(10,.i6 eJ)]) (by((repeat refine⟨rfl,?_⟩);exact trivial))) NZ ?_;refine dF EE NZ ?_
 haveI:SuC (M+3) (M+4):=⟨rfl⟩
 haveI:Nq (M+1) M:=⟨by rw[beq_eq];simp⟩
 refine go ?_;apply cE;obtain⟨Ls,vQ,O⟩:=aI O;obtain⟨h65,O⟩:=c6 O;rw[show c7.length=qs.length by rw[hq.el,yA]]at h65;refine go ?_;refine dE [(0,7),(1,7)] ?_;refine gd ?_;refine dU vQ ?_;refine gd ?_;refine RD.fz (u1:=.sl (M+3) 0 1 1) (u:=.sl (M+3) 0 1 1) (s1:=⟨(M+3,.row [.i6 Ls,.nils] 79)::(2,.bv cQ qs 79 2 gT)::(1,.row [.vl 2 gT 0 qs.length] 39)::(0,.row [.nils] 39)::t,M+4⟩) rfl opz nilRow (by show M+4<=M+5;omega) rfl rfl ?_;refine eN ?_;refine gd ?_;refine qM ?_;refine bC ⟨by kernel_rfl,⟨pO fT.h rfl (bB E3.h) rfl rfl rfl,⟨yL iI.h rfl rfl rfl rfl,trivial⟩⟩,?_⟩;refine go ?_;exact⟨_,_,_,zN _,⟨_,(c7++[(aO.mk Ls [])]),(gT+1),O,rfl,_,M+2,_,hq.app Ls,rfl⟩,NZ,Gh.sub (by((repeat refine⟨rfl,?_⟩);exact trivial))⟩;refine go ?_;exact⟨_,_,⟨c7,gT,O,rfl,qs,M,h,hq,rfl⟩,NZ,Gh.sub (by((repeat refine⟨rfl,?_⟩);exact trivial))⟩
end Go.Proofs
