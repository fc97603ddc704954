import Derived.WalkKit
import Derived.Sort.Grow
import Derived.Test.YtmflfedkfdkipaaGreatP15
set_option linter.all false
namespace Go.Proofs
open Go Go.Rx Go.Vx Go.Shelf Go.RowKit Go.Sort Tryz
set_option maxRecDepth 100000
set_option maxHeartbeats 4000000
set_option synthInstance.maxSize 4000
set_option synthInstance.maxHeartbeats 200000
def z1q(X:Sg):aV prog 110 [.int .u64 0] X (fun u X'=>u=.int .i64 0/\X'=X):=by refine aV.of_same (vs:=[.int .u64 0]) (cv:=.int .i64 0) rfl (fun m=>by simp[aE,ren]) rfl (fun m=>by simp[ren]) (fun w=>?_) X;exact Any.bits_Len (SlLaysF0.n15.bits (P:=prog) (ρ:=Tryz.sortJ_ren) { Tryz.sortJ with }) 0 w (by omega) (by omega)
def Ca(a c:Int)(v v':A)(w:Tz):Calls prog 74 #[.agg #[.int .i64 a,v],.agg #[.int .i64 c,v']] w fun e w'=>e=.returned (.int .i64 (wrap64 (a-c)))/\∃q os,w'=grow (w.drewN q) os:=by
 go_enter Tryz.func74,Tryz.ntmps74
 go_wp2
 all_goals go_ret
 refine⟨rfl,0,#[.cells #[.int .i64 a,v] 107,.cells #[.int .i64 c,v'] 107],?_⟩;cases w with
 |mk heap tape drawn os output=>
  have e:∀v10 B:Obj,(heap.push v10).push B=heap++ #[v10,B]:=fun v10 B=>by apply Array.ext';simp
  exact congrArg (fun h=>(⟨h,tape,drawn,os,output⟩:Tz)) (e _ _)
def Cb(nm:Nat->Nat)(a b:dR):Cz prog 74 [.agg (bX nm a),.agg (bX nm b)] (wrap64 (a.f-b.f)):=fun vs cargs x hh he m cJ w hf=>by
 obtain⟨v0,Iu,rfl,h0,he⟩:=he.inv;obtain⟨v1,sn,rfl,h1,he⟩:=he.inv;have:=he.nil_inv;subst this;simp only[aB,bX]at h0 h1;obtain⟨p0,rfl,h0,l0,_⟩:=h0;obtain⟨p1,rfl,h1,l1,_⟩:=h1;rcases p0 with _ |⟨x0,_ |⟨y0,_ |_⟩⟩<;>simp at l0;rcases p1 with _ |⟨x1,_ |⟨y1,_ |_⟩⟩<;>simp at l1;simp only[c8,aB,and_true]at h0 h1;obtain⟨rfl,_⟩:=h0;obtain⟨rfl,_⟩:=h1;rw[<-cJ.at];simp only[aE,ren,tH,List.map];exact Ca _ _ _ _ w
def VU:z4l prog 73 74 2:=fun v11 _ enc cf hk h1 hO cb blk off cap d w hc hH hb hs=>
 AnyQ.slices_SortFunc Tryz.sortJ 2 Tryz.isAgg107 Tryz.sizeOf107 enc hk h1 cf hO 74 cb blk off cap d w (enters_of Tryz.func74 (by kernel_rfl) rfl) hc hH hb hs
def Kh{X:Sg}{u:U}(hu:v7 tb X 93 u=some (.i6 0)):aV prog 73 [u,.fn (.func 74) [] []] X (fun u' X'=>u'=.tup []/\X'=X):=by
 have p?:aV prog 143 [u,.i6 0,.i6 0,.fn (.func 74) [] []] X (fun u' X'=>u'=.tup []/\X'=X):=by refine Wr 53 T1 ?_;refine goN ?_;refine gL (fun m tm X'=>tm=fr 53 [(2,.i6 0),(8,.i6 1)]/\X'=X) (fun tm X'=>tm=fr 53 []/\X'=X) 0 ⟨rfl,rfl⟩ ?_ ?_ (zF _);rintro _ _ ⟨rfl,rfl⟩;refine⟨.inl rfl,[],rfl,.tup [],_,zF _,Gh.refl _ _ _,rfl,rfl⟩;rintro m _ _ ⟨rfl,rfl⟩;refine goN ?_;refine dS rfl (fun h1=>by cases h1) (fun h1=>?_);refine goN ?_;exact⟨_,_,⟨rfl,rfl⟩,zF _,Gh.sub trivial⟩
 have X_:aV prog 109 [u,.i6 0,.i6 0,.i6 0,.fn (.func 74) [] []] X (fun u' X'=>u'=.tup []/\X'=X):=by refine bg5 148 TF ?_;refine goN ?_;refine gL (fun m tm X'=>tm=fr 148 [(0,u),(1,.i6 0),(2,.i6 0),(4,.fn (.func 74) [] [])]/\X'=X) (fun tm X'=>False) 0 ⟨rfl,rfl⟩ (fun _ _ h=>h.elim) ?_ (zF _);rintro m _ _ ⟨rfl,rfl⟩;refine goN ?_;apply aR;refine goN ?_;refine dS rfl (fun h1=>?_) (fun h1=>by cases h1);refine goN ?_;refine aK rfl p? T1 ?_;refine goN ?_;refine⟨.inr rfl,[],rfl,.tup [],_,zF _,Gh.refl _ _ _,rfl,rfl⟩
 refine eO 14 Vl ?_;refine goN ?_;refine RS.w rfl (JK rfl rfl rfl hu) ?_;refine goN ?_;refine RS.w rfl (by exact rfl) ?_;refine aK rfl (z1q _) Wd ?_;refine goN ?_;refine aK rfl X_ TF ?_;refine goN ?_;refine⟨.inl rfl,[],rfl,.tup [],_,zF _,Gh.refl _ _ _,rfl,rfl⟩
end Go.Proofs
namespace Go.Proofs
open Go Go.Rx Go.Vx Go.Shelf Go.RowKit Go.Sort Tryz
set_option maxRecDepth 20000
set_option maxHeartbeats 4000000
set_option synthInstance.maxSize 4000
set_option synthInstance.maxHeartbeats 200000
def IA(a b:dR):BQ:=a.f==b.f&&a.to==b.to
def qxr(a b:dR)(h:IA a b=true):a=b:=by cases a;cases b;simpa[IA]using h
def G8(l:Z dR):I (Z dR):=Xk IA (fun a b=>some (wrap64 (a.f-b.f))) l
variable{K:Nat}
def VS{nm:Nat->Nat}{X:Sg}{t:Nat}{xs ys:Z dR}(h:G8 xs=some ys)(hg:gt X.h K=some (.vec (xs.map (bX nm)).flatten 107 2 t)):
  aV prog 73 [.vl K t 0 xs.length,.fn (.func 74) [] []] X (fun u X'=>∃H,u=.tup []/\X'=⟨H,X.nx⟩/\gt H K=some (.bv (bX nm) ys 107 2 t)/\∀k,k≠K->gt H k=gt X.h k):=by
 obtain⟨h1,h2,rfl⟩:=ik h;cases xs with
 |nil=>exact(Kh (bi BO.h hg)).mono fun u s ⟨h3,h4⟩=>⟨X.h,h3,h4,hg,fun _ _=>rfl⟩
 |cons x xs=>refine aV.mono (aV.sortC0 (encU:=bX nm) (fun _=>rfl) (by decide) (fun _=>rfl) VU (x::xs) (qmj qxr h2) (fun a b r h=>by cases h;exact Cb nm a b) nofun (by omega) hg) fun u s ⟨h3,h4⟩=>⟨_,h3,h4,by rw[c7,if_pos rfl,hg];rfl,fun k hk=>by rw[c7,if_neg (Ne.symm hk)]⟩
def qug{xs ys:Z dR}(h:G8 xs=some ys):∀a,a∈ys↔a∈xs:=by obtain⟨h1,h2,rfl⟩:=ik h;intro a;exact(M9 _ xs).mem_iff
def pP(nm:Nat->Nat)(x:PN)(u:U):Z U:=[.i6 x.kind,u,po nm x.fw,.i6 x.fwA,.i6 x.mt,.i6 x.mtA,.iM (bX nm) x.more,.i6 x.moA,po nm x.cp,.i6 x.cpA,.bool x.ch,.i6 x.chA]
structure PF(kp kr st:Nat)(nm:Nat->Nat)(P:PP)(h:Z (Nat×B)):Prop where
 pool:gt h kp=some (.row (qN kr st P) 83)
 node:∀i x,P.N[i]? = some x->∃u,gt h (nm i)=some (.row (pP nm x u) 103)
section
variable{kp kr st:Nat}{nm:Nat->Nat}{P:PP}{h:Z (Nat×B)}{nx:Nat}
theorem PF.gp(p:PF kp kr st nm P h):eK h kp (.row [.iM m4 P.H.Types,.iM pA P.H.Feats,.vl kr st 0 P.roots.length,.i6 P.size,.i6 P.gen] 83):=⟨p.pool⟩
def PF.gn(p:PF kp kr st nm P h){i:Nat}{x:PN}(hx:P.N[i]? = some x):∃u,eK h (nm i) (.row [.i6 x.kind,u,po nm x.fw,.i6 x.fwA,.i6 x.mt,.i6 x.mtA,.iM (bX nm) x.more,.i6 x.moA,po nm x.cp,.i6 x.cpA,.bool x.ch,.i6 x.chA] 103):=(p.node i x hx).imp fun u h=>⟨h⟩
def z2q(p:PF kp kr st nm P h)(n:Nat){i r:Nat}(J:rL P.N P.gen n i=some r):aV prog 66 [.ptr kp 0 0,pt nm i] ⟨h,nx⟩ (fun u X'=>u=pt nm r/\X'=⟨h,nx⟩):=by
 haveI:=p.gp
 refine eO 23 wB ?_;refine goN ?_;refine gL (fun m tm X=>∃i,rL P.N P.gen m i=some r/\tm=fr 23 [(0,.ptr kp 0 0),(1,pt nm i)]/\X=⟨h,nx⟩) (fun _ _=>False) n ⟨i,J,rfl,rfl⟩ (fun _ _ h=>h.elim) ?_ (zF _);rintro(_ |m) _ _ ⟨i,J,rfl,rfl⟩;cases J;obtain⟨x,hx,J⟩:=aL J;obtain⟨u,hu⟩:=p.gn hx
 haveI:=hu
 refine goN ?_;apply aR;refine goN ?_;refine dE [] ?_;refine cU ?_;cases hb:x.fwA != P.gen with
 |true=>rw[hb]at J;obtain rfl:=sI J;refine dV rfl (WA hb rfl) w8 ?_;refine cU ?_;refine bN ⟨by kernel_rfl,trivial,?_⟩;refine goN ?_;refine dS rfl (fun h1=>?_) (fun h1=>by cases h1);refine goN ?_;exact AC rfl rfl rfl (zF _) ⟨rfl,rfl⟩
 |false=>rw[hb]at J;obtain⟨q,hq,J⟩:=aL J;refine dV rfl (WA (v:=pt nm q) hb (by rw[hq];rfl)) w8 ?_;refine cU ?_;refine bN ⟨by kernel_rfl,trivial,?_⟩;refine goN ?_;refine dS rfl (fun h1=>by cases h1) (fun h1=>?_);refine goN ?_;exact⟨m,_,_,zN _,⟨q,J,rfl,rfl⟩,zF _,Gh.sub (by((repeat refine⟨rfl,?_⟩);exact trivial))⟩
end
def gC(k:Int)(l:Z dR):PN:=⟨k,l,none,0,0,0,[],0,none,0,false,0⟩
section
variable{nm nm':Nat->Nat}{n:Nat}
def Nv(h:∀k,k<n->nm' k=nm k){l:Z dR}(hl:∀a∈l,a.to<n):l.map (bX nm')=l.map (bX nm):=List.map_congr_left fun a ha=>by simp only[bX,pt,h _ (hl a ha)]
def qox(h:∀k,k<n->nm' k=nm k){l:Z Nat}(hl:∀a∈l,a<n):l.map (dL nm')=l.map (dL nm):=List.map_congr_left fun a ha=>by simp only[dL,pt,h _ (hl a ha)]
def Mt(h:∀k,k<n->nm' k=nm k):∀{o:I Nat},DF n o->po nm' o=po nm o
 |none,_=>rfl|some i,hi=>by simp only[po,pt,h i hi]
def qow(h:∀k,k<n->nm' k=nm k){x:PN}(w:jK n x):nM nm' x=nM nm x:=by simp only[nM,U.iM];rw[Nv h w.arcs,Nv h w.more,Mt h w.fw,Mt h w.cp]
def DF.le{m:Nat}(h:n<=m):∀{o:I Nat},DF n o->DF m o
 |none,_=>trivial|some i,hi=>Nat.lt_of_lt_of_le hi h
def jK.le{m:Nat}(h:n<=m){x:PN}(w:jK n x):jK m x:=⟨fun a ha=>Nat.lt_of_lt_of_le (w.arcs a ha) h,w.fw.le h,fun a ha=>Nat.lt_of_lt_of_le (w.more a ha) h,w.cp.le h⟩
end
section
variable{kp kr st:Nat}{nm:Nat->Nat}{P:PP}{h:Z (Nat×B)}{nx:Nat}
def PH.kpn(p:PH kp kr st nm P h){i:Nat}(hi:i<P.N.length):nm i≠kp:=fun e=>by
 have:=p.node i _ (List.getElem?_eq_getElem hi);rw[e,p.pool]at this;simp at this
def PH.krn(p:PH kp kr st nm P h){i:Nat}(hi:i<P.N.length):nm i≠kr:=fun e=>by
 have:=p.node i _ (List.getElem?_eq_getElem hi);rw[e,p.roots]at this;cases this
def PH.krp(p:PH kp kr st nm P h):kr≠kp:=fun e=>by
 have:=p.roots;rw[e,p.pool]at this;cases this
def PH.setP(p:PH kp kr st nm P h)(s g:Int){H:Z (Nat×B)}(h1:gt H kp=some (.row (qN kr st { P with size:=s,gen:=g }) 83))(h2:∀k b,gt h k=some b->k≠kp->gt H k=some b):PH kp kr st nm { P with size:=s,gen:=g } H :=
 ⟨h1,h2 _ _ p.roots p.krp,fun i x hx=>h2 _ _ (p.node i x hx) (p.kpn (zG.1 hx).1),p.inj,p.wf,p.rt⟩
def tG(nm:Nat->Nat)(n K:Nat):Nat->Nat:=fun k=>if k=n then K else nm k
def uI{n:Nat}:∀k,k<n->tG nm n K k=nm k:=fun k hk=>by rw[tG,if_neg (by omega)]
def WN{n:Nat}:tG nm n K n=K:=by rw[tG,if_pos rfl]
end
structure PQ(kp kr st:Nat)(nm:Nat->Nat)(P:PP)(c:Nat)(h:Z (Nat×B)):Prop where
 pool:gt h kp=some (.row (qN kr st P) 83)
 roots:gt h kr=some (.vec (P.roots.map (dL nm)).flatten 92 1 st)
 node:∀i x,P.N[i]? = some x->i<c->gt h (nm i)=some (.row (nM nm x) 103)
 pend:∀i x,P.N[i]? = some x->c<=i->gt h (nm i)=some (.row (pP nm x .nils) 103)/\x.arcs=[]
 inj:∀i j,i<P.N.length->j<P.N.length->nm i=nm j->i=j
 wf:∀x∈P.N,jK P.N.length x
 rt:∀r∈P.roots,r<P.N.length
section
variable{kp kr st c:Nat}{nm:Nat->Nat}{P:PP}{h:Z (Nat×B)}{nx:Nat}
def PH.pq(p:PH kp kr st nm P h):PQ kp kr st nm P P.N.length h:=⟨p.pool,p.roots,fun i x hx _=>p.node i x hx,fun i x hx hc=>absurd (zG.1 hx).1 (by omega),p.inj,p.wf,p.rt⟩
def PQ.ph(p:PQ kp kr st nm P c h)(hc:P.N.length<=c):PH kp kr st nm P h:=⟨p.pool,p.roots,fun i x hx=>p.node i x hx (by have:=(zG.1 hx).1;omega),p.inj,p.wf,p.rt⟩
def PQ.row(p:PQ kp kr st nm P c h){i:Nat}{x:PN}(hx:P.N[i]? = some x):∃u,gt h (nm i)=some (.row (pP nm x u) 103):=by rcases Nat.lt_or_ge i c with hi |hi;exact⟨_,p.node i x hx hi⟩;exact⟨_,(p.pend i x hx hi).1⟩
variable{i:Nat}
def PQ.rowL(p:PQ kp kr st nm P c h)(hi:i<P.N.length):∃q,gt h (nm i)=some (.row q 103):=by obtain⟨u,hu⟩:=p.row (List.getElem?_eq_getElem hi);exact⟨_,hu⟩
def PQ.pf(p:PQ kp kr st nm P c h):PF kp kr st nm P h:=⟨p.pool,fun i x hx=>p.row hx⟩
variable{H:Z (Nat×B)}
def PQ.more(p:PQ kp kr st nm P c h)(h2:∀k b,gt h k=some b->gt H k=some b):PQ kp kr st nm P c H :=
 ⟨h2 _ _ p.pool,h2 _ _ p.roots,fun i x hx hc=>h2 _ _ (p.node i x hx hc),fun i x hx hc=>⟨h2 _ _ (p.pend i x hx hc).1,(p.pend i x hx hc).2⟩,p.inj,p.wf,p.rt⟩
def PQ.kpn(p:PQ kp kr st nm P c h)(hi:i<P.N.length):nm i≠kp:=fun e=>by
 obtain⟨q,hq⟩:=p.rowL hi;rw[e,p.pool]at hq;simp at hq
def PQ.krn(p:PQ kp kr st nm P c h)(hi:i<P.N.length):nm i≠kr:=fun e=>by
 obtain⟨q,hq⟩:=p.rowL hi;rw[e,p.roots]at hq;cases hq
def PQ.krp(p:PQ kp kr st nm P c h):kr≠kp:=fun e=>by
 have:=p.roots;rw[e,p.pool]at this;cases this
def PQ.lt(p:PQ kp kr st nm P c h)(hw:nN ⟨h,nx⟩)(hi:i<P.N.length):nm i<nx:=by obtain⟨q,hq⟩:=p.rowL hi;exact(hw _ _ hq).1
def PQ.setP(p:PQ kp kr st nm P c h)(s:Int):PQ kp kr st nm { P with size:=s } c (ug h kp (.row (qN kr st { P with size:=s }) 83)):=by
 have h2:∀k,k≠kp->gt (ug h kp (.row (qN kr st { P with size:=s }) 83)) k=gt h k:=fun k hk=>by rw[c7,if_neg (Ne.symm hk)]
 refine⟨by rw[c7,if_pos rfl,p.pool];rfl,by rw[h2 _ p.krp];exact p.roots,fun i x hx hc=>?_,fun i x hx hc=>?_,p.inj,p.wf,p.rt⟩;rw[h2 _ (p.kpn (zG.1 hx).1)];exact p.node i x hx hc;rw[h2 _ (p.kpn (zG.1 hx).1)];exact p.pend i x hx hc
def PQ.upd(p:PQ kp kr st nm P c h){c':Nat}{x y:PN}(hx:P.N[i]? = some x)(hi:i<c')(hc:∀j,j≠i->(j<c↔j<c'))(hy:jK P.N.length y)(h1:gt H (nm i)=some (.row (nM nm y) 103))(h2:∀k b,gt h k=some b->k≠nm i->gt H k=some b):PQ kp kr st nm { P with N:=P.N.set i y } c' H:=by
 have lV:i<P.N.length:=(zG.1 hx).1;have key:∀j z,(P.N.set i y)[j]? = some z->j≠i->P.N[j]? = some z/\nm j≠nm i:=fun j z hz hj=>by rw[List.getElem?_set,if_neg (Ne.symm hj)]at hz;exact⟨hz,fun e=>hj (p.inj _ _ (zG.1 hz).1 lV e)⟩
 refine⟨h2 _ _ p.pool (Ne.symm (p.kpn lV)),h2 _ _ p.roots (Ne.symm (p.krn lV)),fun j z hz hj=>?_,fun j z hz hj=>?_,fun a b ha hb=>p.inj a b (by simpa using ha) (by simpa using hb),fun z hz=>?_,fun r hr=>by simpa using p.rt r hr⟩;by_cases e:j=i;subst e;have hz:(P.N.set j y)[j]? = some z:=hz;rw[List.getElem?_set,if_pos rfl,if_pos lV]at hz;cases hz;exact h1;obtain⟨k1,k2⟩:=key j z hz e;exact h2 _ _ (p.node j z k1 ((hc j e).2 hj)) k2;have e:j≠i:=by omega
 obtain⟨k1,k2⟩:=key j z hz e;have h3:=p.pend j z k1 (by have:=hc j e;omega);exact⟨h2 _ _ h3.1 k2,h3.2⟩;have aN:(P.N.set i y).length=P.N.length:=by simp
 show jK (P.N.set i y).length z;rw[aN];rcases List.mem_or_eq_of_mem_set hz with hz |rfl;exact p.wf z hz;exact hy
def qvl{nm':Nat->Nat}{n:Nat}(h:∀k,k<n->nm' k=nm k){x:PN}(w:jK n x)(u:U):pP nm' x u=pP nm x u:=by simp only[pP,U.iM];rw[Nv h w.more,Mt h w.fw,Mt h w.cp]
def PQ.add(p:PQ kp kr st nm P c h)(hw:nN ⟨h,nx⟩)(hc:c<=P.N.length)(k:Int)(h1:gt H nx=some (.row (pP (tG nm P.N.length nx) (gC k []) .nils) 103))(h2:∀k b,gt h k=some b->gt H k=some b):PQ kp kr st (tG nm P.N.length nx) { P with N:=P.N++[gC k []] } c H:=by
 have aH:∀i,i<P.N.length->nm i<nx:=fun i hi=>p.lt hw hi;have aN:(P.N++[gC k []]).length=P.N.length+1:=by simp
 have key:∀i x,(P.N++[gC k []])[i]? = some x->(i<P.N.length/\P.N[i]? = some x)\/(i=P.N.length/\x=gC k []):=fun i x hx=>by
  rcases Nat.lt_or_ge i P.N.length with hi |hi;rw[List.getElem?_append_left hi]at hx;exact .inl ⟨hi,hx⟩;have lV:=(zG.1 hx).1;have:i=P.N.length:=by omega
  subst this;rw[List.getElem?_append_right (zF _)]at hx;simp at hx;exact .inr ⟨rfl,hx.symm⟩
 refine⟨h2 _ _ p.pool,?_,fun i x hx hi=>?_,fun i x hx hi=>?_,fun i j hi hj e=>?_,fun x hx=>?_,fun r hr=>?_⟩;rw[h2 _ _ p.roots];show some (B.vec (P.roots.map _).flatten _ _ _)=some (B.vec (P.roots.map _).flatten _ _ _);rw[qox (nm:=nm) (uI (nm:=nm)) p.rt];rcases key i x hx with⟨h3,h4⟩|⟨rfl,rfl⟩;rw[uI i h3,h2 _ _ (p.node i x h4 hi),qow uI (p.wf x (zX h4))];omega;rcases key i x hx with⟨h3,h4⟩|⟨rfl,rfl⟩;rw[uI i h3,h2 _ _ (p.pend i x h4 hi).1,qvl uI (p.wf x (zX h4))];exact⟨rfl,(p.pend i x h4 hi).2⟩;rw[WN];exact⟨h1,rfl⟩;have hi:i<(P.N++[gC k []]).length:=hi;have hj:j<(P.N++[gC k []]).length:=hj;rw[aN]at hi hj;rcases Nat.lt_succ_iff_lt_or_eq.1 hi with hi |rfl<;>rcases Nat.lt_succ_iff_lt_or_eq.1 hj with hj |rfl;rw[uI i hi,uI j hj]at e;exact p.inj i j hi hj e;rw[uI i hi,WN]at e;have:=aH i hi;omega;rw[uI j hj,WN]at e;have:=aH j hj;omega;rfl;show jK (P.N++[gC k []]).length x;rw[aN];rcases yD.1 hx with hx |hx;exact(p.wf x hx).le (Nat.le_succ _);simp at hx;subst hx;exact⟨nofun,trivial,nofun,trivial⟩;show r<(P.N++[gC k []]).length;rw[aN];exact Nat.lt_succ_of_lt (p.rt r hr)
end
end Go.Proofs
namespace Go.Proofs
open Go Go.Rx Go.Vx Tryz
set_option maxRecDepth 20000
set_option maxHeartbeats 4000000
set_option synthInstance.maxSize 4000
set_option synthInstance.maxHeartbeats 200000
def R6(g:Int):Z Nat->Z PN->Int->I (Z PN×Int)
 |[],N,s=>some (N,s)|p::l,N,s=>a8 N[p]? fun x=>cond (xF g x)
   (R6 g l ((N++[gC (gE g x) []]).set p { x with cp:=some N.length,cpA:=g }) (IntKind.i64.wrap (s+1)))
   (R6 g l (N.set p { x with cp:=some p,cpA:=g }) s)
def FF(g:Int)(x:PN):I Nat:=cond (x.cpA != g) none x.cp
def U7(N:Z PN)(g:Int)(n:Nat):Z dR->Z dR->I (Z dR)
 |[],d=>some d|a::l,d=>a8 (rL N g n a.to) fun r=>a8 N[r]? fun y=>a8 (FF g y) fun q=>aG (d.length<=1000000) (U7 N g n l (d++[⟨a.f,q⟩]))
def N7(g:Int)(n:Nat):Z Nat->Z PN->Nat->I (Z PN)
 |[],N,c=>aG (c=N.length) (some N)|p::l,N,c=>a8 N[p]? fun x=>a8 (FF g x) fun q=>cond (Nat.beq q p) (N7 g n l N c)
   (a8 N[q]? fun y=>aG (q=c/\p<c/\(bW g x).length<=1000000) (a8 (U7 N g n (bW g x) []) fun d=>a8 (G8 d) fun d'=>N7 g n l (N.set q { y with arcs:=d' }) (c+1)))
def Do(g:Int)(n:Nat)(N:Z PN)(s:Int)(i:Nat):I (Nat×Z PN×Int):=
 a8 (U6 N g n n 0 [i]) fun l=>a8 (Kt g n l N) fun N1=>a8 (R6 g l N1 s) fun r=>a8 (N7 g n l r.1 N.length) fun N3=>a8 N3[i]? fun x=>a8 (FF g x) fun q=>some (q,N3,r.2)
section
variable{kp kr st c:Nat}{nm:Nat->Nat}{P:PP}{h:Z (Nat×B)}{nx:Nat}
variable{i:Nat}
variable{x:PN}
def z2z(p:PF kp kr st nm P h)(hx:P.N[i]? = some x):aV prog 70 [.ptr kp 0 0,pt nm i] ⟨h,nx⟩ (fun u X'=>u=.i6 (gE P.gen x)/\X'=⟨h,nx⟩):=by
 haveI:=p.gp
 obtain⟨u,hu⟩:=p.gn hx
 haveI:=hu
 refine eO 25 w9 ?_;refine goN ?_;refine dE [] ?_;refine cU ?_;refine dV rfl (fun s=>Ux s x.mt x.mtA P.gen) I8 ?_;refine cU ?_;refine bN ⟨by kernel_rfl,trivial,?_⟩;refine goN ?_;refine dS rfl (fun h1=>?_) (fun h1=>?_);refine goN ?_;have h2:(x.mtA != P.gen)=false:=by simpa using h1
 exact AC rfl rfl rfl (zF _) ⟨by rw[gE,h2];rfl,rfl⟩;refine goN ?_;have h2:(x.mtA != P.gen)=true:=by simpa using h1
 exact AC rfl rfl rfl (zF _) ⟨by rw[gE,h2];rfl,rfl⟩
def z1m(p:PQ kp kr st nm P c h)(hx:P.N[i]? = some x)(hi:i<c)(hl:(bW P.gen x).length<=1000000):aV prog 72 [.ptr kp 0 0,pt nm i] ⟨h,nx⟩ (fun u X'=>u=.iM (bX nm) (bW P.gen x)/\X'=⟨h,nx⟩):=by
 refine aV.wf fun hw _=>?_;have HK:=Fq (nm:=nm) (n:=nx) _ fun a ha=>p.lt hw (M3 (g:=P.gen) (p.wf x (zX hx)) a ha);rw[bW,zU]at hl
 haveI:=p.pf.gp
 haveI:eK h (nm i) (.row [.i6 x.kind,.iM (bX nm) x.arcs,po nm x.fw,.i6 x.fwA,.i6 x.mt,.i6 x.mtA,.iM (bX nm) x.more,.i6 x.moA,po nm x.cp,.i6 x.cpA,.bool x.ch,.i6 x.chA] 103):=⟨p.node i x hx hi⟩
 refine eO 26 D7 ?_;refine goN ?_;refine dE [] ?_;refine cU ?_;refine dV rfl (fun s=>OB s nm x.more x.moA P.gen) wE ?_;refine cU ?_;refine bN ⟨by kernel_rfl,trivial,?_⟩;refine goN ?_;refine lK rfl (g9 rfl BD rfl).2 (dr h nx nm x.arcs (by omega)) rfl rfl ?_;rintro _ _ ⟨rfl,rfl⟩;refine goN ?_;refine RS.w rfl (oAq (c:=bX nm) (xs:=x.arcs) (ys:=g8 P.gen x) rfl rfl rfl rfl rfl rfl rfl rfl ⟨by omega,by omega⟩) ?_;refine goN ?_;refine⟨.inr rfl,_,fH rfl fW,_,⟨h,nx⟩,zF _,Xi (c:=bX nm) (xs:=bW P.gen x) (e:=107) (sz:=2) (K:=nx) (st:=1) hw (zF _) (by simp[aQ,bW]) (fun k hk=>jQ hk) (Nat.le_succ _) (tm':=[.iM (bX nm) (bW P.gen x)]) ?_ (by simp only[aF,aP,and_true];exact HK) (zF _),rfl,rfl⟩;exact congrArg (fun u=>[u]) (LN (c:=bX nm) (sz:=2) (fun _=>rfl) (bW P.gen x) nx 2 107 1)
structure oT(kp kr st:Nat)(nm:Nat->Nat)(P:PP)(h:Z (Nat×B))(nx:Nat)(nm1:Nat->Nat)(N:Z PN)(s:Int)(c:Nat)(H:Z (Nat×B))(M:Nat):Prop where
 ph:PQ kp kr st nm1 { P with N:=N,size:=s } c H
 nmE:∀k,k<P.N.length->nm1 k=nm k
 new:∀k,P.N.length<=k->k<N.length->nx<=nm1 k
 fr:∀k,k<nx->k≠kp->(∀i,i<P.N.length->nm i≠k)->gt H k=gt h k
 le:nx<=M
 len:P.N.length<=N.length
 cl:P.N.length<=c
def Mu{g:Int}{q:Nat}(h:FF g x=some q):(x.cpA != g)=false/\x.cp=some q:=by unfold FF at h;rcases hb:x.cpA != g with _|_;rw[hb]at h;exact⟨rfl,h⟩;rw[hb]at h;cases h
def fi{N:Z PN}{g:Int}{n:Nat}:∀{l:Z dR}{o o2:Z Nat},PY N g n l o=some o2->(∀k∈o,k<N.length)->∀k∈o2,k<N.length
 |[],o,o2,h,ho=>by obtain rfl:=sI h;exact ho
 |a::l,o,o2,h,ho=>by
  obtain⟨q,hq,h⟩:=aL h;cases hc:o.contains q with
  |true=>rw[hc]at h;exact fi h ho|false=>
   rw[hc]at h;obtain⟨_,h⟩:=cQ h;refine fi h fun k hk=>?_;rcases yD.1 hk with hk |hk
   exact ho k hk;simp at hk;subst hk;exact Zr hq
def qzd{N:Z PN}{g:Int}{n:Nat}:∀{m i:Nat}{o o2:Z Nat},U6 N g n m i o=some o2->(∀k∈o,k<N.length)->∀k∈o2,k<N.length
 |0,i,o,o2,h,ho=>by cases h
 |m+1,i,o,o2,h,ho=>by
  change cond (decide (i<o.length)) _ _=some o2 at h;cases hb:decide (i<o.length)with
  |false=>rw[hb]at h;obtain rfl:=sI h;exact ho
  |true=>rw[hb]at h;obtain⟨p,_,h⟩:=aL h;obtain⟨x,_,h⟩:=aL h;obtain⟨_,h⟩:=cQ h;obtain⟨o1,h1,h⟩:=aL h;exact qzd h (fi h1 ho)
def B'{N:Z PN}{g:Int}{n m:Nat}(hN:∀x∈N,jK m x):∀{l d d':Z dR},U7 N g n l d=some d'->(∀a∈d,a.to<m)->∀a∈d',a.to<m
 |[],d,d',h,hd=>by obtain rfl:=sI h;exact hd
 |a::l,d,d',h,hd=>by
  obtain⟨r,_,h⟩:=aL h;obtain⟨y,hy,h⟩:=aL h;obtain⟨q,hq,h⟩:=aL h;obtain⟨_,h⟩:=cQ h;refine B' hN h fun b hb=>?_;rcases yD.1 hb with hb |hb
  exact hd b hb;simp at hb;subst hb;have:=(hN y (zX hy)).cp;rw[(Mu hq).2]at this;exact this
def aa(p:PH kp kr st nm P h)(n:Nat)(hi:i<P.N.length){r:Nat×Z PN×Int}(J:Do P.gen n P.N P.size i=some r):
  aV prog 46 [.ptr kp 0 0,pt nm i] ⟨h,nx⟩ (fun u X'=>∃H M nm1,u=pt nm1 r.1/\X'=⟨H,M⟩/\oT kp kr st nm P h nx nm1 r.2.1 r.2.2 r.2.1.length H M/\r.1<r.2.1.length):=by
 refine aV.wf fun uP _=>?_;obtain⟨l,h1,N1,h2,r1,h3,N3,h4,J⟩:=C1 J;obtain⟨x3,h5,q3,h6,J⟩:=cB J;obtain rfl:=sI J;have hl:∀i∈l,i<P.N.length:=qzd h1 (by simpa using hi);obtain⟨qE,_⟩:=cQ h2;refine eO 146 Vu ?_;refine goN ?_;refine aK rfl (z3x p n hi h1) Vn ?_;refine goN ?_;refine lK rfl (g9 rfl Vm rfl).2 (z7i p n hl h2) rfl rfl ?_;rintro _ _ ⟨H1,M1,rfl,rfl,m9,lU,vS,vY⟩;refine goN ?_;have c1:oT kp kr st nm P h nx nm N1 P.size P.N.length H1 M1:=⟨by have:=m9.pq;rw[show({ P with N:=N1 }:PP).N.length=P.N.length from lU]at this;exact this,fun _ _=>rfl,fun k a b=>by omega,fun k a _ b=>vY k a b,vS,by omega,zF _⟩;refine gL (fun m tm X=>∃(t:Nat)(nm1:Nat->Nat)(N:Z PN)(s:Int)(H:Z (Nat×B))(M:Nat),m=l.length-t/\t<=l.length/\R6 P.gen (l.drop t) N s=some r1/\tm=fr 146 [(0,.ptr kp 0 0),(1,pt nm i),(5,.iM (dL nm) l),(27,.iM (dL nm) l),(28,.i6 l.length),(29,.i6 t)]/\X=⟨H,M⟩/\oT kp kr st nm P h nx nm1 N s P.N.length H M)
  (fun tm X=>∃(nm1:Nat->Nat)(H:Z (Nat×B))(M:Nat),tm=fr 146 [(0,.ptr kp 0 0),(1,pt nm i),(5,.iM (dL nm) l)]/\X=⟨H,M⟩/\oT kp kr st nm P h nx nm1 r1.1 r1.2 P.N.length H M) l.length
  ⟨0,nm,N1,P.size,H1,M1,rfl,Nat.zero_le _,h3,rfl,rfl,c1⟩ ?_ ?_ vS
 ·rintro _ _ ⟨nm1,H,M,rfl,rfl,hm⟩;refine goN ?_;refine gL (fun m tm X=>∃(t:Nat)(N:Z PN)(c:Nat)(H:Z (Nat×B))(M:Nat),m=l.length-t/\t<=l.length/\N7 P.gen n (l.drop t) N c=some N3/\tm=fr 146 [(0,.ptr kp 0 0),(1,pt nm i),(69,.iM (dL nm) l),(70,.i6 l.length),(71,.i6 t)]/\X=⟨H,M⟩/\oT kp kr st nm P h nx nm1 N r1.2 c H M) (fun tm X=>∃(H:Z (Nat×B))(M:Nat),tm=fr 146 [(0,.ptr kp 0 0),(1,pt nm i)]/\X=⟨H,M⟩/\oT kp kr st nm P h nx nm1 N3 r1.2 N3.length H M) l.length
   ⟨0,r1.1,P.N.length,H,M,rfl,Nat.zero_le _,h4,rfl,rfl,hm⟩ ?_ ?_ hm.le
  rintro _ _ ⟨H,M,rfl,rfl,hm⟩;obtain⟨j_,vq⟩:=Mu h6;have lV:i<N3.length:=(zG.1 h5).1;have KP:=hm.ph.node i x3 h5 lV
  haveI:eK H (nm1 i) (.row [.i6 x3.kind,.iM (bX nm1) x3.arcs,po nm1 x3.fw,.i6 x3.fwA,.i6 x3.mt,.i6 x3.mtA,.iM (bX nm1) x3.more,.i6 x3.moA,po nm1 x3.cp,.i6 x3.cpA,.bool x3.ch,.i6 x3.chA] 103):=⟨KP⟩
  haveI:=hm.ph.pf.gp
  rw[show pt nm i=pt nm1 i by rw[pt,pt,hm.nmE i hi]];refine goN ?_;refine dE [] ?_;refine cU ?_;refine dV rfl (WA (v:=pt nm1 q3) j_ (by rw[vq];rfl)) w8 ?_;refine cU ?_;refine bN ⟨by kernel_rfl,trivial,?_⟩;refine goN ?_;refine AC rfl rfl rfl hm.le ⟨H,M,nm1,rfl,rfl,hm,?_⟩;have:=(hm.ph.wf x3 (zX h5)).cp;rw[vq]at this;exact this;rintro _ _ _ ⟨t,N,c,H,M,rfl,ht,cO,rfl,rfl,hm⟩;refine goN ?_;refine dS rfl (fun h7=>?_) (fun h7=>?_)
  ·have eQ:t<l.length:=by simpa using h7
   obtain⟨q,hq⟩:∃a,l[t]? = some a:=⟨_,List.getElem?_eq_getElem eQ⟩;have lH:aC l (t:Int)=some q:=by rw[aC,if_pos ⟨by omega,by omega⟩];simpa using hq
   have xQ:l.drop t=q::l.drop (t+1):=by rw[List.drop_eq_getElem_cons eQ];rw[List.getElem?_eq_getElem eQ]at hq;cases hq;rfl
   have kN:IntKind.i64.wrap ((t:Int)+1)=((t+1:Nat):Int):=by rw[oA (by omega) (by omega)];rfl
   rw[xQ]at cO;obtain⟨x,hx,cO⟩:=aL cO;obtain⟨q2,oO,cO⟩:=aL cO;obtain⟨F?,EH⟩:=Mu oO;have xK:=hl q (zX hq);have S8:q<c:=Nat.lt_of_lt_of_le xK hm.cl;have rR:dL nm q=dL nm1 q:=by simp only[dL,pt,hm.nmE q xK]
   have KP:=hm.ph.node q x hx S8;have fE:jK N.length x:=hm.ph.wf x (zX hx);have H6:q2<N.length:=by have:=fE.cp;rw[EH]at this;exact this
   have ZN:q<N.length:=(zG.1 hx).1;obtain⟨w1,u_⟩:=hm.ph.rowL ZN;obtain⟨w2,t_⟩:=hm.ph.rowL H6
   haveI:eK H (nm1 q) (.row [.i6 x.kind,.iM (bX nm1) x.arcs,po nm1 x.fw,.i6 x.fwA,.i6 x.mt,.i6 x.mtA,.iM (bX nm1) x.more,.i6 x.moA,po nm1 x.cp,.i6 x.cpA,.bool x.ch,.i6 x.chA] 103):=⟨KP⟩
   haveI:=hm.ph.pf.gp
   refine goN ?_;apply aR;refine goN ?_;refine aW lH ?_;rw[rR];refine goN ?_;refine dE [] ?_;refine cU ?_;refine dV rfl (WA (v:=pt nm1 q2) F? (by rw[EH];rfl)) w8 ?_;refine cU ?_;refine bN ⟨by kernel_rfl,trivial,?_⟩;refine goN ?_;refine xV rfl (eT.peq tb_ok rfl (.inl rfl) gK.h (bZ lT.h) (dH rfl) (dH rfl) t_ u_) ?_;rintro _ _ ⟨rfl,rfl⟩;have rX:Nat.beq (nm1 q2) (nm1 q)=Nat.beq q2 q:=by rw[beq_eq,beq_eq];by_cases e:q2=q;simp[e];have:nm1 q2≠nm1 q:=fun h=>e (hm.ph.inj q2 q H6 ZN h);simp[e,this]
   rw[if_pos rfl,rX];refine goN ?_;refine dS rfl (fun h8=>?_) (fun h8=>?_)
   ·rw[h8]at cO;refine goN ?_;refine⟨l.length-(t+1),_,_,by omega,⟨t+1,_,_,_,M,rfl,eQ,cO,rfl,rfl,hm⟩,hm.le,Gh.sub ?_⟩;rw[<-kN];(repeat refine⟨rfl,?_⟩);exact trivial
   rw[h8]at cO;obtain⟨y,hy,cO⟩:=aL cO;obtain⟨⟨rfl,_,oF⟩,cO⟩:=cQ cO;obtain⟨d,hd,cO⟩:=aL cO;obtain⟨d',bB,cO⟩:=aL cO;obtain⟨KN,Sc⟩:=hm.ph.pend q2 y hy (zF _);refine goN ?_;refine aK rfl (z1m hm.ph hx S8 oF) D7 ?_;refine goN ?_;refine WPU.wf fun fJ lf=>?_;refine dY (ES (nm1 q2) 1 107 2 (by decide) hm.le KN rfl) (Nat.le_succ_of_le hm.le) ?_;have rV:kp<M:=(fJ _ _ hm.ph.pool).1;have hyM:nm1 q2<M:=(fJ _ _ KN).1;have hkq:nm1 q2≠kp:=hm.ph.kpn H6;refine gL (fun m tm X=>∃(j:Nat)(d1:Z dR)(s:Nat)(H':Z (Nat×B))(M':Nat),m=(bW P.gen x).length-j/\j<=(bW P.gen x).length/\U7 N P.gen n ((bW P.gen x).drop j) d1=some d/\tm=fr 146 [(0,.ptr kp 0 0),(1,pt nm i),(13,pt nm1 q2),(69,.iM (dL nm) l),(70,.i6 l.length),(71,.i6 t),(92,.iM (bX nm1) (bW P.gen x)),(93,.i6 (bW P.gen x).length),(94,.i6 j)]/\X=⟨H',M'⟩/\M<M'/\gt H' M=some (.bv (bX nm1) d1 107 2 s)/\gt H' (nm1 q2)=some (.row (pP nm1 y (.vl M s 0 d1.length)) 103)/\∀k,k<M->k≠nm1 q2->gt H' k=gt H k)
    (fun tm X=>∃(s:Nat)(H':Z (Nat×B))(M':Nat),tm=fr 146 [(0,.ptr kp 0 0),(1,pt nm i),(13,pt nm1 q2),(69,.iM (dL nm) l),(70,.i6 l.length),(71,.i6 t)]/\X=⟨H',M'⟩/\M<M'/\gt H' M=some (.bv (bX nm1) d 107 2 s)/\gt H' (nm1 q2)=some (.row (pP nm1 y (.vl M s 0 d.length)) 103)/\∀k,k<M->k≠nm1 q2->gt H' k=gt H k) (bW P.gen x).length
    ⟨0,[],0,_,M+1,rfl,Nat.zero_le _,hd,rfl,rfl,zN _,by rw[c7,if_neg (by omega)];simp[newU,aQ],by rw[c7,if_pos rfl];simp only[newU];rw[aQ,if_neg (by omega),KN];rfl,fun k hk nL=>by rw[c7,if_neg (Ne.symm nL)];simp only[newU];rw[aQ,if_neg (by omega)]⟩ ?_ ?_ (Nat.le_succ_of_le hm.le)
   ·rintro _ _ ⟨s,H',M',rfl,rfl,Us,hv,xJ,fP⟩
    haveI:eK H' (nm1 q2) (.row [.i6 y.kind,.vl M s 0 d.length,po nm1 y.fw,.i6 y.fwA,.i6 y.mt,.i6 y.mtA,.iM (bX nm1) y.more,.i6 y.moA,po nm1 y.cp,.i6 y.cpA,.bool y.ch,.i6 y.chA] 103):=⟨xJ⟩
    refine goN ?_;refine lK rfl (g9 rfl Vl rfl).2 (VS (nm:=nm1) bB hv) rfl rfl ?_;rintro _ _ ⟨H2,rfl,rfl,hv2,NX⟩;refine goN ?_;have HH:d.length=d'.length:=by obtain⟨_,_,rfl⟩:=ik bB;exact(M9 _ d).length_eq.symm
    have B2:∀k,k<N.length->nm1 k<M:=fun k hk=>hm.ph.lt fJ hk;have CN:jK N.length y:=hm.ph.wf y (zX hy);have gtfz:∀k,k<M->k≠nm1 q2->gt (fzH M (.bv (bX nm1) d' 107 2 s) 2 H2) k=gt H k:=fun k hk nL=>by rw[FX,if_neg (by omega),NX k (by omega)];show Option.map _ (gt H' k)=_;rw[fP k hk nL];rcases hq:gt H k with _|b';rfl;simp only[zM];rw[Ez _ _ (fJ k b' hq).2]
    have EK:oT kp kr st nm P h nx nm1 (N.set q2 { y with arcs:=d' }) r1.2 (q2+1) (fzH M (.bv (bX nm1) d' 107 2 s) 2 H2) M':=by refine⟨hm.ph.upd hy (zN _) (fun j hj=>by omega) ⟨fun a ha=>?_,CN.fw,CN.more,CN.cp⟩ ?_ fun k b hb hk=>by rw[gtfz k (fJ k b hb).1 hk];exact hb,hm.nmE,fun k a b=>hm.new k a (by simpa using b),fun k a b e=>?_,by have:=hm.le;omega,by simpa using hm.len,Nat.le_succ_of_le hm.cl⟩;exact B' hm.ph.wf hd nofun a ((qug bB a).1 ha);rw[FX,if_neg (by omega),NX _ (by omega)];show Option.map _ (gt H' (nm1 q2))=_;rw[xJ];have e1:=LN (c:=bX nm1) (sz:=2) (fun _=>rfl) d' M 2 107 s;rw[<-HH]at e1;simp only[zM,fzB,pP,G0,M8,LV,LU,Q6,LW _ _ _ (Eo B2 CN.fw),LW _ _ _ (Eo B2 CN.cp)];rw[e1];rfl;rw[gtfz k (by have:=hm.le;omega) fun e2=>by have:=hm.new q2 hm.cl H6;omega];exact hm.fr k a b e
    refine⟨l.length-(t+1),_,_,by omega,⟨t+1,_,q2+1,_,M',rfl,eQ,cO,rfl,rfl,EK⟩,by have:=hm.le;show nx<=M';omega,Gh.trans (Gh.sub ?_) (Gh.fz (X:=⟨H2,M'⟩) M (.bv (bX nm1) d' 107 2 s) 2 hv2 nofun (yH _ _ _ (Ml ?_)) rfl)⟩
    ·rw[<-kN];(repeat refine⟨rfl,?_⟩);exact trivial
    simp only[BelS,aP,and_true,true_and];refine⟨rV,?_,?_⟩;rw[<-hm.nmE i hi];exact B2 i (Nat.lt_of_lt_of_le hi hm.len);rw[Fs];intro c hc;obtain⟨a,ha,rfl⟩:=List.mem_map.1 hc;simp only[dL,pt,aF,aP,and_true];rw[<-hm.nmE a (hl a ha)];exact B2 a (Nat.lt_of_lt_of_le (hl a ha) hm.len)
   rintro _ _ _ ⟨j,d1,s,H',M',rfl,hj,EE,rfl,rfl,Us,hv,xJ,fP⟩;refine WPU.wf fun mO hbt2=>?_
   haveI:SuC M' (M'+1):=⟨rfl⟩
   haveI:SuC (M'+1) (M'+2):=⟨rfl⟩
   have hpf:PF kp kr st nm1 { P with N:=N,size:=r1.2 } H':=⟨by rw[fP kp rV (Ne.symm hkq)];exact hm.ph.pool,fun k z hz=>by
    by_cases e:k=q2;subst e;have:y=z:=by rw[show N[k]? = some z from hz]at hy;cases hy;rfl
    subst this;exact⟨_,xJ⟩;have Ia:k<N.length:=(zG.1 hz).1;rw[fP _ (hm.ph.lt fJ Ia) fun e2=>e (hm.ph.inj _ _ Ia H6 e2)];exact hm.ph.row hz⟩
   refine goN ?_;refine dS rfl (fun h9=>?_) (fun h9=>?_)
   ·have gZ:j<(bW P.gen x).length:=by simpa using h9
    obtain⟨a,ha⟩:∃a,(bW P.gen x)[j]? = some a:=⟨_,List.getElem?_eq_getElem gZ⟩;have yW:aC (bW P.gen x) (j:Int)=some a:=by rw[aC,if_pos ⟨by omega,by omega⟩];simpa using ha
    have HG:(bW P.gen x).drop j=a::(bW P.gen x).drop (j+1):=by rw[List.drop_eq_getElem_cons gZ];rw[List.getElem?_eq_getElem gZ]at ha;cases ha;rfl
    have yQ:IntKind.i64.wrap ((j:Int)+1)=((j+1:Nat):Int):=by rw[oA (by omega) (by omega)];rfl
    rw[HG]at EE;obtain⟨r,hr,EE⟩:=aL EE;obtain⟨z,hz,EE⟩:=aL EE;obtain⟨q4,hq4,EE⟩:=aL EE;obtain⟨HH,EE⟩:=cQ EE;obtain⟨j_,vq⟩:=Mu hq4;have ZO:PF kp kr st nm1 { P with N:=N,size:=r1.2 } ((M',.row (bX nm1 a) 107)::H'):=⟨by rw[jQ (by omega)];exact hpf.pool,fun k z hz=>by obtain⟨u,hu⟩:=hpf.node k z hz;exact⟨u,by rw[jQ (mO _ _ hu).1];exact hu⟩⟩
    haveI:=ZO.gp
    obtain⟨u5,hu5⟩:=ZO.gn hz
    haveI:=hu5
    refine goN ?_;apply aR;refine goN ?_;refine aW yW ?_;refine goN ?_;refine dE [] ?_;refine cU ?_;refine RD.call rfl (g9 rfl wB rfl).2 (z2q ZO n hr) rfl rfl ?_;refine cU ?_;refine dV rfl (WA (v:=pt nm1 q4) j_ (by rw[vq];rfl)) w8 ?_;refine cU ?_;refine bN ⟨by kernel_rfl,trivial,?_⟩;have hyM2:nm1 q2<M':=by omega
    haveI:Nq M' (nm1 q2):=⟨by rw[beq_eq];simp;omega⟩
    haveI:Nq (M'+1) (nm1 q2):=⟨by rw[beq_eq];simp;omega⟩
    haveI:Nq (M'+1) M':=⟨by rw[beq_eq];simp⟩
    haveI:eK H' (nm1 q2) (.row [.i6 y.kind,.vl M s 0 d1.length,po nm1 y.fw,.i6 y.fwA,.i6 y.mt,.i6 y.mtA,.iM (bX nm1) y.more,.i6 y.moA,po nm1 y.cp,.i6 y.cpA,.bool y.ch,.i6 y.chA] 103):=⟨xJ⟩
    refine goN ?_;refine dE [(0,9),(0,10),(1,9),(2,9),(3,9),(4,9)] ?_;refine cU ?_;refine fO ?_;have tS:gt ((M'+1,.row [.i6 a.f,pt nm1 q4] 107)::(M',.row (bX nm1 a) 107)::H') M=some (.vec (d1.map (bX nm1)).flatten 107 2 s):=by rw[aQ,if_neg (by omega),aQ,if_neg (by omega)];exact hv
    refine RD.act rfl (rN rfl rfl rfl rfl (C0 (bX nm1) [⟨a.f,q4⟩] BO.h BO.h AK.h rfl (fun _=>rfl) tS (E8 (bX nm1) [⟨a.f,q4⟩] (q:=[.i6 a.f,pt nm1 q4]) (by simp[rowOf,aQ]) rfl rfl rfl) ⟨by simp;omega,by simp;omega⟩)) rfl rfl ?_
    let v06:B:=.vec (List.map (bX nm1) (d1++[⟨a.f,q4⟩])).flatten 107 2 (s+1)
    let T:Z (Nat×B):=(M'+1,.row [.i6 a.f,pt nm1 q4] 107)::(M',.row (bX nm1 a) 107)::H'
    haveI:eK (ug T M v06) (nm1 q2) (.row [.i6 y.kind,.vl M s 0 d1.length,po nm1 y.fw,.i6 y.fwA,.i6 y.mt,.i6 y.mtA,.iM (bX nm1) y.more,.i6 y.moA,po nm1 y.cp,.i6 y.cpA,.bool y.ch,.i6 y.chA] 103):=⟨by rw[c7,if_neg (by omega)];simp only[T];rw[aQ,if_neg (by omega),aQ,if_neg (by omega)];exact xJ⟩
    refine cU ?_;refine wO ?_;refine bN ⟨by kernel_rfl,⟨opm,opm,opm,opm,opm,opm,trivial⟩,?_⟩;refine goN ?_;refine⟨(bW P.gen x).length-(j+1),_,_,by omega,⟨j+1,d1++[⟨a.f,q4⟩],s+1,_,M'+2,rfl,gZ,EE,rfl,rfl,by omega,?_,?_,fun k hk nL=>?_⟩,by have:=hm.le;show nx<=M'+2;omega,Gh.sub ?_⟩;rw[c7,if_neg (by omega),c7,if_pos rfl];show Option.map _ (gt ((M'+1,_)::(M',_)::H') M)=_;rw[tS];rfl;rw[c7,if_pos rfl,c7,if_neg (by omega)];show Option.map _ (gt ((M'+1,_)::(M',_)::H') (nm1 q2))=_;rw[aQ,if_neg (by omega),aQ,if_neg (by omega),xJ];rfl;rw[c7,if_neg (Ne.symm nL),c7,if_neg (by omega)];show gt ((M'+1,_)::(M',_)::H') k=_;rw[aQ,if_neg (by omega),aQ,if_neg (by omega)];exact fP k hk nL
    ·rw[<-yQ];(repeat refine⟨rfl,?_⟩);exact trivial
   ·refine goN ?_;have gZ:j=(bW P.gen x).length:=by
     have:¬ (j:Int)<(bW P.gen x).length:=by simpa using h9
     omega
    subst gZ;rw[List.drop_length]at EE;obtain rfl:=sI EE;exact⟨_,_,⟨s,H',M',rfl,rfl,Us,hv,xJ,fP⟩,by have:=hm.le;show nx<=M';omega,Gh.sub (by((repeat refine⟨rfl,?_⟩);exact trivial))⟩
  ·refine goN ?_;have eQ:t=l.length:=by
    have:¬ (t:Int)<l.length:=by simpa using h7
    omega
   subst eQ;rw[List.drop_length]at cO;obtain⟨hc,cO⟩:=cQ cO;obtain rfl:=sI cO;subst hc;exact⟨_,_,⟨H,M,rfl,rfl,hm⟩,hm.le,Gh.sub (by((repeat refine⟨rfl,?_⟩);exact trivial))⟩
 rintro _ _ _ ⟨t,nm1,N,s,H,M,rfl,ht,cO,rfl,rfl,hm⟩;refine goN ?_;refine dS rfl (fun h7=>?_) (fun h7=>?_)
 ·have eQ:t<l.length:=by simpa using h7
  obtain⟨q,hq⟩:∃a,l[t]? = some a:=⟨_,List.getElem?_eq_getElem eQ⟩;have lH:aC l (t:Int)=some q:=by rw[aC,if_pos ⟨by omega,by omega⟩];simpa using hq
  have xQ:l.drop t=q::l.drop (t+1):=by rw[List.drop_eq_getElem_cons eQ];rw[List.getElem?_eq_getElem eQ]at hq;cases hq;rfl
  have kN:IntKind.i64.wrap ((t:Int)+1)=((t+1:Nat):Int):=by rw[oA (by omega) (by omega)];rfl
  rw[xQ]at cO;obtain⟨x,hx,cO⟩:=aL cO;have xK:=hl q (zX hq);have rR:dL nm q=dL nm1 q:=by simp only[dL,pt,hm.nmE q xK]
  have KP:=hm.ph.node q x hx xK
  haveI:eK H (nm1 q) (.row [.i6 x.kind,.iM (bX nm1) x.arcs,po nm1 x.fw,.i6 x.fwA,.i6 x.mt,.i6 x.mtA,.iM (bX nm1) x.more,.i6 x.moA,po nm1 x.cp,.i6 x.cpA,.bool x.ch,.i6 x.chA] 103):=⟨KP⟩
  have yn:nm1 q≠kp:=hm.ph.kpn (zG.1 hx).1
  haveI:Nq (nm1 q) kp:=⟨by rw[beq_eq];simpa using yn⟩
  haveI:Nq kp (nm1 q):=⟨by rw[beq_eq];simpa using yn.symm⟩
  haveI:=hm.ph.pf.gp
  refine goN ?_;apply aR;refine goN ?_;refine aW lH ?_;rw[rR];refine goN ?_;refine dE [] ?_;refine cU ?_;refine dV rfl (fun s=>Az s x.ch x.chA P.gen) OE ?_;refine cU ?_;refine bN ⟨by kernel_rfl,trivial,?_⟩;refine goN ?_;refine dS rfl (fun h8=>?_) (fun h8=>?_)
  ·rw[show xF P.gen x=true from h8]at cO;refine WPU.wf fun fJ lf=>?_;have fE:jK N.length x:=hm.ph.wf x (zX hx)
   haveI:SuC M (M+1):=⟨rfl⟩
   have rV:kp<M:=(fJ _ _ hm.ph.pool).1;have hqM:nm1 q<M:=(fJ _ _ KP).1
   haveI:Nq M kp:=⟨by rw[beq_eq];simp;omega⟩
   haveI:Nq M (nm1 q):=⟨by rw[beq_eq];simp;omega⟩
   refine goN ?_;refine aK rfl (z2z hm.ph.pf hx) w9 ?_;refine goN ?_
   let s':=IntKind.i64.wrap (s+1)
   let R0:B:=.row [.i6 (gE P.gen x),.nils,.nilp,.i6 0,.i6 0,.i6 0,.nils,.i6 0,.nilp,.i6 0,.bool false,.i6 0] 103
   let R1:B:=.row (qN kr st { P with N:=N,size:=s' }) 83
   let x':PN:={ x with cp:=some N.length,cpA:=P.gen }
   change RU _ _ _ _ _ (Sg.mk ((M,R0)::ug H kp R1) (M+1)) _
   haveI:eK (ug H kp R1) kp (.row [.iM m4 P.H.Types,.iM pA P.H.Feats,.vl kr st 0 P.roots.length,.i6 s',.i6 P.gen] 83):=⟨by rw[c7,if_pos rfl,hm.ph.pool];rfl⟩
   haveI:eK (ug H kp R1) (nm1 q) (.row [.i6 x.kind,.iM (bX nm1) x.arcs,po nm1 x.fw,.i6 x.fwA,.i6 x.mt,.i6 x.mtA,.iM (bX nm1) x.more,.i6 x.moA,po nm1 x.cp,.i6 x.cpA,.bool x.ch,.i6 x.chA] 103):=⟨by rw[c7,if_neg (Ne.symm yn)];exact KP⟩
   refine goN ?_;have EK:oT kp kr st nm P h nx (tG nm1 N.length M) ((N++[gC (gE P.gen x) []]).set q x') s' P.N.length ((M,.row (pP (tG nm1 N.length M) (gC (gE P.gen x) []) .nils) 103)::ug (ug H kp R1) (nm1 q) (.row (nM (tG nm1 N.length M) x') 103)) (M+1):=by
    have vM:(N++[gC (gE P.gen x) []])[q]? = some x:=by rw[List.getElem?_append_left (zG.1 hx).1];exact hx
    have Q_:q<N.length:=(zG.1 hx).1;have q1:=hm.ph.add (H:=(M,.row (pP (tG nm1 N.length M) (gC (gE P.gen x) []) .nils) 103)::H) fJ hm.len (gE P.gen x) (by simp[aQ]) fun k b hb=>by rw[jQ (fJ k b hb).1];exact hb
    have q2:=q1.setP s';have e0:tG nm1 N.length M q=nm1 q:=uI q Q_;have q3:=q2.upd (i:=q) (c':=P.N.length) (y:=x') (H:=(M,.row (pP (tG nm1 N.length M) (gC (gE P.gen x) []) .nils) 103)::ug (ug H kp R1) (nm1 q) (.row (nM (tG nm1 N.length M) x') 103)) vM xK (fun _ _=>Iff.rfl) ⟨fun a ha=>?_,?_,fun a ha=>?_,?_⟩ ?_ ?_;refine⟨q3,fun k hk=>by rw[uI k (Nat.lt_of_lt_of_le hk hm.len)];exact hm.nmE k hk,fun k ha hb=>?_,fun k ha hb hc=>?_,Nat.le_succ_of_le hm.le,by simp;exact Nat.le_succ_of_le hm.len,zF _⟩;rw[List.length_set,zU]at hb;rcases Nat.lt_or_ge k N.length with h9 |h9;rw[uI k h9];exact hm.new k ha h9;have:k=N.length:=by simp at hb;omega
    subst this;rw[WN];exact hm.le;rw[aQ,if_neg (by have:=hm.le;omega),c7,if_neg fun e=>hc q xK (by rw[<-hm.nmE q xK];exact e),c7,if_neg (Ne.symm hb)];exact hm.fr k ha hb hc;show a.to<(N++[gC (gE P.gen x) []]).length;simp;exact Nat.lt_succ_of_lt (fE.arcs a ha);show DF (N++[gC (gE P.gen x) []]).length x.fw;exact fE.fw.le (by simp);show a.to<(N++[gC (gE P.gen x) []]).length;simp;exact Nat.lt_succ_of_lt (fE.more a ha);show N.length<(N++[gC (gE P.gen x) []]).length;simp;rw[e0,aQ,if_neg (by omega),c7,if_pos rfl,c7,if_neg (Ne.symm yn),KP];rfl;intro k b hb hk;rw[e0]at hk;by_cases e1:M=k;subst e1;rw[c7,if_neg (by omega),aQ,if_pos rfl]at hb;rw[aQ,if_pos rfl];exact hb;rw[aQ,if_neg e1,c7,if_neg (Ne.symm hk),c7];rw[c7]at hb;have e3:=aQ M (.row (pP (tG nm1 N.length M) (gC (gE P.gen x) []) .nils) 103) H k;rw[if_neg e1]at e3;rw[e3,aQ,if_neg (by omega:¬ M=kp)]at hb;exact hb
   refine⟨l.length-(t+1),_,_,by omega,⟨t+1,_,_,_,_,M+1,rfl,eQ,cO,rfl,rfl,EK⟩,EK.le,Gh.trans (Gh.sub (l':=[(0,.ptr kp 0 0),(1,pt nm i),(5,.iM (dL nm) l),(27,.iM (dL nm) l),(28,.i6 l.length),(29,.i6 ((t+1:Nat):Int))]) ?_) ?_⟩
   ·rw[<-kN];(repeat refine⟨rfl,?_⟩);exact trivial
   have e2:nM (tG nm1 N.length M) x'=[.i6 x.kind,.iM (bX nm1) x.arcs,po nm1 x.fw,.i6 x.fwA,.i6 x.mt,.i6 x.mtA,.iM (bX nm1) x.more,.i6 x.moA,.ptr M 0 0,.i6 P.gen,.bool x.ch,.i6 x.chA]:=by simp only[nM,U.iM,x'];rw[Nv uI fE.arcs,Nv uI fE.more,Mt uI fE.fw];simp only[po,pt,WN]
   rw[e2];have t?:∀T:Z (Nat×B),gt ((M,R0)::T) M=some R0:=fun T=>by simp[aQ]
   have hug:∀(T:Z (Nat×B))(b:B),ug ((M,R0)::T) M b=(M,b)::T:=fun T b=>by simp[ug,beq_eq]
   refine(Gh.rowW (X:=⟨_,M+1⟩) (K:=M) (t? _) (q':=pP (tG nm1 N.length M) (gC (gE P.gen x) []) .nils) rfl ?_).trans (Gh.eqv rfl ?_);exact .cons (.refl _) (.cons (.refl _) (.cons (.refl _) (.cons (.refl _) (.cons (.refl _) (.cons (.refl _) (.cons (.nil false) (o3.refl _)))))));exact congrArg (fun T=>(⟨T,M+1⟩:Sg)) (hug _ _)
  ·rw[show xF P.gen x=false from h8]at cO;refine goN ?_;have fE:jK N.length x:=hm.ph.wf x (zX hx);have EK:oT kp kr st nm P h nx nm1 (N.set q { x with cp:=some q,cpA:=P.gen }) s P.N.length (ug H (nm1 q) (.row (nM nm1 { x with cp:=some q,cpA:=P.gen }) 103)) M:=by refine⟨hm.ph.upd hx xK (fun _ _=>Iff.rfl) ⟨fE.arcs,fE.fw,fE.more,Nat.lt_of_lt_of_le xK hm.len⟩ (by rw[c7,if_pos rfl,KP];rfl) fun k b hb hk=>by rw[c7,if_neg (Ne.symm hk)];exact hb,hm.nmE,fun k a b=>hm.new k a (by simpa using b),fun k a b d=>?_,hm.le,by simpa using hm.len,zF _⟩;rw[c7,if_neg fun e=>d q xK (by rw[<-hm.nmE q xK];exact e)];exact hm.fr k a b d
   refine⟨l.length-(t+1),_,_,by omega,⟨t+1,_,_,_,_,M,rfl,eQ,cO,rfl,rfl,EK⟩,EK.le,Gh.sub ?_⟩;rw[<-kN];(repeat refine⟨rfl,?_⟩);exact trivial
 ·refine goN ?_;have eQ:t=l.length:=by
   have:¬ (t:Int)<l.length:=by simpa using h7
   omega
  subst eQ;rw[List.drop_length]at cO;obtain rfl:=sI cO;exact⟨_,_,⟨nm1,H,M,rfl,rfl,hm⟩,hm.le,Gh.sub (by((repeat refine⟨rfl,?_⟩);exact trivial))⟩
end
end Go.Proofs
namespace Go.Vx
open Go Go.Rx
variable{X:Sg}
def Gh.rnG{n0 N:Nat}{tm tm':Z U}{h':Z (Nat×B)}(f:Nat->Nat)(ZY:∀k,k<n0->f k=k)(h0:n0<=N)(key:∀k b,gt h' k=some b->k<N/\BelB N b/\gt X.h (f k)=some (rB f b))(inj:∀k k' b b',gt h' k=some b->gt h' k'=some b'->f k=f k'->k=k')(hl:eM f tm'=tm)(hb:aF N tm'):Gh n0 tm X tm' ⟨h',N⟩:=fun F x tv hx hr hf he=>by
 subst hx
 let y:Cx:=⟨fun k=>x.Y (f k),⟨h',N⟩,x.s⟩
 have hU:Q1 N f x y:=⟨fun k st off v hk h=>by
   simp only[aB,Ref]at h ⊢;refine⟨h.1,hk,fun b hb=>?_⟩;have:=h.2.2 _ (key k b hb).2.2
   rwa [PR]at this,fun k off m c v hk h=>by
   simp only[aB,Ref]at h ⊢;refine⟨h.1,hk,fun b hb=>?_⟩;have:=h.2.2 _ (key k b hb).2.2
   rwa [PR]at this,fun k st off m v hk h=>by
   simp only[aB]at h ⊢;refine⟨h.1,hk,fun b hb=>?_⟩;have h3:=h.2.2 _ (key k b hb).2.2;rw[PR]at h3;refine⟨h3.1,fun e=>?_⟩;obtain⟨l,e',sz,h4,h5⟩:=h3.2 e;cases b with
   |vec l' e2 s2 st2=>simp only[rB,B.vec.injEq]at h4;exact⟨l',e2,s2,by rw[h4.2.2.2],by rw[h4.2.2.1];exact h5⟩|row=>simp[rB]at h4|map=>simp[rB]at h4,fun k v hk h=>by
   simp only[aB,Ref]at h ⊢;refine⟨h.1,hk,fun b hb=>?_⟩;have:=h.2.2 _ (key k b hb).2.2
   rwa [PR]at this,fun _ _ _ h=>h⟩
 have HM:∀u,aP n0 u->rU f u=u:=fun u O6=>by
  have:=Yy (V:=id) (κ:=f) (n:=n0) (fun k hk=>ZY k hk) u O6
  rwa [Kn]at this
 refine⟨y,fun m w hf=>bQ.refl hf,rfl,⟨fun k b hb=>?_,fun k k' b b' i hb bV h1 h2=>?_,hr.bd⟩,fun i b J=>?_,?_,fun u v O6 hv=>?_⟩;obtain⟨Ia,hbb,hg⟩:=key k b hb;obtain⟨g1,g2⟩:=hr.ok _ _ hg;exact⟨Ia,mQ.unleaf hU hbb rfl (fun _ _ _ h=>h) g2⟩;exact inj k k' b b' hb bV (hr.inj _ _ _ _ i (key k b hb).2.2 (key k' b' bV).2.2 h1 h2);obtain⟨h1,h2⟩:=hf i b J;exact⟨h1,fun k c hc=>h2 _ _ (key k c hc).2.2⟩;exact aX.unleaf hU hb (by rw[hl];exact he);exact aB.unleaf hU u v (aP.le h0 u O6) (by rw[HM u O6];exact hv)
variable{R:U->Sg->Prop}
def aV.gh{P:Uz}{f:FuncId}{args:Z U}{R':U->Sg->Prop}(h:aV P f args X R)(hr:∀u X',R u X'->nN X'->X.nx<=X'.nx->∃u' aS,Gh X.nx [u] X' [u'] aS/\X.nx<=aS.nx/\R' u' aS):aV P f args X R':=fun F x vs m w cargs hx hh fP he eG cJ=>
 (h F x vs m w cargs hx hh fP he eG cJ).mono fun e w₁ ⟨y,aI,u,v,cv,h1,h2,h3,h4,h5,h6,h7,h8,h9⟩=>by obtain⟨u',aS,g1,g2,g3⟩:=hr _ _ h2 h5.wf (by rw[<-hx];exact h9);obtain⟨z,k1,k2,k3,k4,k5,k6⟩:=g1 F y [v] rfl h5 h6 ⟨⟨h7,trivial⟩,rfl⟩;have aO:=k1 aI w₁ h3.fits;obtain⟨v2,vs2,e1,r1,r2⟩:=k5.inv;cases e1;refine⟨z,aI,u',v,cv,h1,by rw[k2];exact g3,h3.trans aO,?_,k3,k4,r1,?_,by rw[k2,hx];exact g2⟩;exact h4.ext (aJ.refl _ _) aO.nx;rw[hx]at h8 ⊢;exact h8.trans k6
variable{n:Nat}
variable{f:Nat->Nat}
def z62(h:∀k,k<n->f k=k)(u:U)(hb:aP n u):rU f u=u:=by
 have:=Yy (V:=id) (κ:=f) (n:=n) h u hb
 rwa [Kn]at this
def ti(h:∀k,k<n->f k=k)(l:Z U)(hb:aF n l):eM f l=l:=by
 have:=Q9 (V:=id) (κ:=f) (n:=n) h l hb
 rwa [L1]at this
def qzs(h:∀k,k<n->f k=k)(l:Z (Z U))(hb:jO n l):sG f l=l:=by
 have:=da (V:=id) (κ:=f) (n:=n) h l hb
 rwa [VX]at this
def z61(h:∀k,k<n->f k=k)(b:B)(hb:BelB n b):rB f b=b:=by
 cases b with
 |row l e=>simp only[rB];rw[ti h l hb]|vec l e s st=>simp only[rB];rw[ti h l hb]
 |map es cl=>simp only[rB,B.map.injEq,and_true];refine(List.map_congr_left (g:=id) fun e he=>?_).trans (by simp);have h1:=hb e he;simp only[rM,id];rw[z62 h _ h1.1,z62 h _ h1.2]
section
variable{T:Tb}{n:Nat}{l:Z (Nat×U)}{rs:Z ResultVar}
def Xn{a:Tmp}{t:Z ResultVar}{nF X2:Sg}{u w:U}(ht:rs=.tmp a::t)(h:bO n l (.tmp a)=some u)(h0:t=[])(hN:nF.nx<=X2.nx)(hg:Gh nF.nx [u] X [w] X2)(hR:R w X2):
  (Exit.ret=.normal\/Exit.ret=.ret)/\∃l',jY T X (fr n l) rs=some l'/\∃u' aS,nF.nx<=aS.nx/\Gh nF.nx [lN l'] X [u'] aS/\R u' aS:=by subst ht;subst h0;exact⟨.inr rfl,_,fH h fW,w,X2,hN,hg,hR⟩
def R7{a b:Tmp}{t:Z ResultVar}{nF X2:Sg}{u v w:U}(ht:rs=.tmp a :: .tmp b::t)(h:bO n l (.tmp a)=some u)(h':bO n l (.tmp b)=some v)(h0:t=[])(hN:nF.nx<=X2.nx)(hg:Gh nF.nx [.tup [u,v]] X [w] X2)(hR:R w X2):
  (Exit.ret=.normal\/Exit.ret=.ret)/\∃l',jY T X (fr n l) rs=some l'/\∃u' aS,nF.nx<=aS.nx/\Gh nF.nx [lN l'] X [u'] aS/\R u' aS:=by subst ht;subst h0;exact⟨.inr rfl,_,fH h (fH h' fW),w,X2,hN,hg,hR⟩
end
def eT.wf{C:PG}{X:Sg}{tm:Z U}{o:Oper}{R:U->Sg->Prop}(h:nN X->aF X.nx tm->eT C X tm o R):eT C X tm o R:=fun F x tv m w a next Q eW st hG hn ro eR=>h (eW ▸ st.h.wf) (eW ▸ st.e.bel) F x tv m w a next Q eW st hG hn ro eR
def eT.bsf{C:PG}{T:Tb}(hT:iK C.prog T){h:Z (Nat×B)}{nx:Nat}{l:Z (Nat×U)}{o:Oper}{t e:O}{k sz b:Nat}{z:A}{zu cs:Z U}{rs:Z (Z U)}{ps:Bo (Nat×Jp)}{qs:Z (Nat×U)}{d:Tmp}(ho:o.op=.buildSlice t k ps)(hd:T.und t=some (.slice e))(hi:T.inf e=some (sz,b,z))(hx:AB n l ps.toList=some qs)(h1:Nat.ble (k*sz) 16777216=true)(h2:Nat.ble k 16777216=true)(h3:Nat.beq z.cells.toList.length sz=true)(hz:nH z.cells.toList=some zu)(hf:pT (fun i=>some (i*sz,sz)) (qV zu k) qs=some cs)(hk:okL cs=true)(hl:cs.length=k*sz)(hr:bR sz k cs=rs)(he:o.dst=some d)(hdn:Nat.blt d n=true)(hb:aF 0 cs):
  eT C ⟨h,nx⟩ (fr n l) o (fun u X'=>u=.isl false rs/\X'=⟨h,nx+1⟩):=eT.wf fun hw _=>by
 subst hr;refine eT.fz hT (s1:=⟨(nx,.row cs e)::h,nx+1⟩) (u1:=.sl nx 0 k k) (by rw[ho];exact FW hd hi hx h1 h2 h3 hz hf hk) ?_ (zF _) he hdn;have oQ:∀k,gt (fzH nx (.row cs e) sz ((nx,.row cs e)::h)) k=gt h k:=fun k=>by rw[FX];by_cases e1:k=nx;rw[if_pos e1];subst e1;rcases hq:gt h k with _|b;rfl;have:k<k:=(hw k b hq).1;omega;rw[if_neg e1,aQ,if_neg (Ne.symm e1)];rcases hq:gt h k with _|b;rfl;simp only[zM];rw[Ez _ _ (hw k b hq).2]
 have e2:iX nx (.row cs e) sz [.sl nx 0 k k]=[.isl false (bR sz k cs)]:=by
  have h5:Nat.beq nx nx=true:=by simp
  have h6:0+k*sz<=cs.length:=by omega
  simp only[iX,Vx.fz,h5,zC,h6,if_true,List.drop_zero]
 exact(Gh.fz (X:=⟨(nx,.row cs e)::h,nx+1⟩) nx (.row cs e) sz (by simp[aQ]) nofun e2 rfl).trans (Gh.same (X:=⟨_,nx+1⟩) h fun k=>(oQ k).symm)
end Go.Vx
namespace Go.Proofs
open Go Go.Rx Go.Vx Tryz
set_option maxRecDepth 20000
set_option maxHeartbeats 4000000
set_option synthInstance.maxSize 4000
set_option synthInstance.maxHeartbeats 200000
def EC(nm:Nat->Nat):Z PN->Nat->Z (Nat×B)
 |[],_=>[]|x::N,i=>(nm i,.row (nM nm x) 103)::EC nm N (i+1)
def cH(kp kr st:Nat)(nm:Nat->Nat)(P:PP)(h:Z (Nat×B)):Z (Nat×B):=(kp,.row (qN kr st P) 83)::(kr,.bv (dL nm) P.roots 92 1 st)::(EC nm P.N 0++h)
def iT(nm:Nat->Nat)(n nx:Nat):Nat->Nat:=fun i=>if i<n then nm i else nx+(i-n)
variable{n:Nat}
def wY{nm:Nat->Nat}{nx:Nat}:∀k,k<n->iT nm n nx k=nm k:=fun k hk=>by rw[iT,if_pos hk]
def z5a{nm:Nat->Nat}{h:Z (Nat×B)}:∀{N:Z PN}{s k:Nat}{b:B},gt (EC nm N s++h) k=some b->(∃i x,N[i]? = some x/\nm (s+i)=k/\b=.row (nM nm x) 103)\/((∀i,i<N.length->nm (s+i)≠k)/\gt h k=some b)
 |[],s,k,b,hg=>.inr ⟨fun i hi=>by simp at hi,hg⟩|x::N,s,k,b,hg=>by
  simp only[EC,List.cons_append]at hg;rw[aQ]at hg;by_cases e:nm s=k;rw[if_pos e]at hg;cases hg;exact .inl ⟨0,x,rfl,e,rfl⟩;rw[if_neg e]at hg;rcases z5a hg with⟨i,y,h1,h2,h3⟩|⟨h1,h2⟩;exact .inl ⟨i+1,y,h1,by rw[<-h2];congr 1;omega,h3⟩;refine .inr ⟨fun i hi=>?_,h2⟩;cases i with
  |zero=>exact e|succ i=>have:=h1 i (by simpa using hi);rwa [show s+1+i=s+(i+1) by omega]at this
def qpl{nm:Nat->Nat}{h:Z (Nat×B)}:∀{N:Z PN}{s i:Nat}{x:PN},(∀i j,i<N.length->j<N.length->nm (s+i)=nm (s+j)->i=j)->N[i]? = some x->gt (EC nm N s++h) (nm (s+i))=some (.row (nM nm x) 103)
 |[],s,i,x,_,hx=>by simp at hx
 |y::N,s,0,x,hi,hx=>by simp at hx;subst hx;simp only[EC,List.cons_append,Nat.add_zero];rw[aQ,if_pos rfl]
 |y::N,s,i+1,x,hi,hx=>by
  have hx:N[i]? = some x:=by simpa using hx
  have lV:i<N.length:=(zG.1 hx).1;have h1:=qpl (h:=h) (s:=s+1) (fun a b ha hb e=>by have:=hi (a+1) (b+1) (by simpa using ha) (by simpa using hb) (by rw[show s+(a+1)=s+1+a by omega,show s+(b+1)=s+1+b by omega];exact e);omega) hx;simp only[EC,List.cons_append];rw[aQ,if_neg fun e=>?_,show s+(i+1)=s+1+i by omega];exact h1;have:=hi 0 (i+1) (by simp) (by simpa using lV) e;omega
def qpm{nm:Nat->Nat}{h:Z (Nat×B)}{k:Nat}:∀{N:Z PN}{s:Nat},(∀i,i<N.length->nm (s+i)≠k)->gt (EC nm N s++h) k=gt h k
 |[],s,_=>rfl|x::N,s,hn=>by
  simp only[EC,List.cons_append];rw[aQ,if_neg (show ¬ nm s=k from hn 0 (by simp)),qpm fun i hi=>?_];have:=hn (i+1) (by simpa using hi)
  rwa [show s+(i+1)=s+1+i by omega]at this
section
variable{kp kr st:Nat}{nm:Nat->Nat}{P:PP}{h:Z (Nat×B)}{nx:Nat}
def uo(rV:kp≠kr)(hp:∀i,i<P.N.length->nm i≠kp)(hr:∀i,i<P.N.length->nm i≠kr)(inj:∀i j,i<P.N.length->j<P.N.length->nm i=nm j->i=j)(wf:∀x∈P.N,jK P.N.length x)(rt:∀r∈P.roots,r<P.N.length):PH kp kr st nm P (cH kp kr st nm P h):=by refine⟨by rw[cH,aQ,if_pos rfl],by rw[cH,aQ,if_neg rV,aQ,if_pos rfl],fun i x hx=>?_,inj,wf,rt⟩;have hi:=(zG.1 hx).1;rw[cH,aQ,if_neg (Ne.symm (hp i hi)),aQ,if_neg (Ne.symm (hr i hi))];have:=qpl (h:=h) (s:=0) (N:=P.N) (nm:=nm) (fun a b ha hb e=>inj a b ha hb (by simpa using e)) hx;simpa using this
def Xs{k:Nat}(h1:k≠kp)(h2:k≠kr)(h3:∀i,i<P.N.length->nm i≠k):gt (cH kp kr st nm P h) k=gt h k:=by rw[cH,aQ,if_neg (Ne.symm h1),aQ,if_neg (Ne.symm h2)];exact qpm (s:=0) fun i hi=>by simpa using h3 i hi
def db(f:Nat->Nat)(nm nm':Nat->Nat):∀(l:Z dR),(∀a∈l,f (nm' a.to)=nm a.to)->sG f (l.map (bX nm'))=l.map (bX nm)
 |[],_=>rfl|a::l,hf=>by simp only[zQ,sG,db f nm nm' l fun b hb=>hf b (by simp[hb]),bX,pt,eM,rU,hf a (by simp)]
def PJ(f:Nat->Nat)(nm nm':Nat->Nat)(hf:∀i,i<n->f (nm' i)=nm i):∀{o:I Nat},DF n o->rU f (po nm' o)=po nm o
 |none,_=>rfl|some i,hi=>by simp only[po,pt,rU,hf i hi]
def z8b(f:Nat->Nat)(nm nm':Nat->Nat)(hf:∀i,i<n->f (nm' i)=nm i){x:PN}(w:jK n x):eM f (nM nm' x)=nM nm x:=by simp only[nM,eM,rU,U.iM,db f nm nm' _ fun a ha=>hf _ (w.arcs a ha),db f nm nm' _ fun a ha=>hf _ (w.more a ha),PJ f nm nm' hf w.fw,PJ f nm nm' hf w.cp]
def qzp(f:Nat->Nat):∀a b:Z U,eM f (a++b)=eM f a++eM f b
 |[],b=>rfl|u::a,b=>by simp only[List.cons_append,eM,qzp f a b]
def qzr(f:Nat->Nat)(nm nm':Nat->Nat):∀(l:Z Nat),(∀a∈l,f (nm' a)=nm a)->eM f (l.map (dL nm')).flatten=(l.map (dL nm)).flatten
 |[],_=>rfl|a::l,hf=>by simp only[zQ,List.flatten_cons,qzp,qzr f nm nm' l fun b hb=>hf b (by simp[hb]),dL,pt,eM,rU,hf a (by simp)]
variable{M:Nat}
def z1o{nm:Nat->Nat}(hn:∀k,k<n->nm k<M){x:PN}(w:jK n x):aF M (nM nm x):=by simp only[nM,aF,aP,and_true,true_and];exact⟨Fq _ fun a ha=>hn _ (w.arcs a ha),Eo hn w.fw,Fq _ fun a ha=>hn _ (w.more a ha),Eo hn w.cp⟩
variable{bG:Nat}
def canon{nm1:Nat->Nat}{P1:PP}{H:Z (Nat×B)}{tm tm':Z U}(p:PH kp kr st nm P h)(hw:nN ⟨h,nx⟩)(p1:PH kp kr bG nm1 P1 H)(aN:P.N.length<=P1.N.length)(nmE:∀k,k<P.N.length->nm1 k=nm k)(new:∀k,P.N.length<=k->k<P1.N.length->nx<=nm1 k)(fr:∀k,k<nx->k≠kp->k≠kr->(∀i,i<P.N.length->nm i≠k)->gt H k=gt h k)
  (ht:eM (fun k=>if k<nx then k else nm1 (P.N.length+(k-nx))) tm'=tm) (hb:aF (nx+(P1.N.length-P.N.length)) tm'):
  Gh nx tm ⟨H,M⟩ tm' ⟨cH kp kr bG (iT nm P.N.length nx) P1 h,nx+(P1.N.length-P.N.length)⟩:=by
 let f:Nat->Nat:=fun k=>if k<nx then k else nm1 (P.N.length+(k-nx))
 have rV:kp<nx:=(hw _ _ p.pool).1;have AX:kr<nx:=(hw _ _ p.roots).1;have AS:∀i,i<P.N.length->nm i<nx:=fun i hi=>p.lt hw hi;have hf:∀i,i<P1.N.length->f (iT nm P.N.length nx i)=nm1 i:=fun i hi=>by
  show(if _ then _ else _)=_;rcases Nat.lt_or_ge i P.N.length with h1 |h1;rw[wY i h1,if_pos (AS i h1),nmE i h1];have e0:iT nm P.N.length nx i=nx+(i-P.N.length):=by rw[iT,if_neg (by omega)]
  rw[e0,if_neg (by omega)];congr 1;omega
 have hN:∀i,i<P1.N.length->iT nm P.N.length nx i<nx+(P1.N.length-P.N.length):=fun i hi=>by rcases Nat.lt_or_ge i P.N.length with h1 |h1;rw[wY i h1];have:=AS i h1;omega;rw[iT,if_neg (by omega)];omega
 have Ak:∀k,k<nx->f k=k:=fun k hk=>by show(if _ then _ else _)=_;rw[if_pos hk]
 have fQ:∀k b,gt (cH kp kr bG (iT nm P.N.length nx) P1 h) k=some b->(k=kp/\b=.row (qN kr bG P1) 83)\/(k=kr/\b=.bv (dL (iT nm P.N.length nx)) P1.roots 92 1 bG)\/(∃i x,P1.N[i]? = some x/\iT nm P.N.length nx i=k/\b=.row (nM (iT nm P.N.length nx) x) 103)\/(k≠kp/\k≠kr/\(∀i,i<P.N.length->nm i≠k)/\gt h k=some b):=fun k b hg=>by rw[cH,aQ]at hg;by_cases e1:kp=k;rw[if_pos e1]at hg;cases hg;exact .inl ⟨e1.symm,rfl⟩;rw[if_neg e1,aQ]at hg;by_cases e2:kr=k;rw[if_pos e2]at hg;cases hg;exact .inr (.inl ⟨e2.symm,rfl⟩);rw[if_neg e2]at hg;rcases z5a hg with⟨i,x,h1,h2,h3⟩|⟨h1,h2⟩;exact .inr (.inr (.inl ⟨i,x,h1,by simpa using h2,h3⟩));refine .inr (.inr (.inr ⟨Ne.symm e1,Ne.symm e2,fun i hi=>?_,h2⟩));have:=h1 i (by omega);rw[Nat.zero_add,wY i hi]at this;exact this
 refine Gh.rnG f (fun k hk=>by show(if _ then _ else _)=_;rw[if_pos hk]) (Nat.le_add_right _ _) (fun k b hg=>?_) (fun k k' b b' hg rC e=>?_) ht hb;rcases fQ k b hg with⟨rfl,rfl⟩|⟨rfl,rfl⟩|⟨i,x,hx,rfl,rfl⟩|⟨h1,h2,h3,h4⟩;refine⟨by omega,?_,?_⟩;simp only[BelB,qN,aF,aP,and_true,true_and];exact⟨uJ _ (fun q=>Of _ q) _,uJ _ (fun q=>xd _ q) _,by omega⟩;have e:f k=k:=by show(if _ then _ else _)=_;rw[if_pos rV]
 have e2:f kr=kr:=by show(if _ then _ else _)=_;rw[if_pos AX]
 rw[e,p1.pool];simp only[rB,qN,eM,rU,U.iM,e2];rw[qzs Ak _ (uJ _ (fun q=>Of nx q) _),qzs Ak _ (uJ _ (fun q=>xd nx q) _)];refine⟨by omega,?_,?_⟩;show aF _ (P1.roots.map _).flatten;rw[AI];intro u hu;obtain⟨c,hc,hu⟩:=List.mem_flatten.1 hu;obtain⟨r,hr,rfl⟩:=List.mem_map.1 hc;simp only[dL,List.mem_singleton]at hu;subst hu;exact hN r (p1.rt r hr);have e2:f k=k:=by show(if _ then _ else _)=_;rw[if_pos AX]
 rw[e2,p1.roots];simp only[rB,B.bv];rw[qzr f nm1 _ P1.roots fun a ha=>hf a (p1.rt a ha)];have hi:=(zG.1 hx).1;have fE:=p1.wf x (zX hx);refine⟨hN i hi,z1o hN fE,?_⟩;rw[hf i hi,p1.node i x hx];simp only[rB];rw[z8b f nm1 _ hf fE];obtain⟨h5,h6⟩:=hw k b h4;refine⟨by show k<_;have:k<nx:=h5;omega,Fc (Nat.le_add_right _ _) h6,?_⟩;have e:f k=k:=by show(if _ then _ else _)=_;rw[if_pos h5]
 rw[e];show gt H k=_;rw[fr k h5 h1 h2 h3,h4,z61 Ak b h6];have key:∀k b,gt (cH kp kr bG (iT nm P.N.length nx) P1 h) k=some b->(k<nx/\f k=k)\/∃i,i<P1.N.length/\P.N.length<=i/\iT nm P.N.length nx i=k:=fun k b hg=>by rcases fQ k b hg with⟨rfl,rfl⟩|⟨rfl,rfl⟩|⟨i,x,hx,rfl,rfl⟩|⟨h1,h2,h3,h4⟩;exact .inl ⟨rV,by show(if _ then _ else _)=_;rw[if_pos rV]⟩;exact .inl ⟨AX,by show(if _ then _ else _)=_;rw[if_pos AX]⟩;have hi:=(zG.1 hx).1;rcases Nat.lt_or_ge i P.N.length with h7 |h7;rw[wY i h7];exact .inl ⟨AS i h7,by show(if _ then _ else _)=_;rw[if_pos (AS i h7)]⟩;exact .inr ⟨i,hi,h7,rfl⟩;have h5:=(hw k b h4).1;exact .inl ⟨h5,by show(if _ then _ else _)=_;rw[if_pos h5]⟩
 rcases key k b hg with⟨h1,h2⟩|⟨i,h1,h2,rfl⟩<;>rcases key k' b' rC with⟨h3,h4⟩|⟨j,h3,h4,rfl⟩;rw[h2,h4]at e;exact e;rw[h2,hf j h3]at e;have:=new j h4 h3;omega;rw[h4,hf i h1]at e;have:=new i h2 h1;omega;rw[hf i h1,hf j h3]at e;rw[p1.inj i j h1 h3 e]
def qq1{nm':Nat->Nat}{n:Nat}(hn:∀k,k<n->nm' k=nm k):∀{N:Z PN}{s:Nat},s+N.length<=n->(∀x∈N,jK n x)->EC nm' N s=EC nm N s
 |[],_,_,_=>rfl|x::N,s,hs,hw=>by simp only[EC];rw[hn s (by simp at hs;omega),qow hn (hw x (by simp)),qq1 hn (by simp at hs;omega) fun y hy=>hw y (by simp[hy])]
def qta{nm':Nat->Nat}{P1:PP}(hn:∀k,k<P1.N.length->nm' k=nm k)(hw:∀x∈P1.N,jK P1.N.length x)(hr:∀r∈P1.roots,r<P1.N.length):cH kp kr bG nm' P1 h=cH kp kr bG nm P1 h:=by simp only[cH,B.bv];rw[qq1 hn (by omega) hw,qox hn hr]
def cn{P1:PP}{H:Z (Nat×B)}{tm:Z U}(p:PH kp kr st nm P h)(hw:nN ⟨h,nx⟩)(p1:PH kp kr bG nm P1 H)(aN:P1.N.length=P.N.length)(fr:∀k,k<nx->k≠kp->k≠kr->(∀i,i<P.N.length->nm i≠k)->gt H k=gt h k)(hb:aF nx tm):
  Gh nx tm ⟨H,M⟩ tm ⟨cH kp kr bG nm P1 h,nx⟩:=by have h1:=canon (M:=M) (tm:=tm) (tm':=tm) p hw p1 (Nat.le_of_eq aN.symm) (fun _ _=>rfl) (fun k a b=>by omega) fr (ti (n:=nx) (fun k hk=>by rw[if_pos hk]) tm hb) (by rw[aN,Nat.sub_self];exact hb);rw[aN,Nat.sub_self,Nat.add_zero,qta (nm:=nm) (fun k hk=>wY k (by omega)) p1.wf p1.rt]at h1;exact h1
def z1z{P1:PP}(p:PH kp kr st nm P h)(hw:nN ⟨h,nx⟩)(UM:∀x∈P1.N,jK P1.N.length x)(rt1:∀r∈P1.roots,r<P1.N.length):PH kp kr bG (iT nm P.N.length nx) P1 (cH kp kr bG (iT nm P.N.length nx) P1 h):=by
 have rV:kp<nx:=(hw _ _ p.pool).1;have AX:kr<nx:=(hw _ _ p.roots).1;have AS:∀i,i<P.N.length->nm i<nx:=fun i hi=>p.lt hw hi;have hc:∀i,(i<P.N.length/\iT nm P.N.length nx i=nm i)\/(P.N.length<=i/\iT nm P.N.length nx i=nx+(i-P.N.length)):=fun i=>by rcases Nat.lt_or_ge i P.N.length with h1 |h1;exact .inl ⟨h1,wY i h1⟩;exact .inr ⟨h1,by rw[iT,if_neg (by omega)]⟩
 refine uo (Ne.symm p.krp) (fun i _=>?_) (fun i _=>?_) (fun i j _ _ e=>?_) UM rt1;rcases hc i with⟨h1,h2⟩|⟨h1,h2⟩;rw[h2];exact p.kpn h1;omega;rcases hc i with⟨h1,h2⟩|⟨h1,h2⟩;rw[h2];exact p.krn h1;omega;rcases hc i with⟨h1,h2⟩|⟨h1,h2⟩<;>rcases hc j with⟨h3,h4⟩|⟨h3,h4⟩;rw[h2,h4]at e;exact p.inj i j h1 h3 e;have:=AS i h1;omega;have:=AS j h3;omega;omega
def qoz{P1:PP}(p:PH kp kr st nm P h)(aN:P1.N.length=P.N.length)(UM:∀x∈P1.N,jK P1.N.length x)(rt1:∀r∈P1.roots,r<P1.N.length):PH kp kr bG nm P1 (cH kp kr bG nm P1 h):=
 uo (Ne.symm p.krp) (fun i hi=>p.kpn (by omega)) (fun i hi=>p.krn (by omega)) (fun i j hi hj e=>p.inj i j (by omega) (by omega) e) UM rt1
end
end Go.Proofs
namespace Go.Proofs
open Go Go.Rx Go.Vx Tryz
set_option maxRecDepth 20000
def Wf(N:Z PN):Prop:=∀x∈N,jK N.length x
structure Sm(N N':Z PN):Prop where
 len:N'.length=N.length
 st:∀(i:Nat)(x:PN),N[i]? = some x->∃x':PN,N'[i]? = some x'/\x'.kind=x.kind/\x'.arcs=x.arcs
def Sm.refl(N:Z PN):Sm N N:=⟨rfl,fun i x h=>⟨x,h,rfl,rfl⟩⟩
def Sm.trans{N N' N'':Z PN}(h:Sm N N')(h':Sm N' N''):Sm N N'':=⟨h'.len.trans h.len,fun i x hx=>by
 obtain⟨y,h1,h2,h3⟩:=h.st i x hx;obtain⟨z,h4,h5,h6⟩:=h'.st i y h1;exact⟨z,h4,h5.trans h2,h6.trans h3⟩⟩
def Sm.set{N:Z PN}{i:Nat}{x:PN}(y:PN)(hx:N[i]? = some x)(h1:y.kind=x.kind)(h2:y.arcs=x.arcs):Sm N (N.set i y):=⟨by simp,fun j z hz=>by
 rw[List.getElem?_set];by_cases e:i=j;subst e;rw[hx]at hz;cases hz;exact⟨y,by rw[if_pos rfl,if_pos (zG.1 hx).1],h1,h2⟩;exact⟨z,by rw[if_neg e];exact hz,rfl,rfl⟩⟩
def Wf.set{N:Z PN}(h:Wf N){i:Nat}{y:PN}(hy:jK N.length y):Wf (N.set i y):=fun x hx=>by
 rw[List.length_set];rcases List.mem_or_eq_of_mem_set hx with hx |rfl;exact h x hx;exact hy
variable{N:Z PN}
variable{i:Nat}
def Wf.at(h:Wf N){x:PN}(hx:N[i]? = some x):jK N.length x:=h x (zX hx)
variable{N':Z PN}
def Sm.lt(h:Sm N N'):i<N'.length↔i<N.length:=by rw[h.len]
def nJ{x:PN}(h:N[i]? = some x):i<N.length:=(zG.1 h).1
def gu{g:Int}{p:Nat}{mine:Z dR}:∀{ys:Z dR}{W:Z (Nat×Nat)}{N:Z PN}{s:Z (Nat×Nat)×Z PN},N6 g p mine ys W N=some s->(∀a∈ys,a.to<N.length)->Sm N s.2/\(Wf N->Wf s.2)
 |[],W,N,s,h,_=>by obtain rfl:=sI h;exact⟨Sm.refl _,id⟩
 |y::ys,W,N,s,h,ha=>by
  rw[N6]at h;cases hb:decide (y3 (fun z=>z.f==y.f) mine>=0)with
  |true=>rw[hb]at h;obtain⟨z,_,h⟩:=aL h;obtain⟨_,h⟩:=cQ h;exact gu h fun a h=>ha a (by simp[h])
  |false=>
   rw[hb]at h;obtain⟨x,hx,h⟩:=aL h;obtain⟨_,h⟩:=cQ h;have h1:Sm N (N.set p { x with more:=g8 g x++[y],moA:=g }):=Sm.set _ hx rfl rfl;obtain⟨h2,h3⟩:=gu h fun a h=>by rw[h1.len];exact ha a (by simp[h])
   refine⟨h1.trans h2,fun w=>h3 (w.set ?_)⟩;have hw:=w.at hx;refine⟨hw.arcs,hw.fw,fun a h=>?_,hw.cp⟩;rcases yD.1 h with h |h;exact ec hw a h;simp at h;subst h;exact ha a (by simp)
def Zb{H:eD}{g:Int}{n:Nat}:∀{m:Nat}{W:Z (Nat×Nat)}{N:Z PN}{r:BQ×Z PN},IR H g n m W N=some r->Wf N->Sm N r.2/\Wf r.2
 |0,_,_,_,h,_=>by cases h
 |m+1,[],N,r,h,w=>by obtain rfl:=sI h;exact⟨Sm.refl _,w⟩
 |m+1,a::W,N,r,h,w=>by
  obtain⟨p,hp,h⟩:=aL h;obtain⟨q,hq,h⟩:=aL h;cases hb:Nat.beq p q with
  |true=>rw[hb]at h;exact Zb h w|false=>
   rw[hb]at h;obtain⟨x,hx,h⟩:=aL h;obtain⟨y,hy,h⟩:=aL h;obtain⟨r1,hr1,h⟩:=aL h;cases hc : !r1.2 with
   |true=>rw[hc]at h;obtain rfl:=sI h;exact⟨Sm.refl _,w⟩
   |false=>rw[hc]at h;obtain⟨_,h⟩:=cQ h;obtain⟨s,hs,h⟩:=aL h;obtain⟨x1,ZB,h⟩:=aL h;obtain⟨y1,ZA,h⟩:=aL h;obtain⟨k1,k2⟩:=gu hs (M3 (w.at hy));have w1:=k2 w;have fE:=w1.at ZB;have s2:Sm s.2 (s.2.set p { x1 with mt:=r1.1,mtA:=g }):=Sm.set _ ZB rfl rfl;have w2:Wf (s.2.set p { x1 with mt:=r1.1,mtA:=g }):=w1.set ⟨fE.arcs,fE.fw,fE.more,fE.cp⟩;have CN:=w2.at ZA;have s3:Sm (s.2.set p { x1 with mt:=r1.1,mtA:=g }) ((s.2.set p { x1 with mt:=r1.1,mtA:=g }).set q { y1 with fw:=some p,fwA:=g }):=Sm.set _ ZA rfl rfl;have w3:Wf ((s.2.set p { x1 with mt:=r1.1,mtA:=g }).set q { y1 with fw:=some p,fwA:=g }):=w2.set ⟨CN.arcs,by show p<_;rw[s2.len,k1.len];exact nJ hx,CN.more,CN.cp⟩;obtain⟨k3,k4⟩:=Zb h w3;exact⟨k1.trans (s2.trans (s3.trans k3)),k4⟩
def z5u{g:Int}{n:Nat}:∀{l:Z Nat}{N N':Z PN},XZ g n l N=some N'->Wf N->Sm N N'/\Wf N'
 |[],N,N',h,w=>by obtain rfl:=sI h;exact⟨Sm.refl _,w⟩
 |p::l,N,N',h,w=>by obtain⟨x,hx,h⟩:=aL h;rcases hb:Dp N g n x.arcs with _|_;rw[hb]at h;cases h;rw[hb]at h;obtain⟨_,h⟩:=cQ h;have fE:=w.at hx;obtain⟨k1,k2⟩:=z5u h (w.set ⟨fE.arcs,fE.fw,fE.more,fE.cp⟩);exact⟨(Sm.set _ hx (by rfl) (by rfl)).trans k1,k2⟩
def Zc{g:Int}:∀{l:Z Nat}{ag:BQ}{N:Z PN}{r:BQ×Z PN},IS g l ag N=some r->Wf N->Sm N r.2/\Wf r.2
 |[],ag,N,r,h,w=>by obtain rfl:=sI h;exact⟨Sm.refl _,w⟩
 |p::l,ag,N,r,h,w=>by
  obtain⟨x,hx,h⟩:=aL h;cases hb:xF g x with
  |true=>rw[hb]at h;exact Zc h w|false=>rw[hb]at h;obtain⟨_,h⟩:=cQ h;obtain⟨c,hc,h⟩:=aL h;rcases c with _|_;exact Zc h w;have fE:=w.at hx;obtain⟨k1,k2⟩:=Zc h (w.set ⟨fE.arcs,fE.fw,fE.more,fE.cp⟩);exact⟨(Sm.set _ hx (by rfl) (by rfl)).trans k1,k2⟩
def z5v{g:Int}{l:Z Nat}:∀{m:Nat}{N N':Z PN},XY g l m N=some N'->Wf N->Sm N N'/\Wf N'
 |0,_,_,h,_=>by cases h
 |m+1,N,N',h,w=>by
  obtain⟨r,hr,h⟩:=aL h;obtain⟨k1,k2⟩:=Zc hr w;cases hb:r.1 with
  |true=>rw[hb]at h;obtain⟨k3,k4⟩:=z5v h k2;exact⟨k1.trans k3,k4⟩
  |false=>rw[hb]at h;obtain rfl:=sI h;exact⟨k1,k2⟩
def z3n{g:Int}{n:Nat}{l:Z Nat}(h:Kt g n l N=some N')(w:Wf N):Sm N N'/\Wf N':=by obtain⟨_,h⟩:=cQ h;obtain⟨N1,h1,h⟩:=aL h;obtain⟨k1,k2⟩:=z5u h1 w;obtain⟨k3,k4⟩:=z5v h k2;exact⟨k1.trans k3,k4⟩
structure Ex(n:Nat)(N N':Z PN):Prop where
 len:N.length<=N'.length
 st:∀(i:Nat)(x:PN),i<n->N[i]? = some x->∃x':PN,N'[i]? = some x'/\x'.kind=x.kind/\x'.arcs=x.arcs
def Ex.refl(n:Nat)(N:Z PN):Ex n N N:=⟨zF _,fun i x _ h=>⟨x,h,rfl,rfl⟩⟩
def Ex.trans{n:Nat}{N N' N'':Z PN}(h:Ex n N N')(h':Ex n N' N''):Ex n N N'':=⟨Nat.le_trans h.len h'.len,fun i x hi hx=>by
 obtain⟨y,h1,h2,h3⟩:=h.st i x hi hx;obtain⟨z,h4,h5,h6⟩:=h'.st i y hi h1;exact⟨z,h4,h5.trans h2,h6.trans h3⟩⟩
def Sm.ex(h:Sm N N')(n:Nat):Ex n N N':=⟨by rw[h.len];exact zF _,fun i x _ hx=>h.st i x hx⟩
def Wf.add(w:Wf N)(k:Int):Wf (N++[gC k []]):=fun x hx=>by
 have hl:(N++[gC k []]).length=N.length+1:=by simp
 rw[hl];rcases yD.1 hx with hx |hx;exact(w x hx).le (Nat.le_succ _);simp at hx;subst hx;exact⟨nofun,trivial,nofun,trivial⟩
def gz{g:Int}{n:Nat}:∀{l:Z Nat}{N:Z PN}{s:Int}{r:Z PN×Int},R6 g l N s=some r->Wf N->Ex n N r.1/\Wf r.1
 |[],N,s,r,h,w=>by obtain rfl:=sI h;exact⟨Ex.refl _ _,w⟩
 |p::l,N,s,r,h,w=>by
  obtain⟨x,hx,h⟩:=aL h;have hp:=nJ hx;have fE:=w.at hx;cases hb:xF g x with
  |false=>rw[hb]at h;obtain⟨k1,k2⟩:=gz (n:=n) h (w.set ⟨fE.arcs,fE.fw,fE.more,hp⟩);exact⟨((Sm.set _ hx (by rfl) (by rfl)).ex n).trans k1,k2⟩
  |true=>
   rw[hb]at h;have vM:(N++[gC (gE g x) []])[p]? = some x:=by rw[List.getElem?_append_left hp];exact hx
   have w2:=w.add (gE g x);have ZC:=w2.at vM;obtain⟨k1,k2⟩:=gz (n:=n) h (w2.set ⟨ZC.arcs,ZC.fw,ZC.more,by show N.length<_;simp⟩);refine⟨Ex.trans ⟨by simp,fun i z _ hz=>⟨z,by rw[List.getElem?_append_left (nJ hz)];exact hz,rfl,rfl⟩⟩ (((Sm.set _ vM (by rfl) (by rfl)).ex n).trans k1),k2⟩
def gw{g:Int}{n m:Nat}:∀{l:Z Nat}{N:Z PN}{c:Nat}{N':Z PN},N7 g n l N c=some N'->m<=c->Wf N->Ex m N N'/\Wf N'/\N'.length=N.length
 |[],N,c,N',h,_,w=>by obtain⟨_,h⟩:=cQ h;obtain rfl:=sI h;exact⟨Ex.refl _ _,w,rfl⟩
 |p::l,N,c,N',h,hc,w=>by
  obtain⟨x,hx,h⟩:=aL h;obtain⟨q,hq,h⟩:=aL h;cases hb:Nat.beq q p with
  |true=>rw[hb]at h;exact gw h hc w|false=>rw[hb]at h;obtain⟨y,hy,h⟩:=aL h;obtain⟨⟨rfl,_,_⟩,h⟩:=cQ h;obtain⟨d,hd,h⟩:=aL h;obtain⟨d',bB,h⟩:=aL h;have CN:=w.at hy;obtain⟨k1,k2,k3⟩:=gw (m:=m) h (Nat.le_succ_of_le hc) (w.set ⟨fun a ha=>B' w hd nofun a ((qug bB a).1 ha),CN.fw,CN.more,CN.cp⟩);refine⟨Ex.trans ⟨by simp,fun i z hi hz=>⟨z,?_,rfl,rfl⟩⟩ k1,k2,by rw[k3];simp⟩;rw[List.getElem?_set,if_neg (by omega)];exact hz
def quf{g:Int}{n:Nat}{s:Int}{r:Nat×Z PN×Int}(h:Do g n N s i=some r)(w:Wf N):Ex N.length N r.2.1/\Wf r.2.1/\r.1<r.2.1.length:=by obtain⟨l,_,h⟩:=aL h;obtain⟨N1,h1,h⟩:=aL h;obtain⟨r1,h2,h⟩:=aL h;obtain⟨N3,h3,h⟩:=aL h;obtain⟨x,h4,h⟩:=aL h;obtain⟨q,h5,h⟩:=aL h;obtain rfl:=sI h;obtain⟨a1,a2⟩:=z3n h1 w;obtain⟨b1,b2⟩:=gz (n:=N.length) h2 a2;obtain⟨c1,c2,_⟩:=gw h3 (zF _) b2;refine⟨(a1.ex _).trans (b1.trans c1),c2,?_⟩;have:=(c2.at h4).cp;rw[(Mu h5).2]at this;exact this
end Go.Proofs
namespace Go.Proofs
open Go Go.Rx Go.Vx Tryz
set_option maxRecDepth 20000
set_option maxHeartbeats 4000000
set_option synthInstance.maxSize 4000
set_option synthInstance.maxHeartbeats 200000
def IU(n:Nat)(P:PP)(a b:Int):I (I Nat×PP):=
 cond (decide (a<0)) (some (none,P)) (cond (decide (b<0)) (some (none,P)) (cond (decide (a>=(P.roots.length:Int))) (some (none,P)) (cond (decide (b>=(P.roots.length:Int))) (some (none,P)) (a8 (aC P.roots a) fun ra=>a8 (aC P.roots b) fun rb=>a8 (IR P.H (IntKind.i64.wrap (P.gen+1)) n n [(ra,rb)] P.N) fun r=>cond (!r.1) (some (none,{ P with N:=r.2,gen:=IntKind.i64.wrap (P.gen+1) })) (a8 (rL r.2 (IntKind.i64.wrap (P.gen+1)) n ra) fun q=>some (some q,{ P with N:=r.2,gen:=IntKind.i64.wrap (P.gen+1) }))))))
section
variable{kp kr st:Nat}{nm:Nat->Nat}{P:PP}{h:Z (Nat×B)}{nx:Nat}
theorem PH.gr(p:PH kp kr st nm P h):eK h kr (.vec (P.roots.map (dL nm)).flatten 92 1 st):=⟨p.roots⟩
def z8p(p:PH kp kr st nm P h)(n:Nat){a b:Nat}{r:BQ×Z PN}(J:IR P.H P.gen n n [(a,b)] P.N=some r):
  aV prog 65 [.ptr kp 0 0,pt nm a,pt nm b] ⟨h,nx⟩ (fun u X'=>u=.bool r.1/\X'=⟨cH kp kr st nm { P with N:=r.2 } h,nx⟩):=
 aV.wf fun hw _=>(UQ p n J).gh fun u X' ⟨H,N,h1,h2,h3,h4,h5,h6⟩ _ _=>by subst h1;subst h2;exact⟨_,_,cn p hw h3 h4 (fun k k1 k2 k3 k4=>h6 k k1 k4) (by simp[aF,aP]),zF _,rfl,rfl⟩
def z2e(p:PH kp kr st nm P h)(n:Nat){i:Nat}(hi:i<P.N.length){r:Nat×Z PN×Int}(J:Do P.gen n P.N P.size i=some r):
  aV prog 46 [.ptr kp 0 0,pt nm i] ⟨h,nx⟩ (fun u X'=>u=pt (iT nm P.N.length nx) r.1/\X'=⟨cH kp kr st (iT nm P.N.length nx) { P with N:=r.2.1,size:=r.2.2 } h,nx+(r.2.1.length-P.N.length)⟩):=
 aV.wf fun hw _=>(aa p n hi J).gh fun u X' ⟨H,M,nm1,h1,h2,h3,h4⟩ _ _=>by
  subst h1;subst h2;have e:(fun k=>if k<nx then k else nm1 (P.N.length+(k-nx))) (iT nm P.N.length nx r.1)=nm1 r.1:=by
   show(if _ then _ else _)=_;rcases Nat.lt_or_ge r.1 P.N.length with h5 |h5;rw[wY _ h5,if_pos (p.lt hw h5),h3.nmE _ h5];have e0:iT nm P.N.length nx r.1=nx+(r.1-P.N.length):=by rw[iT,if_neg (by omega)]
   rw[e0,if_neg (by omega)];congr 1;omega
  refine⟨pt (iT nm P.N.length nx) r.1,_,canon p hw (h3.ph.ph (zF _)) h3.len h3.nmE h3.new (fun k k1 k2 k3 k4=>h3.fr k k1 k2 k4) ?_ ?_,Nat.le_add_right _ _,rfl,rfl⟩;exact congrArg (fun z=>[U.ptr z 0 0]) e;simp only[pt,aF,aP,and_true];show _<nx+(r.2.1.length-P.N.length);rcases Nat.lt_or_ge r.1 P.N.length with h5 |h5;rw[wY _ h5];have:=p.lt hw h5;omega;rw[iT,if_neg (by omega)];omega
variable{a:Int}
variable{b:Int}
def qu7(p:PH kp kr st nm P h)(n:Nat){r:I Nat×PP}(J:IU n P a b=some r):
  aV prog 45 [.ptr kp 0 0,.i6 a,.i6 b] ⟨h,nx⟩ (fun u X'=>∃H M,u=.tup [po nm r.1,.bool r.1.isSome]/\X'=⟨H,M⟩/\PH kp kr st nm r.2 H/\r.2.N.length=P.N.length/\nx<=M/\∀k,k<nx->k≠kp->(∀i,i<P.N.length->nm i≠k)->gt H k=gt h k):=by
 haveI:=p.gp
 haveI:=p.gr
 refine TR 65 Bj ?_;refine goN ?_;unfold IU at J;cases h1:decide (a<0)with
 |true=>rw[h1]at J;obtain rfl:=sI J;refine goN ?_;refine dS rfl (fun _=>?_) (fun h=>by cases h);refine goN ?_;exact Dq rfl rfl rfl rfl (zF _) ⟨h,nx,rfl,rfl,p,rfl,zF _,fun _ _ _ _=>rfl⟩
 |false=>
 rw[h1]at J;cases h2:decide (b<0)with
 |true=>rw[h2]at J;obtain rfl:=sI J;refine goN ?_;refine dS rfl (fun _=>?_) (fun h=>by cases h);refine goN ?_;exact Dq rfl rfl rfl rfl (zF _) ⟨h,nx,rfl,rfl,p,rfl,zF _,fun _ _ _ _=>rfl⟩
 |false=>
 rw[h2]at J;cases h3:decide (a>=(P.roots.length:Int))with
 |true=>rw[h3]at J;obtain rfl:=sI J;refine goN ?_;refine dS rfl (fun _=>?_) (fun h=>by cases h);refine goN ?_;exact Dq rfl rfl rfl rfl (zF _) ⟨h,nx,rfl,rfl,p,rfl,zF _,fun _ _ _ _=>rfl⟩
 |false=>
 rw[h3]at J;cases h4:decide (b>=(P.roots.length:Int))with
 |true=>rw[h4]at J;obtain rfl:=sI J;refine goN ?_;refine dS rfl (fun _=>?_) (fun h=>absurd (h4.symm.trans h) nofun);refine goN ?_;exact Dq rfl rfl rfl rfl (zF _) ⟨h,nx,rfl,rfl,p,rfl,zF _,fun _ _ _ _=>rfl⟩
 |false=>
 rw[h4]at J;obtain⟨ra,KT,rb,ZL,r1,hr1,J⟩:=pR J;refine goN ?_;refine dS rfl (fun h=>absurd (h4.symm.trans h) nofun) (fun _=>?_);refine goN ?_;have p2:PH kp kr st nm { P with gen:=IntKind.i64.wrap (P.gen+1) } (ug h kp (.row (qN kr st { P with gen:=IntKind.i64.wrap (P.gen+1) }) 83)):=p.setP P.size _ (by rw[c7,if_pos rfl,p.pool];rfl) fun k b hb hk=>by rw[c7,if_neg (Ne.symm hk)];exact hb
 haveI:=p2.gp
 haveI:=p2.gr
 have NX:∀k,k≠kp->gt (ug h kp (.row (qN kr st { P with gen:=IntKind.i64.wrap (P.gen+1) }) 83)) k=gt h k:=fun k hk=>by rw[c7,if_neg (Ne.symm hk)]
 change WPU _ _ _ _ (Sg.mk (ug h kp (.row (qN kr st { P with gen:=IntKind.i64.wrap (P.gen+1) }) 83)) nx) _;have hv:mK (Sg.mk (ug h kp (.row (qN kr st { P with gen:=IntKind.i64.wrap (P.gen+1) }) 83)) nx) kr st=some ((P.roots.map (dL nm)).flatten,92,1):=by simp[mK,p2.roots,B.bv]
 refine dE [] ?_;refine cU ?_;refine bM rfl (fA rfl rfl (pS (dL nm) gM.h (bZ iC.h) (by decide) (fun _=>rfl) hv KT)) ?_;refine bM rfl (yG (dL nm) (pt nm) gK.h rfl (fun _=>rfl) rfl p2.roots KT) ?_;refine cU ?_;refine bM rfl (fA rfl rfl (pS (dL nm) gM.h (bZ iC.h) (by decide) (fun _=>rfl) hv ZL)) ?_;refine bM rfl (yG (dL nm) (pt nm) gK.h rfl (fun _=>rfl) rfl p2.roots ZL) (ET rfl (g9 rfl Vo rfl).2 (z8p p2 n hr1) rfl rfl ?_);have GY:=Zb hr1 p2.wf;have p3:PH kp kr st nm { P with N:=r1.2,gen:=IntKind.i64.wrap (P.gen+1) } (cH kp kr st nm { P with N:=r1.2,gen:=IntKind.i64.wrap (P.gen+1) } (ug h kp (.row (qN kr st { P with gen:=IntKind.i64.wrap (P.gen+1) }) 83))):=qoz p2 GY.1.len GY.2 (fun r hr=>by show r<r1.2.length;rw[GY.1.len];exact p.rt r hr);have Tx:∀k,k<nx->k≠kp->(∀i,i<P.N.length->nm i≠k)->gt (cH kp kr st nm { P with N:=r1.2,gen:=IntKind.i64.wrap (P.gen+1) } (ug h kp (.row (qN kr st { P with gen:=IntKind.i64.wrap (P.gen+1) }) 83))) k=gt h k:=fun k _ k2 k3=>by by_cases e:k=kr;subst e;rw[p3.roots,p.roots];rw[Xs k2 e fun i hi=>k3 i (by have:=GY.1.len;show i<P.N.length;exact this ▸ hi),NX k k2]
 refine cU ?_;refine bN ⟨by kernel_rfl,trivial,?_⟩;refine goN ?_;refine dS rfl (fun h5=>?_) (fun h5=>?_);rw[h5]at J;obtain rfl:=sI J;refine goN ?_;exact Dq rfl rfl rfl rfl (zF _) ⟨_,nx,rfl,rfl,p3,GY.1.len,zF _,Tx⟩;rw[h5]at J;obtain⟨q,hq,J⟩:=aL J;obtain rfl:=sI J;have hv3:mK (Sg.mk (cH kp kr st nm { P with N:=r1.2,gen:=IntKind.i64.wrap (P.gen+1) } (ug h kp (.row (qN kr st { P with gen:=IntKind.i64.wrap (P.gen+1) }) 83))) nx) kr st=some ((P.roots.map (dL nm)).flatten,92,1):=by simp[mK,p3.roots,B.bv]
 haveI:=p3.gp
 haveI:=p3.gr
 refine goN ?_;refine RS.w rfl (fA rfl rfl (pS (dL nm) gM.h (bZ iC.h) (by decide) (fun _=>rfl) hv3 KT)) ?_;refine RS.w rfl (yG (dL nm) (pt nm) gK.h rfl (fun _=>rfl) rfl p3.roots KT) (aK rfl (JS p3 n hq) wB ?_);refine goN ?_;exact Dq rfl rfl rfl rfl (zF _) ⟨_,nx,rfl,rfl,p3,GY.1.len,zF _,Tx⟩
def W6(n:Nat)(P:PP)(a b:Int):I (BQ×PP):=a8 (IU n P a b) fun r=>some (r.1.isSome,r.2)
def Zd{n:Nat}{P:PP}{r:I Nat×PP}(h:IU n P a b=some r)(w:Wf P.N):Sm P.N r.2.N/\Wf r.2.N/\r.2.H=P.H/\r.2.roots=P.roots/\r.2.size=P.size/\∀q,r.1=some q->q<r.2.N.length:=by
 unfold IU at h;have key:∀{c:BQ}{z:I (I Nat×PP)},cond c (some (none,P)) z=some r->(r=(none,P))\/z=some r:=fun{c z} h=>by rcases c with _|_;exact .inr h;exact .inl (sI h).symm
 have triv:r=(none,P)->Sm P.N r.2.N/\Wf r.2.N/\r.2.H=P.H/\r.2.roots=P.roots/\r.2.size=P.size/\∀q,r.1=some q->q<r.2.N.length:=fun e=>by subst e;exact⟨Sm.refl _,w,rfl,rfl,rfl,nofun⟩
 rcases key h with e |h;exact triv e;rcases key h with e |h;exact triv e;rcases key h with e |h;exact triv e;rcases key h with e |h;exact triv e;obtain⟨ra,_,h⟩:=aL h;obtain⟨rb,_,h⟩:=aL h;obtain⟨r1,h1,h⟩:=aL h;obtain⟨k1,k2⟩:=Zb h1 w;cases hb : !r1.1 with
 |true=>rw[hb]at h;obtain rfl:=sI h;exact⟨k1,k2,rfl,rfl,rfl,nofun⟩
 |false=>rw[hb]at h;obtain⟨q,hq,h⟩:=aL h;obtain rfl:=sI h;refine⟨k1,k2,rfl,rfl,rfl,fun q' e=>?_⟩;cases e;exact Zr hq
def z8m(p:PH kp kr st nm P h)(n:Nat){r:BQ×PP}(J:W6 n P a b=some r):
  aV prog 22 [.ptr kp 0 0,.i6 a,.i6 b] ⟨h,nx⟩ (fun u X'=>u=.bool r.1/\X'=⟨cH kp kr st nm r.2 h,nx⟩):=by
 refine aV.wf fun hw _=>?_;obtain⟨r1,h1,h2⟩:=aL J;obtain rfl:=sI h2;have hc:aV prog 22 [.ptr kp 0 0,.i6 a,.i6 b] ⟨h,nx⟩ (fun u X'=>∃H M,u=.bool r1.1.isSome/\X'=⟨H,M⟩/\PH kp kr st nm r1.2 H/\r1.2.N.length=P.N.length/\nx<=M/\∀k,k<nx->k≠kp->(∀i,i<P.N.length->nm i≠k)->gt H k=gt h k):=by refine TR 17 Bk ?_;refine goN ?_;refine lK rfl (g9 rfl Bj rfl).2 (qu7 p n h1) rfl rfl ?_;rintro _ _ ⟨H,M,rfl,rfl,h3,h4,h5,h6⟩;refine goN ?_;exact AC rfl rfl rfl h5 ⟨H,M,rfl,rfl,h3,h4,h5,h6⟩
 exact hc.gh fun u X' ⟨H,M,e1,e2,h3,h4,h5,h6⟩ _ _=>by subst e1;subst e2;exact⟨_,_,cn p hw h3 h4 (fun k k1 k2 k3 k4=>h6 k k1 k2 k4) (by simp[aF,aP]),zF _,rfl,rfl⟩
def z8h(p:PH kp kr st nm P h):aV prog 16 [.ptr kp 0 0] ⟨h,nx⟩ (fun u X'=>u=.i6 P.size/\X'=⟨h,nx⟩):=by
 haveI:=p.gp
 refine kR 7 OH ?_;refine goN ?_;exact AC rfl rfl rfl (zF _) ⟨rfl,rfl⟩
def yF(n:Nat)(P:PP)(a b:Int):I ((Int×BQ)×PP):=
 a8 (IU n P a b) fun r=>match r.1 with
  |none=>some ((0,false),r.2)|some root=>a8 (Do r.2.gen n r.2.N r.2.size root) fun c=>aG (r.2.roots.length<=1000000) (some ((r.2.roots.length,true),{ r.2 with N:=c.2.1,size:=c.2.2,roots:=r.2.roots++[c.1] }))
def z4i(p:PH kp kr st nm P h)(n:Nat){r:(Int×BQ)×PP}(J:yF n P a b=some r):
  aV prog 21 [.ptr kp 0 0,.i6 a,.i6 b] ⟨h,nx⟩ (fun u X'=>∃bG,u=.tup [.i6 r.1.1,.bool r.1.2]/\X'=⟨cH kp kr bG (iT nm P.N.length nx) r.2 h,nx+(r.2.N.length-P.N.length)⟩):=by
 refine aV.wf fun hw _=>?_;obtain⟨r1,h1,h2⟩:=aL J;obtain⟨s1,s2,s3,s4,s5,s6⟩:=Zd h1 p.wf;refine TR 37 u6 ?_;refine goN ?_;refine lK rfl (g9 rfl Bj rfl).2 (qu7 p n h1) rfl rfl ?_;rintro _ _ ⟨H,M,rfl,rfl,h3,h4,h5,h6⟩;cases hr:r1.1 with
 |none=>rw[hr]at h2;obtain rfl:=sI h2;refine goN ?_;refine dS rfl (fun _=>?_) (fun h=>by cases h);refine goN ?_;refine R7 (X2:=⟨cH kp kr st nm r1.2 h,nx⟩) rfl rfl rfl rfl (zF _) (cn p hw h3 h4 (fun k k1 k2 k3 k4=>h6 k k1 k2 k4) (by simp[aF,aP])) ⟨st,rfl,?_⟩;show Sg.mk _ _=Sg.mk _ _;rw[qta (nm:=nm) (fun k hk=>wY k (by rw[<-s1.len];exact hk)) s2 (fun r hr=>by rw[s4]at hr;rw[s1.len];exact p.rt r hr),s1.len,Nat.sub_self,Nat.add_zero]
 |some root=>
  rw[hr]at h2;obtain⟨c,hc,h2⟩:=aL h2;obtain⟨KS,h2⟩:=cQ h2;obtain rfl:=sI h2;refine goN ?_;refine dS rfl (fun h=>by cases h) (fun _=>?_);refine WPU.wf fun Hv _=>?_
  haveI:=h3.gp
  haveI:=h3.gr
  refine goN ?_;refine dE [(0,7),(0,8),(0,9),(1,7),(1,8),(2,7),(2,8),(3,7),(3,8),(4,7),(4,8)] ?_;refine cU ?_;refine ET rfl (g9 rfl Vu rfl).2 (z2e h3 n (s6 root hr) hc) rfl rfl ?_;obtain⟨e1,e2,e3⟩:=quf hc s2
  let j7:=iT nm r1.2.N.length M
  let M2:=M+(c.2.1.length-r1.2.N.length)
  let P2:PP:={ r1.2 with N:=c.2.1,size:=c.2.2 }
  have p4:PH kp kr st j7 P2 (cH kp kr st j7 P2 H):=z1z h3 Hv e2 fun r hr=>Nat.lt_of_lt_of_le (h3.rt r hr) e1.len;have rV:kp<M2:=Nat.lt_of_lt_of_le (show kp<M from(Hv _ _ h3.pool).1) (Nat.le_add_right _ _);have AX:kr<M2:=Nat.lt_of_lt_of_le (show kr<M from(Hv _ _ h3.roots).1) (Nat.le_add_right _ _)
  haveI:=p4.gp
  haveI:=p4.gr
  haveI:Nq M2 kp:=⟨by rw[beq_eq];simp;omega⟩
  haveI:Nq M2 kr:=⟨by rw[beq_eq];simp;omega⟩
  haveI:SuC M2 (M2+1):=⟨rfl⟩
  change RH _ _ _ _ _ (Sg.mk (cH kp kr st j7 P2 H) M2) _ _;refine fO ?_;have tS:gt ((M2,.row [pt j7 c.1] 92)::cH kp kr st j7 P2 H) kr=some (.vec (r1.2.roots.map (dL j7)).flatten 92 1 st):=by rw[aQ,if_neg (by omega)];exact p4.roots
  have eR:rowOf (Sg.mk ((M2,.row [pt j7 c.1] 92)::cH kp kr st j7 P2 H) (M2+1)) M2=some [pt j7 c.1]:=by simp[rowOf,aQ]
  refine RD.act rfl (rN rfl rfl rfl rfl (C0 (dL j7) [c.1] gM.h gM.h iC.h rfl (fun _=>rfl) tS (E8 (dL j7) [c.1] (q:=[pt j7 c.1]) eR rfl rfl rfl) ⟨by simp;omega,by simp;omega⟩)) rfl rfl ?_;have Tu:eK (ug ((M2,.row [pt j7 c.1] 92)::cH kp kr st j7 P2 H) kr (.vec (List.map (dL j7) (r1.2.roots++[c.1])).flatten 92 1 (st+1))) kp (.row [.iM m4 P2.H.Types,.iM pA P2.H.Feats,.vl kr st 0 P2.roots.length,.i6 P2.size,.i6 P2.gen] 83):=⟨by rw[c7,if_neg p4.krp,aQ,if_neg (by omega)];exact p4.pool⟩
  haveI:=Tu
  refine cU ?_;refine wO ?_;refine bN ⟨by kernel_rfl,⟨opm,opm,opm,opm,opm,opm,opm,opm,opm,opm,opm,trivial⟩,?_⟩
  let v06:B:=.vec (List.map (dL j7) (r1.2.roots++[c.1])).flatten 92 1 (st+1)
  let P3:PP:={ r1.2 with N:=c.2.1,size:=c.2.2,roots:=r1.2.roots++[c.1] }
  let T:Z (Nat×B):=(M2,.row [pt j7 c.1] 92)::cH kp kr st j7 P2 H
  let T2:Z (Nat×B):=ug (ug T kr v06) kp (.row (qN kr (st+1) P3) 83)
  have hT:∀k,k≠kp->k≠kr->k<M2->gt T2 k=gt (cH kp kr st j7 P2 H) k:=fun k k1 k2 k3=>by simp only[T2,T];rw[c7,if_neg (Ne.symm k1),c7,if_neg (Ne.symm k2),aQ,if_neg (by omega)]
  have p5:PH kp kr (st+1) j7 P3 T2:=by
   refine⟨?_,?_,fun i x hx=>?_,p4.inj,p4.wf,fun r hr=>?_⟩;simp only[T2];rw[c7,if_pos rfl,Tu.h];rfl;simp only[T2];rw[c7,if_neg (Ne.symm p4.krp),c7,if_pos rfl];simp only[T];rw[tS];rfl;have hi:=nJ hx;have h7:j7 i<M2:=by rcases Nat.lt_or_ge i r1.2.N.length with h8 |h8;simp only[j7];rw[wY i h8];have:=h3.lt Hv h8;omega;simp only[j7];rw[iT,if_neg (by omega)];have:i<c.2.1.length:=hi;omega
   rw[hT _ (p4.kpn hi) (p4.krn hi) h7];exact p4.node i x hx;rcases yD.1 hr with hr |hr;exact p4.rt r hr;simp at hr;subst hr;exact e3
  change WPU _ _ _ _ (Sg.mk T2 (M2+1)) _
  haveI:=p5.gp
  haveI:=p5.gr
  refine goN ?_;have kN:IntKind.i64.wrap (((r1.2.roots++[c.1]).length:Int)-1)=r1.2.roots.length:=by rw[zU,oA (by simp) (by simp;omega)];simp
  have hM:nx<=M:=h5;have NM:∀k,r1.2.N.length<=k->j7 k=M+(k-r1.2.N.length):=fun k hk=>by simp only[j7];rw[iT,if_neg (by omega)]
  have pG:P.N.length<=P3.N.length:=by rw[<-h4];exact e1.len
  refine R7 rfl rfl rfl rfl (Nat.le_add_right _ _) (canon (P1:=P3) (nm1:=j7) (tm':=[.tup [.i6 r1.2.roots.length,.bool true]]) p hw p5 pG (fun k hk=>?_) (fun k a b=>?_) (fun k k1 k2 k3 k4=>?_) ?_ (by simp[aF,aP])) ⟨st+1,rfl,rfl⟩;exact wY k (by rw[h4];exact hk);rw[NM k (by rw[h4];exact a)];show nx<=_;omega;have k1':k<nx:=k1;rw[hT k k2 k3 (by show k<M+_;omega),Xs k2 k3 fun i hi e=>?_];exact h6 k k1 k2 k4;rcases Nat.lt_or_ge i r1.2.N.length with h8 |h8;simp only[j7]at e;rw[wY i h8]at e;exact k4 i (by rw[<-h4];exact h8) e;rw[NM i h8]at e;omega;simp only[eM,rU];rw[<-kN]
end
def R5(q:Nat):Z Nat->Nat->I Nat
 |[],_=>none|k::out,s=>cond (Nat.beq k q) (some s) (R5 q out (s+1))
def JG(F:Z aU)(k:Nat)(l:Z aT):Z aU:=match F[k]? with
 |some x=>F.set k ⟨x.Typex,l⟩|none=>F
def W5(g:Nat->Z Nat×Z aU->I (Nat×Z Nat×Z aU)):Z dR->Z Nat×Z aU->Z aT->I (Z aT×Z Nat×Z aU)
 |[],s,aY=>some (aY,s)|a::l,s,aY=>aG (aY.length<=1000000) (a8 (g a.to s) fun r=>W5 g l r.2 (aY++[⟨a.f,r.1⟩]))
def AA(N:Z PN):Nat->Nat->Z Nat×Z aU->I (Nat×Z Nat×Z aU)
 |0,_,_=>none|m+1,p,s=>match R5 p s.1 0 with
  |some k=>some (k,s)|none=>a8 N[p]? fun x=>aG (s.2.length<=1000000/\x.arcs.length<=1000000) (a8 (W5 (AA N m) x.arcs (s.1++[p],s.2++[⟨x.kind,[]⟩]) []) fun r=>some (s.2.length,r.2.1,JG r.2.2 s.2.length r.1))
def EL(nm:Nat->Nat)(s:Nat)(out:Z Nat):Z (Nat×U×Nat):=(out.zipIdx s).map fun p=>(nm p.1,.i6 (p.2:Nat),p.2)
def z75(nm:Nat->Nat)(s:Nat)(out:Z Nat)(q:Nat):EL nm s (out++[q])=EL nm s out++[(nm q,.i6 ((s+out.length:Nat):Int),s+out.length)]:=by simp[EL,List.zipIdx_append]
def Ze{nm:Nat->Nat}{n:Nat}(hi:∀i j,i<n->j<n->nm i=nm j->i=j){q:Nat}(hq:q<n):∀(out:Z Nat)(s:Nat),(∀k∈out,k<n)->uL (nm q) (EL nm s out)=(R5 q out s).map fun k=>.i6 (k:Nat)
 |[],s,_=>rfl|k::out,s,h=>by have ih:=Ze hi hq out (s+1) fun k hk=>h k (by simp[hk]);simp only[EL,List.zipIdx_cons,zQ,uL,R5]at ih ⊢;rw[ih];by_cases e:k=q;subst e;simp[beq_eq];have:nm k≠nm q:=fun h2=>e (hi k q (h k (by simp)) hq h2);simp[beq_eq,this,e]
def v00{nm:Nat->Nat}{h:Z (Nat×B)}{n:Nat}(hr:∀i,i<n->isRow h (nm i)):∀(out:Z Nat)(s:Nat),(∀k∈out,k<n)->∀e∈EL nm s out,isRow h e.1:=fun out s ho e he=>by
 simp only[EL,List.mem_map]at he;obtain⟨p,hp,rfl⟩:=he;exact hr _ (ho _ (List.fst_mem_of_mem_zipIdx hp))
structure VI(nm:Nat->Nat)(N:Z PN)(K6 Km K7 Kv K8:Nat)(s:Z Nat×Z aU)(h:Z (Nat×B)):Prop where
 k6:gt h K6=some (.row [.map Km] 108)
 km:gt h Km=some (.map ((EL nm 0 s.1).map pE) s.1.length)
 k7:gt h K7=some (.row [.vl Kv s.2.length 0 s.2.length] 39)
 kv:gt h Kv=some (.bv bD s.2 79 2 s.2.length)
 k8:gt h K8=some (.row [.fn (.func 43) [] [.ptr K6 0 0,.ptr K7 0 0,.ptr K8 0 0]] 109)
 nd:∀(i:Nat)(x:PN),N[i]? = some x->gt h (nm i)=some (.row (nM nm x) 103)
 inj:∀i j,i<N.length->j<N.length->nm i=nm j->i=j
 lt:∀p∈s.1,p<N.length
 eq:s.1.length=s.2.length
def vH(nm:Nat->Nat)(Km K7 Kv:Nat)(s:Z Nat×Z aU)(h:Z (Nat×B)):Z (Nat×B):=
 (Km,.map ((EL nm 0 s.1).map pE) s.1.length)::(K7,.row [.vl Kv s.2.length 0 s.2.length] 39)::(Kv,.bv bD s.2 79 2 s.2.length)::h
section
variable{nm:Nat->Nat}{N:Z PN}{K6 Km K7 Kv K8:Nat}{s s':Z Nat×Z aU}{h:Z (Nat×B)}{nx:Nat}
def VI.ne(v:VI nm N K6 Km K7 Kv K8 s h):Km≠K7/\Km≠Kv/\K7≠Kv/\K6≠Km/\K6≠K7/\K6≠Kv/\K8≠Km/\K8≠K7/\K8≠Kv/\∀i,i<N.length->nm i≠Km/\nm i≠K7/\nm i≠Kv:=by refine⟨fun e=>?_,fun e=>?_,fun e=>?_,fun e=>?_,fun e=>?_,fun e=>?_,fun e=>?_,fun e=>?_,fun e=>?_,fun i hi=>?_⟩;have:=v.km;rw[e,v.k7]at this;cases this;have:=v.km;rw[e,v.kv]at this;cases this;have:=v.k7;rw[e,v.kv]at this;cases this;have:=v.k6;rw[e,v.km]at this;cases this;have:=v.k6;rw[e,v.k7]at this;simp at this;have:=v.k6;rw[e,v.kv]at this;cases this;have:=v.k8;rw[e,v.km]at this;cases this;have:=v.k8;rw[e,v.k7]at this;simp at this;have:=v.k8;rw[e,v.kv]at this;cases this;have hn:=v.nd i _ (List.getElem?_eq_getElem hi);refine⟨fun e=>?_,fun e=>?_,fun e=>?_⟩;rw[e,v.km]at hn;cases hn;rw[e,v.k7]at hn;simp at hn;rw[e,v.kv]at hn;cases hn
def Dj{k:Nat}(h1:k≠Km)(h2:k≠K7)(h3:k≠Kv):gt (vH nm Km K7 Kv s h) k=gt h k:=by rw[vH,aQ,if_neg (Ne.symm h1),aQ,if_neg (Ne.symm h2),aQ,if_neg (Ne.symm h3)]
variable{H:Z (Nat×B)}
def VI.to(v:VI nm N K6 Km K7 Kv K8 s h)(hs:∀k,k≠Km->k≠K7->k≠Kv->∀b,gt h k=some b->gt H k=some b)(m1:gt H Km=some (.map ((EL nm 0 s'.1).map pE) s'.1.length))(m2:gt H K7=some (.row [.vl Kv s'.2.length 0 s'.2.length] 39))(m3:gt H Kv=some (.bv bD s'.2 79 2 s'.2.length))(lt:∀p∈s'.1,p<N.length)(eq:s'.1.length=s'.2.length):VI nm N K6 Km K7 Kv K8 s' H:=by obtain⟨n1,n2,n3,n4,n5,n6,n7,n8,n9,Hn⟩:=v.ne;exact⟨hs _ n4 n5 n6 _ v.k6,m1,m2,m3,hs _ n7 n8 n9 _ v.k8,fun i x hx=>hs _ (Hn i (nJ hx)).1 (Hn i (nJ hx)).2.1 (Hn i (nJ hx)).2.2 _ (v.nd i x hx),v.inj,lt,eq⟩
def VI.vh(v:VI nm N K6 Km K7 Kv K8 s h)(lt:∀p∈s'.1,p<N.length)(eq:s'.1.length=s'.2.length):VI nm N K6 Km K7 Kv K8 s' (vH nm Km K7 Kv s' h):=by obtain⟨n1,n2,n3,n4,n5,n6,n7,n8,n9,Hn⟩:=v.ne;refine v.to (fun k k1 k2 k3 b hb=>by rw[Dj k1 k2 k3];exact hb) ?_ ?_ ?_ lt eq;rw[vH,aQ,if_pos rfl];rw[vH,aQ,if_neg n1,aQ,if_pos rfl];rw[vH,aQ,if_neg n2,aQ,if_neg n3,aQ,if_pos rfl]
def VI.row(v:VI nm N K6 Km K7 Kv K8 s h):∀i,i<N.length->isRow h (nm i):=fun i hi=>⟨_,_,v.nd i _ (List.getElem?_eq_getElem hi)⟩
def OZ(v:VI nm N K6 Km K7 Kv K8 s h)(hw:nN ⟨h,nx⟩){M:Nat}{tm:Z U}(hM:nx<=M)(v':VI nm N K6 Km K7 Kv K8 s' H)(hs:∀k,k<nx->k≠Km->k≠K7->k≠Kv->gt H k=gt h k)(hb:aF nx tm):Gh nx tm ⟨H,M⟩ tm ⟨vH nm Km K7 Kv s' h,nx⟩:=by
 have hkm:Km<nx:=(hw _ _ v.km).1;have hk7:K7<nx:=(hw _ _ v.k7).1;have uQ:Kv<nx:=(hw _ _ v.kv).1;have AS:∀i,i<N.length->nm i<nx:=fun i hi=>(hw _ _ (v.nd i _ (List.getElem?_eq_getElem hi))).1;refine Gh.rnG id (fun _ _=>rfl) (zF _) (fun k b hg=>?_) (fun k k' b b' _ _ e=>e) (L1 tm) hb;have key:k<nx/\BelB nx b/\gt H k=some b:=by rw[vH,aQ]at hg;by_cases e1:Km=k;rw[if_pos e1]at hg;cases hg;subst e1;refine⟨hkm,fun e he=>?_,v'.km⟩;obtain⟨q,hq,rfl⟩:=List.mem_map.1 he;obtain⟨p,hp,rfl⟩:=List.mem_map.1 hq;exact⟨AS _ (v'.lt _ (List.fst_mem_of_mem_zipIdx hp)),trivial⟩;rw[if_neg e1,aQ]at hg;by_cases e2:K7=k;rw[if_pos e2]at hg;cases hg;subst e2;exact⟨hk7,⟨uQ,trivial⟩,v'.k7⟩;rw[if_neg e2,aQ]at hg;by_cases e3:Kv=k;rw[if_pos e3]at hg;cases hg;subst e3;exact⟨uQ,Fp nx (fun x=>yK nx x) _,v'.kv⟩;rw[if_neg e3]at hg;obtain⟨h1,h2⟩:=hw k b hg;exact⟨h1,h2,by rw[hs k h1 (Ne.symm e1) (Ne.symm e2) (Ne.symm e3)];exact hg⟩
 refine⟨key.1,key.2.1,?_⟩;rw[z61 (f:=id) (n:=nx) (fun _ _=>rfl) b key.2.1];exact key.2.2
def sr(v:VI nm N K6 Km K7 Kv K8 s h)(hw:nN ⟨h,nx⟩)(v':VI nm N K6 Km K7 Kv K8 s' H)(hs:∀k,k<nx->k≠Km->k≠K7->k≠Kv->gt H k=gt h k):∀k b,k<nx->gt H k=some b->BelB nx b:=fun k b hk hb=>by
 have uQ:Kv<nx:=(hw _ _ v.kv).1;by_cases e1:k=Km;rw[e1,v'.km]at hb;cases hb;intro e he;obtain⟨q,hq,rfl⟩:=List.mem_map.1 he;obtain⟨p,hp,rfl⟩:=List.mem_map.1 hq;exact⟨(hw _ _ (v.nd _ _ (List.getElem?_eq_getElem (v'.lt _ (List.fst_mem_of_mem_zipIdx hp))))).1,trivial⟩;by_cases e2:k=K7;rw[e2,v'.k7]at hb;cases hb;exact⟨uQ,trivial⟩;by_cases e3:k=Kv;rw[e3,v'.kv]at hb;cases hb;exact Fp nx (fun x=>yK nx x) _;rw[hs k hk e1 e2 e3]at hb;exact(hw k b hb).2
def vfz(v:VI nm N K6 Km K7 Kv K8 s h)(hw:nN ⟨h,nx⟩)(v':VI nm N K6 Km K7 Kv K8 s' H)(hs:∀k,k<nx->k≠Km->k≠K7->k≠Kv->gt H k=gt h k){Ka sz:Nat}{b:B}(hK:nx<=Ka):∀k,k<nx->gt (fzH Ka b sz H) k=gt H k:=fun k hk=>by
 rw[FX,if_neg (by omega)];rcases hq:gt H k with _|b';rfl;simp only[zM];rw[Ez _ _ (Fc hK (sr v hw v' hs k b' hk hq))]
def VI.low(v:VI nm N K6 Km K7 Kv K8 s h)(hw:nN ⟨h,nx⟩){H':Z (Nat×B)}(v':VI nm N K6 Km K7 Kv K8 s' H)(he:∀k,k<nx->gt H' k=gt H k):VI nm N K6 Km K7 Kv K8 s' H':=by have lt:∀{k b},gt h k=some b->k<nx:=fun{k b} hk=>(hw k b hk).1;exact⟨by rw[he _ (lt v.k6)];exact v'.k6,by rw[he _ (lt v.km)];exact v'.km,by rw[he _ (lt v.k7)];exact v'.k7,by rw[he _ (lt v.kv)];exact v'.kv,by rw[he _ (lt v.k8)];exact v'.k8,fun i x hx=>by rw[he _ (lt (v.nd i x hx))];exact v'.nd i x hx,v'.inj,v'.lt,v'.eq⟩
def qf(F:Z aU)(k:Nat)(l:Z aT):(JG F k l).length=F.length:=by unfold JG;split<;>simp
def StN(N:Z PN)(s s':Z Nat×Z aU):Prop:=(∀q∈s'.1,q<N.length)/\s'.1.length=s'.2.length/\s.2.length<=s'.2.length
def qui{N:Z PN}{g:Nat->Z Nat×Z aU->I (Nat×Z Nat×Z aU)}(hg:∀p s r,g p s=some r->p<N.length->(∀q∈s.1,q<N.length)->s.1.length=s.2.length->StN N s r.2):∀(l:Z dR)(s:Z Nat×Z aU)(aY:Z aT)(r:Z aT×Z Nat×Z aU),W5 g l s aY=some r->(∀a∈l,a.to<N.length)->(∀q∈s.1,q<N.length)->s.1.length=s.2.length->StN N s r.2
 |[],s,aY,r,h,_,h1,h2=>by obtain rfl:=sI h;exact⟨h1,h2,zF _⟩
 |a::l,s,aY,r,h,hl,h1,h2=>by obtain⟨_,h⟩:=cQ h;obtain⟨r1,hr1,h⟩:=aL h;obtain⟨k1,k2,k3⟩:=hg _ _ _ hr1 (hl a (by simp)) h1 h2;obtain⟨k4,k5,k6⟩:=qui hg l _ _ _ h (fun b hb=>hl b (by simp[hb])) k1 k2;exact⟨k4,k5,Nat.le_trans k3 k6⟩
def tw{N:Z PN}(wf:∀x∈N,jK N.length x):∀(m p:Nat)(s:Z Nat×Z aU)(r:Nat×Z Nat×Z aU),AA N m p s=some r->p<N.length->(∀q∈s.1,q<N.length)->s.1.length=s.2.length->StN N s r.2
 |0,_,_,_,h,_,_,_=>by cases h
 |m+1,p,s,r,h,hp,h1,h2=>by
  cases hn:R5 p s.1 0 with
  |some k=>rw[AA,hn]at h;obtain rfl:=sI h;exact⟨h1,h2,zF _⟩
  |none=>rw[AA,hn]at h;obtain⟨x,hx,h⟩:=aL h;obtain⟨_,h⟩:=cQ h;obtain⟨rA,hA,h⟩:=aL h;obtain rfl:=sI h;obtain⟨k1,k2,k3⟩:=qui (tw wf m) _ _ _ _ hA (wf x (zX hx)).arcs (fun q hq=>by rcases yD.1 hq with hq |hq;exact h1 q hq;simp at hq;subst hq;exact hp) (by simp[h2]);refine⟨k1,by simp only[qf];exact k2,?_⟩;simp only[qf];simp at k3;omega
def qvb:∀(m:Nat){s:Z Nat×Z aU}{h:Z (Nat×B)}{nx p:Nat}{r:Nat×Z Nat×Z aU},VI nm N K6 Km K7 Kv K8 s h->(∀x∈N,jK N.length x)->p<N.length->AA N m p s=some r->
  aV prog 43 [pt nm p,.ptr K6 0 0,.ptr K7 0 0,.ptr K8 0 0] ⟨h,nx⟩ (fun u X'=>u=.i6 (r.1:Nat)/\X'=⟨vH nm Km K7 Kv r.2 h,nx⟩)
 |0,_,_,_,_,_,_,_,_,J=>by cases J
 |m+1,s,h,nx,p,r,v,wf,hp,J=>by
  haveI:eK h K6 (.row [.map Km] 108):=⟨v.k6⟩
  cases hn:R5 p s.1 0 with
  |some k=>rw[AA,hn]at J;obtain rfl:=sI J;refine aV.wf fun hw _=>?_;refine Wr 63 OF ?_;refine goN ?_;refine xV rfl (eT.plook tb_ok (zu:=.i6 0) rfl F4.h gK.h (bZ lT.h) pX.h rfl (dH rfl) (dH rfl) v.km (v.row p hp) (v00 v.row s.1 0 v.lt)) ?_;rintro _ _ ⟨rfl,rfl⟩;rw[Ze v.inj hp s.1 0 v.lt,hn];refine goN ?_;refine dS rfl (fun h1=>?_) (fun h1=>by cases h1);refine goN ?_;exact Xn (w:=.i6 (k:Nat)) (X2:=⟨vH nm Km K7 Kv s h,nx⟩) rfl rfl rfl (zF _) (OZ v hw (zF _) v (fun _ _ _ _ _=>rfl) (by simp[aF,aP])) ⟨rfl,rfl⟩
  |none=>
   rw[AA,hn]at J;obtain⟨x,hx,J⟩:=aL J;obtain⟨⟨AV,AU⟩,J⟩:=cQ J;obtain⟨rA,hA,J⟩:=aL J;obtain rfl:=sI J;have fE:=wf x (zX hx);have:aV prog 43 [pt nm p,.ptr K6 0 0,.ptr K7 0 0,.ptr K8 0 0] ⟨h,nx⟩ (fun u X'=>u=.i6 (s.2.length:Nat)/\X'=⟨vH nm Km K7 Kv (rA.2.1,JG rA.2.2 s.2.length rA.1) h,nx⟩):=by
    refine aV.wf fun hw _=>?_;obtain⟨n1,n2,n3,n4,n5,n6,n7,n8,n9,Hn⟩:=v.ne;have hkm:Km<nx:=(hw _ _ v.km).1;have hk7:K7<nx:=(hw _ _ v.k7).1;have uQ:Kv<nx:=(hw _ _ v.kv).1;have hk8:K8<nx:=(hw _ _ v.k8).1;have hnp:nm p<nx:=(hw _ _ (v.nd p x hx)).1
    haveI:eK h K7 (.row [.vl Kv s.2.length 0 s.2.length] 39):=⟨v.k7⟩
    haveI:eK h Kv (.vec (s.2.map bD).flatten 79 2 s.2.length):=⟨v.kv⟩
    refine Wr 63 OF ?_;refine goN ?_;refine xV rfl (eT.plook tb_ok (zu:=.i6 0) rfl F4.h gK.h (bZ lT.h) pX.h rfl (dH rfl) (dH rfl) v.km (v.row p hp) (v00 v.row s.1 0 v.lt)) ?_;rintro _ _ ⟨rfl,rfl⟩;rw[Ze v.inj hp s.1 0 v.lt,hn];refine goN ?_;refine dS rfl (fun h1=>by cases h1) (fun h1=>?_);refine goN ?_;refine RS.stepn rfl (eT.pins tb_ok (v:=.i6 (s.2.length:Nat)) (.inl rfl) F4.h gK.h (bZ lT.h) (dH rfl) (dH rfl) (dH rfl) v.km (v.row p hp) (v00 v.row s.1 0 v.lt) (by rw[Ze v.inj hp s.1 0 v.lt,hn];rfl)) ?_;rintro _ _ ⟨rfl,rfl⟩
    let Bm:B:=.map ((EL nm 0 s.1++[(nm p,U.i6 (s.2.length:Nat),s.1.length)]).map pE) (s.1.length+1)
    change RU _ _ _ _ _ (Sg.mk (ug h Km Bm) nx) _
    haveI:SuC nx (nx+1):=⟨rfl⟩
    haveI:eK (ug h Km Bm) K7 (.row [.vl Kv s.2.length 0 s.2.length] 39):=⟨by rw[c7,if_neg n1];exact v.k7⟩
    haveI:eK (ug h Km Bm) (nm p) (.row [.i6 x.kind,.iM (bX nm) x.arcs,po nm x.fw,.i6 x.fwA,.i6 x.mt,.i6 x.mtA,.iM (bX nm) x.more,.i6 x.moA,po nm x.cp,.i6 x.cpA,.bool x.ch,.i6 x.chA] 103):=⟨by rw[c7,if_neg (Ne.symm (Hn p hp).1)];exact v.nd p x hx⟩
    haveI:Nq nx K7:=⟨by rw[beq_eq];simp;omega⟩
    refine goN ?_;refine dE [(0,7),(1,7)] ?_;refine cU ?_;refine fO ?_;have tS:gt ((nx,.row [.i6 x.kind,.nils] 79)::ug h Km Bm) Kv=some (.vec (s.2.map bD).flatten 79 2 s.2.length):=by rw[aQ,if_neg (by omega),c7,if_neg n2];exact v.kv
    have eR:rowOf (Sg.mk ((nx,.row [.i6 x.kind,.nils] 79)::ug h Km Bm) (nx+1)) nx=some [.i6 x.kind,.nils]:=by simp[rowOf,aQ]
    refine RD.act rfl (rN rfl rfl rfl rfl (C0 bD [⟨x.kind,[]⟩] tC.h tC.h rP.h rfl (fun _=>rfl) tS (E8 bD [⟨x.kind,[]⟩] (q:=[.i6 x.kind,.nils]) eR rfl rfl rfl) ⟨by simp;omega,by simp;omega⟩)) rfl rfl ?_
    haveI:eK (ug ((nx,.row [.i6 x.kind,.nils] 79)::ug h Km Bm) Kv (.vec (List.map bD (s.2++[⟨x.kind,[]⟩])).flatten 79 2 (s.2.length+1))) K7 (.row [.vl Kv s.2.length 0 s.2.length] 39):=⟨by rw[c7,if_neg (Ne.symm n3),aQ,if_neg (by omega),c7,if_neg n1];exact v.k7⟩
    refine cU ?_;refine wO ?_;refine bN ⟨by kernel_rfl,⟨opm,opm,trivial⟩,?_⟩
    let s1:Z Nat×Z aU:=(s.1++[p],s.2++[⟨x.kind,[]⟩])
    let V1:B:=.vec (List.map bD (s.2++[⟨x.kind,[]⟩])).flatten 79 2 (s.2.length+1)
    let R1:B:=.row [.vl Kv (s.2.length+1) 0 (s.2++[(⟨x.kind,[]⟩:aU)]).length] 39
    let H1:Z (Nat×B):=ug (ug ((nx,.row [.i6 x.kind,.nils] 79)::ug h Km Bm) Kv V1) K7 R1
    change BT _ _ _ _ (Sg.mk H1 (nx+1));have g7:gt (ug ((nx,.row [.i6 x.kind,.nils] 79)::ug h Km Bm) Kv V1) K7=some (.row [.vl Kv s.2.length 0 s.2.length] 39):=by rw[c7,if_neg (Ne.symm n3),aQ,if_neg (by omega),c7,if_neg n1];exact v.k7
    have hH1:∀k,k<nx->k≠Km->k≠K7->k≠Kv->gt H1 k=gt h k:=fun k k0 k1 k2 k3=>by simp only[H1];rw[c7,if_neg (Ne.symm k2),c7,if_neg (Ne.symm k3),aQ,if_neg (by omega),c7,if_neg (Ne.symm k1)]
    have v1:VI nm N K6 Km K7 Kv K8 s1 H1:=by refine v.to (fun k k1 k2 k3 b hb=>by rw[hH1 k (hw k b hb).1 k1 k2 k3];exact hb) ?_ ?_ ?_ (fun q hq=>?_) (by simp[s1,v.eq]);simp only[H1];rw[c7,if_neg (Ne.symm n1),c7,if_neg (Ne.symm n2),aQ,if_neg (by omega),c7,if_pos rfl,v.km];simp only[Bm,s1,zM,z75,v.eq,Nat.zero_add,zU,zO,zS];simp only[H1];rw[c7,if_pos rfl,g7];simp[R1,s1];simp only[H1];rw[c7,if_neg n3,c7,if_pos rfl,tS];simp[V1,s1,B.bv];rcases yD.1 hq with hq |hq;exact v.lt q hq;simp at hq;subst hq;exact hp
    haveI:eK H1 (nm p) (.row [.i6 x.kind,.iM (bX nm) x.arcs,po nm x.fw,.i6 x.fwA,.i6 x.mt,.i6 x.mtA,.iM (bX nm) x.more,.i6 x.moA,po nm x.cp,.i6 x.cpA,.bool x.ch,.i6 x.chA] 103):=⟨v1.nd p x hx⟩
    refine goN ?_;refine gV 9 105 2 (nx+2) ?_ (h0:=Nat.le_succ _);have EK:∀k,k<nx->gt ((nx+1,.vec [] 105 2 0)::H1) k=gt H1 k:=fun k hk=>by rw[aQ,if_neg (by omega)]
    refine gL (fun m' tm X=>∃(j st:Nat)(aY:Z aT)(s2:Z Nat×Z aU)(H:Z (Nat×B))(M:Nat),m'=x.arcs.length-j/\j<=x.arcs.length/\W5 (AA N m) (x.arcs.drop j) s2 aY=some rA/\tm=fr 63 [(2,.ptr K7 0 0),(3,.ptr K8 0 0),(8,.i6 (s.2.length:Nat)),(9,.vl (nx+1) st 0 aY.length),(39,.iM (bX nm) x.arcs),(40,.i6 x.arcs.length),(41,.i6 j)]/\X=⟨H,M⟩/\nx+1<M/\VI nm N K6 Km K7 Kv K8 s2 H/\s.2.length<s2.2.length/\gt H (nx+1)=some (.bv dA aY 105 2 st)/\∀k,k<nx->k≠Km->k≠K7->k≠Kv->gt H k=gt h k) (fun tm X=>∃(H:Z (Nat×B))(M:Nat),tm=fr 63 [(2,.ptr K7 0 0),(8,.i6 (s.2.length:Nat)),(9,.iM dA rA.1)]/\X=⟨H,M⟩/\nx+1<M/\VI nm N K6 Km K7 Kv K8 rA.2 H/\s.2.length<rA.2.2.length/\∀k,k<nx->k≠Km->k≠K7->k≠Kv->gt H k=gt h k) x.arcs.length
     ⟨0,0,[],s1,_,nx+2,rfl,Nat.zero_le _,hA,rfl,rfl,zN _,v.low hw v1 EK,by simp[s1],by simp[aQ],fun k k0 k1 k2 k3=>by rw[EK k k0];exact hH1 k k0 k1 k2 k3⟩ ?_ ?_ (by show nx<=nx+2;omega)
    rintro _ _ ⟨H,M,rfl,rfl,hM,v2,aH,fP⟩;have hKk:∃nd,rA.2.2[s.2.length]? = some nd:=⟨_,List.getElem?_eq_getElem aH⟩;obtain⟨nd,mZ⟩:=hKk;have H_:JG rA.2.2 s.2.length rA.1=rA.2.2.set s.2.length ⟨nd.Typex,rA.1⟩:=by unfold JG;rw[mZ]
    haveI:eK H K7 (.row [.vl Kv rA.2.2.length 0 rA.2.2.length] 39):=⟨v2.k7⟩
    have hv:mK (Sg.mk H M) Kv rA.2.2.length=some ((rA.2.2.map bD).flatten,79,2):=by simp[mK,v2.kv,B.bv]
    have lH:aC rA.2.2 ((s.2.length:Nat):Int)=some nd:=by rw[aC,if_pos ⟨by omega,by omega⟩];simpa using mZ
    refine goN ?_;refine RS.w rfl (fA rfl rfl (pS bD tC.h (bZ rP.h) (by decide) (fun _=>rfl) hv lH)) ?_;refine RS.w rfl (y9 EY.h rfl (bZ Z6.h) rfl (Eb v2.kv) rfl) ?_;have jS:nR rA.2.2 0 rA.2.2.length ((s.2.length:Nat):Int)=some nd:=by rw[nR,if_pos ⟨by omega,by omega⟩];simpa using mZ
    refine RS.wn rfl (st_vf (X:=⟨H,M⟩) (y:=(⟨nd.Typex,rA.1⟩:aU)) bD (bZ Z6.h) (fun _=>rfl) rfl rfl rfl rfl rfl v2.kv jS rfl rfl) ?_;refine goN ?_;have NO:∀k,k≠Kv->gt (ug H Kv (.vec ((rA.2.2.set (0+((s.2.length:Nat):Int).toNat) ⟨nd.Typex,rA.1⟩).map bD).flatten 79 2 rA.2.2.length)) k=gt H k:=fun k hk=>by rw[c7,if_neg (Ne.symm hk)]
    have v4:VI nm N K6 Km K7 Kv K8 (rA.2.1,JG rA.2.2 s.2.length rA.1) (ug H Kv (.vec ((rA.2.2.set (0+((s.2.length:Nat):Int).toNat) ⟨nd.Typex,rA.1⟩).map bD).flatten 79 2 rA.2.2.length)):=by refine v2.to (fun k k1 k2 k3 b hb=>by rw[NO k k3];exact hb) (by rw[NO _ n2];exact v2.km) (by rw[NO _ n3,v2.k7];simp only[qf]) ?_ v2.lt (by simp only[qf];exact v2.eq);rw[c7,if_pos rfl,v2.kv];simp[B.bv,H_]
    exact Xn (w:=.i6 (s.2.length:Nat)) (X2:=⟨vH nm Km K7 Kv (rA.2.1,JG rA.2.2 s.2.length rA.1) h,nx⟩) rfl rfl rfl (zF _) (OZ v hw (by show nx<=M;omega) v4 (fun k k0 k1 k2 k3=>by rw[NO k k3];exact fP k k0 k1 k2 k3) (by simp[aF,aP])) ⟨rfl,rfl⟩;rintro _ _ _ ⟨j,st,aY,s2,H,M,rfl,hj,KU,rfl,rfl,hM,v2,aH,hga,fP⟩;refine WPU.wf fun mO _=>?_
    haveI:SuC M (M+1):=⟨rfl⟩
    refine goN ?_;refine dS rfl (fun h9=>?_) (fun h9=>?_)
    ·have gZ:j<x.arcs.length:=by simpa using h9
     obtain⟨a,ha⟩:∃a,x.arcs[j]? = some a:=⟨_,List.getElem?_eq_getElem gZ⟩;have yW:aC x.arcs (j:Int)=some a:=by rw[aC,if_pos ⟨by omega,by omega⟩];simpa using ha
     have HG:x.arcs.drop j=a::x.arcs.drop (j+1):=by rw[List.drop_eq_getElem_cons gZ];rw[List.getElem?_eq_getElem gZ]at ha;cases ha;rfl
     have yQ:IntKind.i64.wrap ((j:Int)+1)=((j+1:Nat):Int):=by rw[oA (by omega) (by omega)];rfl
     rw[HG]at KU;obtain⟨oF,KU⟩:=cQ KU;obtain⟨r3,CU,KU⟩:=aL KU;have kY:=fE.arcs a (zX ha);obtain⟨t1,t2,t3⟩:=tw wf m _ _ _ CU kY v2.lt v2.eq;have v3:VI nm N K6 Km K7 Kv K8 s2 ((M,.row (bX nm a) 107)::H):=v.low hw v2 fun k hk=>by rw[aQ,if_neg (by omega)]
     haveI:eK ((M,.row (bX nm a) 107)::H) K8 (.row [.fn (.func 43) [] [.ptr K6 0 0,.ptr K7 0 0,.ptr K8 0 0]] 109):=⟨v3.k8⟩
     refine goN ?_;apply aR;refine goN ?_;refine aW yW ?_;refine goN ?_;refine dE [(0,6),(0,8),(1,6),(2,6)] ?_;refine cU ?_;refine ET rfl (FY rfl rfl OF rfl rfl (by simp)) (qvb m v3 wf kY CU) rfl rfl ?_;have V?:M≠Km/\M≠K7/\M≠Kv:=⟨by omega,by omega,by omega⟩;have U?:nx+1≠Km/\nx+1≠K7/\nx+1≠Kv:=⟨by omega,by omega,by omega⟩
     haveI:eK (vH nm Km K7 Kv r3.2 ((M,.row (bX nm a) 107)::H)) M (.row (bX nm a) 107):=⟨by rw[Dj V?.1 V?.2.1 V?.2.2,aQ,if_pos rfl]⟩
     haveI:SuC (M+1) (M+2):=⟨rfl⟩
     haveI:Nq (M+1) M:=⟨by rw[beq_eq];simp⟩
     refine cU ?_;refine fO ?_;have Tw:gt ((M+1,.row [.i6 a.f,.i6 (r3.1:Nat)] 105)::vH nm Km K7 Kv r3.2 ((M,.row (bX nm a) 107)::H)) (nx+1)=some (.vec (aY.map dA).flatten 105 2 st):=by rw[aQ,if_neg (by omega),Dj U?.1 U?.2.1 U?.2.2,aQ,if_neg (by omega)];exact hga
     have K_:rowOf (Sg.mk ((M+1,.row [.i6 a.f,.i6 (r3.1:Nat)] 105)::vH nm Km K7 Kv r3.2 ((M,.row (bX nm a) 107)::H)) (M+2)) (M+1)=some [.i6 a.f,.i6 (r3.1:Nat)]:=by simp[rowOf,aQ]
     refine RD.act rfl (rN rfl rfl rfl rfl (C0 dA [⟨a.f,(r3.1:Nat)⟩] lZ.h lZ.h jI.h rfl (fun _=>rfl) Tw (E8 dA [⟨a.f,(r3.1:Nat)⟩] (q:=[.i6 a.f,.i6 (r3.1:Nat)]) K_ rfl rfl rfl) ⟨by simp;omega,by simp;omega⟩)) rfl rfl ?_;refine cU ?_;refine bN ⟨by kernel_rfl,⟨mW rfl,mW rfl,opm,opm,trivial⟩,?_⟩;refine goN ?_;have oQ:∀k,k<nx->gt (ug ((M+1,.row [.i6 a.f,.i6 (r3.1:Nat)] 105)::vH nm Km K7 Kv r3.2 ((M,.row (bX nm a) 107)::H)) (nx+1) (.vec ((aY++[(⟨a.f,(r3.1:Nat)⟩:aT)]).map dA).flatten 105 2 (st+1))) k=gt (vH nm Km K7 Kv r3.2 ((M,.row (bX nm a) 107)::H)) k:=fun k hk=>by rw[c7,if_neg (by omega),aQ,if_neg (by omega)]
     refine⟨x.arcs.length-(j+1),_,_,by omega,⟨j+1,st+1,aY++[⟨a.f,(r3.1:Nat)⟩],r3.2,_,M+2,rfl,gZ,KU,rfl,rfl,by omega,v.low hw (v3.vh t1 t2) oQ,by omega,?_,fun k k0 k1 k2 k3=>?_⟩,by show nx<=M+2;omega,Gh.sub ?_⟩;rw[c7,if_pos rfl,Tw];rfl;rw[oQ k k0,Dj k1 k2 k3,aQ,if_neg (by omega)];exact fP k k0 k1 k2 k3
     ·rw[<-yQ];(repeat refine⟨rfl,?_⟩);exact trivial
    ·refine goN ?_;have gZ:j=x.arcs.length:=by
      have:¬ (j:Int)<x.arcs.length:=by simpa using h9
      omega
     subst gZ;rw[List.drop_length]at KU;obtain rfl:=sI KU;have hz:=vfz v hw v2 fP (Ka:=nx+1) (sz:=2) (b:=.bv dA aY 105 2 st) (Nat.le_succ _);refine⟨_,⟨_,M⟩,⟨_,M,rfl,rfl,hM,v.low hw v2 hz,aH,fun k k0 k1 k2 k3=>by rw[hz k k0];exact fP k k0 k1 k2 k3⟩,by show nx<=M;omega,Gh.trans (Gh.sub (l':=[(2,.ptr K7 0 0),(8,.i6 (s.2.length:Nat)),(9,.vl (nx+1) st 0 aY.length)]) (by((repeat refine⟨rfl,?_⟩);exact trivial))) (Gh.fzS (X:=⟨H,M⟩) (nx+1) (.bv dA aY 105 2 st) 2 hga nofun ?_ rfl)⟩;have e1:=LN (c:=dA) (sz:=2) (fun _=>rfl) aY (nx+1) 2 105 st;simp only[Vx.fzS];rw[e1,LW _ _ _ (show aP (nx+1) (.ptr K7 0 0) by show K7<nx+1;omega)];rfl
   exact this
end
def Bz{h:Z (Nat×B)}{N k:Nat}{l:Z U}{e:O}(hg:gt h k=some (.row l e)):cellsOf (Sg.mk h N) k 0=some l:=by simp[cellsOf,hg]
def DZ(n:Nat)(P:PP)(k:Int):I (GFS×BQ):=
 cond (decide (k<0)) (some (⟨[]⟩,false)) (cond (decide (k>=(P.roots.length:Int))) (some (⟨[]⟩,false)) (a8 (aC P.roots k) fun r=>a8 (AA P.N n r ([],[])) fun s=>some (⟨s.2.2⟩,true)))
section
variable{kp kr st:Nat}{nm:Nat->Nat}{P:PP}{h:Z (Nat×B)}{nx:Nat}
def tf(p:PH kp kr st nm P h)(n:Nat){k:Int}{r:GFS×BQ}(J:DZ n P k=some r):
  aV prog 19 [.ptr kp 0 0,.i6 k] ⟨h,nx⟩ (fun u X'=>u=.tup [.agg (kH r.1),.bool r.2]/\X'=⟨h,nx⟩):=by
 refine aV.wf fun hw _=>?_;have rV:kp<nx:=(hw _ _ p.pool).1;have AX:kr<nx:=(hw _ _ p.roots).1
 haveI:SuC nx (nx+1):=⟨rfl⟩
 haveI:SuC (nx+1) (nx+2):=⟨rfl⟩
 haveI:SuC (nx+2) (nx+3):=⟨rfl⟩
 haveI:SuC (nx+3) (nx+4):=⟨rfl⟩
 haveI:SuC (nx+4) (nx+5):=⟨rfl⟩
 have nq:∀{a b:Nat},b<a->Nq a b:=fun h=>⟨by rw[beq_eq];simp;omega⟩
 haveI:Nq nx kp:=nq rV
 haveI:Nq nx kr:=nq AX
 haveI:=p.gp
 haveI:=p.gr
 have early:∀{H:Z (Nat×B)}{N:Nat},(∀k,k<nx->gt H k=gt h k)->nx<=N->Gh nx [.tup [.agg [.nils],.bool false]] ⟨H,N⟩ [.tup [.agg (kH ⟨[]⟩),.bool false]] ⟨h,nx⟩:=fun hs hN=>(Gh.wk (.cons (.tup (.cons (.agg (.cons (.nil false) .nil)) (.cons (.refl _) .nil))) .nil)).trans (Gh.back hw hs hN (by simp[kH,aF,aP,jO]) (zF _));refine eO 33 D8 ?_;refine goN ?_;unfold DZ at J;cases h1:decide (k<0)with
 |true=>rw[h1]at J;obtain rfl:=sI J;refine goN ?_;refine dS rfl (fun _=>?_) (fun h=>by cases h);refine goN ?_;exact⟨.inr rfl,_,wS (vD rH.h rfl (bZ iU.h) rfl (Bz (by rw[aQ,if_pos rfl])) rfl) (fH rfl fW),_,⟨h,nx⟩,zF _,early (fun k hk=>by rw[aQ,if_neg (by omega)]) (Nat.le_succ _),rfl,rfl⟩
 |false=>
 rw[h1]at J;cases h2:decide (k>=(P.roots.length:Int))with
 |true=>rw[h2]at J;obtain rfl:=sI J;refine goN ?_;refine dS rfl (fun _=>?_) (fun h=>absurd (h2.symm.trans h) nofun);refine goN ?_;exact⟨.inr rfl,_,wS (vD rH.h rfl (bZ iU.h) rfl (Bz (by rw[aQ,if_pos rfl])) rfl) (fH rfl fW),_,⟨h,nx⟩,zF _,early (fun k hk=>by rw[aQ,if_neg (by omega)]) (Nat.le_succ _),rfl,rfl⟩
 |false=>
 rw[h2]at J;obtain⟨ro,eR,s,hs,J⟩:=cB J;obtain rfl:=sI J;refine goN ?_;refine dS rfl (fun h=>absurd (h2.symm.trans h) nofun) (fun _=>?_);refine goN ?_;refine RS.w rfl qz3 ?_;refine goN ?_;refine RS.w rfl (Yi rfl rfl) ?_;refine gnN ?_
 let F8:B:=.row [.fn (.func 43) [] [.ptr (nx+2) 0 0,.ptr (nx+3) 0 0,.ptr (nx+4) 0 0]] 109
 let H0:Z (Nat×B):=(nx+4,F8)::(nx+3,.row [.nils] 39)::(nx+2,.row [.map (nx+1)] 108)::(nx+1,.map [] 0)::(nx,.row [.nils] 39)::h
 change WPU _ _ _ _ (Sg.mk H0 (nx+5)) _;have tS:gt H0 (nx+3)=some (.row [.nils] 39):=by simp[H0,aQ]
 refine dY (ES (X:=⟨H0,nx+5⟩) (nx+3) 0 79 2 (by decide) (by show nx<=nx+5;omega) tS rfl) (by show nx<=nx+6;omega) ?_
 let H1:Z (Nat×B):=(nx+5,.vec [] 79 2 0)::(nx+4,F8)::(nx+3,.row [.vl (nx+5) 0 0 0] 39)::(nx+2,.row [.map (nx+1)] 108)::(nx+1,.map [] 0)::(nx,.row [.nils] 39)::h
 refine WPU.eqv rfl (X':=⟨H1,nx+6⟩) (by simp[H0,H1,newU,ug,beq_eq]) ?_;have oQ:∀k,k<nx->gt H1 k=gt h k:=fun k hk=>by simp only[H1];rw[aQ,if_neg (by omega),aQ,if_neg (by omega),aQ,if_neg (by omega),aQ,if_neg (by omega),aQ,if_neg (by omega),aQ,if_neg (by omega)]
 have v:VI nm P.N (nx+2) (nx+1) (nx+3) (nx+5) (nx+4) ([],[]) H1:=⟨by simp[H1,aQ],by simp[H1,aQ,EL],by simp[H1,aQ],by simp[H1,aQ,B.bv],by simp[H1,aQ,F8],fun i x hx=>by rw[oQ _ (p.lt hw (nJ hx))];exact p.node i x hx,p.inj,nofun,rfl⟩
 haveI:eK H1 (nx+4) F8:=⟨v.k8⟩
 haveI:eK H1 kp (.row [.iM m4 P.H.Types,.iM pA P.H.Feats,.vl kr st 0 P.roots.length,.i6 P.size,.i6 P.gen] 83):=⟨by rw[oQ kp rV];exact p.pool⟩
 have hv:mK (Sg.mk H1 (nx+6)) kr st=some ((P.roots.map (dL nm)).flatten,92,1):=by simp only[mK,oQ kr AX,p.roots,B.bv];simp
 have L_:gt H1 kr=some (.vec (P.roots.map (dL nm)).flatten 92 1 st):=by rw[oQ kr AX];exact p.roots
 obtain⟨t1,t2,t3⟩:=tw p.wf n _ _ _ hs (p.rt ro (zX (Fj eR).2.2)) nofun rfl;refine dE [] ?_;refine cU ?_;refine bM rfl (fA rfl rfl (pS (dL nm) gM.h (bZ iC.h) (by decide) (fun _=>rfl) hv eR)) ?_;refine bM rfl (yG (dL nm) (pt nm) gK.h rfl (fun _=>rfl) rfl L_ eR) ?_;have J_:=p.rt ro (zX (Fj eR).2.2);refine ET rfl (FY rfl rfl OF rfl rfl (by simp)) (qvb n v p.wf J_ hs) rfl rfl ?_;have v2:VI nm P.N (nx+2) (nx+1) (nx+3) (nx+5) (nx+4) s.2 (vH nm (nx+1) (nx+3) (nx+5) s.2 H1):=v.vh t1 t2;have SC:gt (vH nm (nx+1) (nx+3) (nx+5) s.2 H1) nx=some (.row [.nils] 39):=by rw[Dj (by omega) (by omega) (by omega)];simp[H1,aQ]
 haveI:eK (vH nm (nx+1) (nx+3) (nx+5) s.2 H1) (nx+3) (.row [.vl (nx+5) s.2.2.length 0 s.2.2.length] 39):=⟨v2.k7⟩
 haveI:eK (vH nm (nx+1) (nx+3) (nx+5) s.2 H1) nx (.row [.nils] 39):=⟨SC⟩
 refine bN ⟨by kernel_rfl,trivial,?_⟩;refine goN ?_;have hgN:gt (ug (vH nm (nx+1) (nx+3) (nx+5) s.2 H1) nx (.row [.vl (nx+5) s.2.2.length 0 s.2.2.length] 39)) nx=some (.row [.vl (nx+5) s.2.2.length 0 s.2.2.length] 39):=by rw[c7,if_pos rfl,SC];rfl
 refine⟨.inr rfl,_,wS (vD rH.h rfl (bZ iU.h) rfl (Bz hgN) rfl) (fH rfl fW),_,⟨h,nx⟩,zF _,Xi (c:=bD) (xs:=s.2.2) (e:=79) (sz:=2) (K:=nx+5) (st:=s.2.2.length) hw (Nat.le_add_right _ _) (by rw[c7,if_neg (by omega)];exact v2.kv) (fun k hk=>?_) (by show nx<=nx+6;omega) (tm':=[.tup [.agg (kH ⟨s.2.2⟩),.bool true]]) ?_ ?_ (zF _),rfl,rfl⟩;have hk:k<nx:=hk;rw[c7,if_neg (by omega),Dj (by omega) (by omega) (by omega),oQ k hk];have e1:=LN (c:=bD) (sz:=2) (fun _=>rfl) s.2.2 (nx+5) 2 79 s.2.2.length;have e2:∀(b:B)(u v:U),fz (nx+5) b 2 u=v->iX (nx+5) b 2 [U.tup [U.agg [u],U.bool true]]=[U.tup [U.agg [v],U.bool true]]:=fun b u v e=>by simp only[iX,fz,e]
 exact e2 _ _ _ e1;simp only[aF,aP,and_true];exact Nk nx ⟨s.2.2⟩
end
def tI(H:eD):PP:=⟨H,[],[],0,1⟩
def FH(H:eD)(nx:Nat)(h:Z (Nat×B)):Z (Nat×B):=(nx+2,.vec [] 92 1 0)::(nx+1,.row (qN (nx+2) 0 (tI H)) 83)::(nx,.row (m5 H) 27)::h
def z7r(H:eD)(nx:Nat)(h:Z (Nat×B))(nm:Nat->Nat):PH (nx+1) (nx+2) 0 nm (tI H) (FH H nx h):=
 ⟨by simp[FH,aQ],by simp[FH,aQ,tI],fun i x hx=>by simp[tI]at hx,fun i j hi=>by simp[tI]at hi,nofun,nofun⟩
def z5n(H:eD)(h:Z (Nat×B))(nx:Nat):aV prog 12 [.agg (m5 H)] ⟨h,nx⟩ (fun u X'=>u=.ptr (nx+1) 0 0/\X'=⟨FH H nx h,nx+3⟩):=by
 haveI:SuC nx (nx+1):=⟨rfl⟩
 haveI:SuC (nx+1) (nx+2):=⟨rfl⟩
 refine kR 6 Bl ?_;refine goN ?_;refine RS.w (u:=.agg [.iM m4 H.Types,.iM pA H.Feats,.nils,.i6 0,.i6 1]) rfl (QB (qs:=[(0,.agg (m5 H)),(3,.i6 1)]) rfl (by kernel_rfl)) ?_;refine goN ?_;have hg:gt ((nx+1,.row [.iM m4 H.Types,.iM pA H.Feats,.nils,.i6 0,.i6 1] 83)::(nx,.row (m5 H) 27)::h) (nx+1)=some (.row [.iM m4 H.Types,.iM pA H.Feats,.nils,.i6 0,.i6 1] 83):=by rw[aQ,if_pos rfl]
 refine Xn (w:=.ptr (nx+1) 0 0) (X2:=⟨FH H nx h,nx+3⟩) rfl rfl rfl (by show nx<=nx+3;omega) (Gh.trans (ES (X:=⟨(nx+1,.row [.iM m4 H.Types,.iM pA H.Feats,.nils,.i6 0,.i6 1] 83)::(nx,.row (m5 H) 27)::h,nx+2⟩) (nx+1) 2 92 1 (by decide) (by show nx<=nx+2;omega) hg rfl) (Gh.eqv rfl ?_)) ⟨rfl,rfl⟩;simp[newU,ug,beq_eq,FH,qN,tI]
end Go.Proofs
