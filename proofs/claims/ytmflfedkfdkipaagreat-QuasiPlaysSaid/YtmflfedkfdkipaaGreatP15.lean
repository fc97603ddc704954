import Derived.WalkKit
import Derived.Sort.Grow
import Derived.Test.YtmflfedkfdkipaaGreatP14
set_option linter.all false
namespace Go.Proofs
open Go Go.Rx Go.Vx Go.Shelf Go.RowKit Go.Sort Tryz
set_option maxRecDepth 100000
set_option maxHeartbeats 4000000
set_option synthInstance.maxSize 4000
set_option synthInstance.maxHeartbeats 200000
def z4a(Y:Sg):aW prog 110 [.int .u64 0] Y (fun u Y'=>u=.int .i64 0/\Y'=Y):=by refine aW.of_same (vs:=[.int .u64 0]) (cv:=.int .i64 0) rfl (fun m=>by simp[aJ,ren]) rfl (fun m=>by simp[ren]) (fun w=>?_) Y;exact Any.bits_Len (SlLaysF0.n15.bits (P:=prog) (ρ:=Tryz.sortJ_ren) { Tryz.sortJ with }) 0 w qq0 qq0
def Eh(a c:Int)(v v':Value)(w:Nr):Calls prog 74 #[.agg #[.int .i64 a,v],.agg #[.int .i64 c,v']] w fun e w'=>e=.returned (.int .i64 (wrap64 (a-c)))/\∃q os,w'=grow (w.drewN q) os:=by
 go_enter Tryz.func74,Tryz.ntmps74
 go_wp2
 all_goals go_ret
 refine⟨rfl,0,#[.cells #[.int .i64 a,v] 107,.cells #[.int .i64 c,v'] 107],?_⟩;cases w with
 |mk heap tape drawn os output=>
  have e:∀A B:Obj,(heap.push A).push B=heap++ #[A,B]:=fun A B=>by apply Array.ext';simp
  exact congrArg (fun h=>(⟨h,tape,drawn,os,output⟩:Nr)) (e _ _)
def Ei(nm:Nat->Nat)(a b:eC):Fh prog 74 [.agg (bX nm a),.agg (bX nm b)] (wrap64 (a.f-b.f)):=fun vs cargs x hh he m cC w hf=>by
 obtain⟨v0,zl,rfl,h0,he⟩:=he.inv;obtain⟨v1,db,rfl,h1,he⟩:=he.inv;have:=he.nil_inv;subst this;simp only[aC,bX]at h0 h1;obtain⟨p0,rfl,h0,l0,_⟩:=h0;obtain⟨p1,rfl,h1,l1,_⟩:=h1;rcases p0 with _ |⟨x0,_ |⟨y0,_ |_⟩⟩<;>simp at l0;rcases p1 with _ |⟨x1,_ |⟨y1,_ |_⟩⟩<;>simp at l1;simp only[c9,aC,and_true]at h0 h1;obtain⟨rfl,_⟩:=h0;obtain⟨rfl,_⟩:=h1;rw[<-cC.at];simp only[aJ,ren,uB,List.map];exact Eh _ _ _ _ w
def XH:z6t prog 73 74 2:=fun v12 _ enc cf hk h1 hO cb blk off cap d w hc hH hb hs=>
 AnyQ.slices_SortFunc Tryz.sortJ 2 Tryz.isAgg107 Tryz.sizeOf107 enc hk h1 cf hO 74 cb blk off cap d w (enters_of Tryz.func74 qq1 rfl) hc hH hb hs
def No{Y:Sg}{u:U}(hu:w6 tb Y 93 u=some (.i6 0)):aW prog 73 [u,.fn (.func 74) [] []] Y (fun u' Y'=>u'=.tup []/\Y'=Y):=by
 have hins:aW prog 143 [u,.i6 0,.i6 0,.fn (.func 74) [] []] Y (fun u' Y'=>u'=.tup []/\Y'=Y):=by refine Lg 53 UQ ?_;refine goN ?_;refine gL (fun m tm Y'=>tm=fr 53 [(2,.i6 0),(8,.i6 1)]/\Y'=Y) (fun tm Y'=>tm=fr 53 []/\Y'=Y) 0 ⟨rfl,rfl⟩ ?_ ?_ (zF _);rintro _ _ ⟨rfl,rfl⟩;refine⟨.inl rfl,[],rfl,.tup [],_,zF _,Gh.refl _ _ _,rfl,rfl⟩;rintro m _ _ ⟨rfl,rfl⟩;refine goN ?_;refine eG rfl (fun h1=>by cases h1) (fun h1=>?_);refine goN ?_;exact⟨_,_,⟨rfl,rfl⟩,zF _,Gh.sub trivial⟩
 have hpdq:aW prog 109 [u,.i6 0,.i6 0,.i6 0,.fn (.func 74) [] []] Y (fun u' Y'=>u'=.tup []/\Y'=Y):=by refine bg5 148 VB ?_;refine goN ?_;refine gL (fun m tm Y'=>tm=fr 148 [(0,u),(1,.i6 0),(2,.i6 0),(4,.fn (.func 74) [] [])]/\Y'=Y) (fun tm Y'=>False) 0 ⟨rfl,rfl⟩ (fun _ _ h=>h.elim) ?_ (zF _);rintro m _ _ ⟨rfl,rfl⟩;refine goN ?_;apply cE;refine goN ?_;refine eG rfl (fun h1=>?_) (fun h1=>by cases h1);refine goN ?_;refine aK rfl hins UQ ?_;refine goN ?_;refine⟨.inr rfl,[],rfl,.tup [],_,zF _,Gh.refl _ _ _,rfl,rfl⟩
 refine eL 14 Yg ?_;refine goN ?_;refine RS.w rfl (H5 rfl rfl rfl hu) ?_;refine goN ?_;refine RS.w rfl (by exact rfl) ?_;refine aK rfl (z4a _) Zb ?_;refine goN ?_;refine aK rfl hpdq VB ?_;refine goN ?_;refine⟨.inl rfl,[],rfl,.tup [],_,zF _,Gh.refl _ _ _,rfl,rfl⟩
end Go.Proofs
namespace Go.Proofs
open Go Go.Rx Go.Vx Go.Shelf Go.RowKit Go.Sort Tryz
set_option maxRecDepth 20000
set_option maxHeartbeats 4000000
set_option synthInstance.maxSize 4000
set_option synthInstance.maxHeartbeats 200000
def JD(a b:eC):PE:=a.f==b.f&&a.to==b.to
def qza(a b:eC)(h:JD a b=true):a=b:=by cases a;cases b;simpa[JD]using h
def HG(l:X eC):V (X eC):=qv JD (fun a b=>some (wrap64 (a.f-b.f))) l
variable{K:Nat}
def XF{nm:Nat->Nat}{Y:Sg}{t:Nat}{xs ys:X eC}(h:HG xs=some ys)(hg:gt Y.h K=some (.vec (xs.map (bX nm)).flatten 107 2 t)):
  aW prog 73 [.vl K t 0 xs.length,.fn (.func 74) [] []] Y (fun u Y'=>∃H,u=.tup []/\Y'=⟨H,Y.nx⟩/\gt H K=some (.bv (bX nm) ys 107 2 t)/\∀k,k≠K->gt H k=gt Y.h k):=by
 obtain⟨h1,h2,rfl⟩:=d? h;cases xs with
 |nil=>exact(No (ak DA.h hg)).mono fun u s ⟨h3,h4⟩=>⟨Y.h,h3,h4,hg,fun _ _=>rfl⟩
 |cons x xs=>refine aW.mono (aW.sortC0 (encU:=bX nm) (fun _=>rfl) qq3 (fun _=>rfl) XH (x::xs) (qnj qza h2) (fun a b r h=>by cases h;exact Ei nm a b) nofun qq0 hg) fun u s ⟨h3,h4⟩=>⟨_,h3,h4,by rw[bS,if_pos rfl,hg];rfl,fun k hk=>by rw[bS,if_neg (Ne.symm hk)]⟩
def qw0{xs ys:X eC}(h:HG xs=some ys):∀a,a∈ys↔a∈xs:=by obtain⟨h1,h2,rfl⟩:=d? h;intro a;exact(NF _ xs).mem_iff
def qV(nm:Nat->Nat)(x:PN)(u:U):X U:=[.i6 x.kind,u,po nm x.fw,.i6 x.fwA,.i6 x.mt,.i6 x.mtA,.iM (bX nm) x.more,.i6 x.moA,po nm x.cp,.i6 x.cpA,.bool x.ch,.i6 x.chA]
structure PF(kp kr st:Nat)(nm:Nat->Nat)(P:PP)(h:X (Nat×B)):Prop where
 pool:gt h kp=some (.row (rW kr st P) 83)
 node:∀i x,P.N[i]? = some x->∃u,gt h (nm i)=some (.row (qV nm x u) 103)
section
variable{kp kr st:Nat}{nm:Nat->Nat}{P:PP}{h:X (Nat×B)}{nx:Nat}
theorem PF.gp(p:PF kp kr st nm P h):eE h kp (.row [.iM jW P.H.Types,.iM mN P.H.Feats,.vl kr st 0 P.roots.length,.i6 P.size,.i6 P.gen] 83):=⟨p.pool⟩
def PF.gn(p:PF kp kr st nm P h){i:Nat}{x:PN}(hx:P.N[i]? = some x):∃u,eE h (nm i) (.row [.i6 x.kind,u,po nm x.fw,.i6 x.fwA,.i6 x.mt,.i6 x.mtA,.iM (bX nm) x.more,.i6 x.moA,po nm x.cp,.i6 x.cpA,.bool x.ch,.i6 x.chA] 103):=(p.node i x hx).imp fun u h=>⟨h⟩
def z4z(p:PF kp kr st nm P h)(n:Nat){i r:Nat}(O:sV P.N P.gen n i=some r):aW prog 66 [.ptr kp 0 0,pt nm i] ⟨h,nx⟩ (fun u Y'=>u=pt nm r/\Y'=⟨h,nx⟩):=by
 haveI:=p.gp
 refine eL 23 xR ?_;refine goN ?_;refine gL (fun m tm Y=>∃i,sV P.N P.gen m i=some r/\tm=fr 23 [(0,.ptr kp 0 0),(1,pt nm i)]/\Y=⟨h,nx⟩) (fun _ _=>False) n ⟨i,O,rfl,rfl⟩ (fun _ _ h=>h.elim) ?_ (zF _);rintro(_ |m) _ _ ⟨i,O,rfl,rfl⟩;cases O;obtain⟨x,hx,O⟩:=aI O;obtain⟨u,hu⟩:=p.gn hx
 haveI:=hu
 refine goN ?_;apply cE;refine goN ?_;refine dE [] ?_;refine cM ?_;cases hb:x.fwA != P.gen with
 |true=>rw[hb]at O;obtain rfl:=sI O;refine dK rfl (XW hb rfl) xP ?_;refine cM ?_;refine bC ⟨by kernel_rfl,trivial,?_⟩;refine goN ?_;refine eG rfl (fun h1=>?_) (fun h1=>by cases h1);refine goN ?_;exact C1 rfl rfl rfl (zF _) ⟨rfl,rfl⟩
 |false=>rw[hb]at O;obtain⟨q,hq,O⟩:=aI O;refine dK rfl (XW (v:=pt nm q) hb (by rw[hq];rfl)) xP ?_;refine cM ?_;refine bC ⟨by kernel_rfl,trivial,?_⟩;refine goN ?_;refine eG rfl (fun h1=>by cases h1) (fun h1=>?_);refine goN ?_;exact⟨m,_,_,zN _,⟨q,O,rfl,rfl⟩,zF _,Gh.sub (by((repeat refine⟨rfl,?_⟩);exact trivial))⟩
end
def gO(k:Int)(l:X eC):PN:=⟨k,l,none,0,0,0,[],0,none,0,false,0⟩
section
variable{nm nm':Nat->Nat}{n:Nat}
def Ps(h:∀k,k<n->nm' k=nm k){l:X eC}(hl:∀a∈l,a.to<n):l.map (bX nm')=l.map (bX nm):=List.map_congr_left fun a ha=>by simp only[bX,pt,h _ (hl a ha)]
def qqa(h:∀k,k<n->nm' k=nm k){l:X Nat}(hl:∀a∈l,a<n):l.map (dW nm')=l.map (dW nm):=List.map_congr_left fun a ha=>by simp only[dW,pt,h _ (hl a ha)]
def Pc(h:∀k,k<n->nm' k=nm k):∀{o:V Nat},EN n o->po nm' o=po nm o
 |none,_=>rfl|some i,hi=>by simp only[po,pt,h i hi]
def qq9(h:∀k,k<n->nm' k=nm k){x:PN}(w:kF n x):oF nm' x=oF nm x:=by simp only[oF,U.iM];rw[Ps h w.arcs,Ps h w.more,Pc h w.fw,Pc h w.cp]
def EN.le{m:Nat}(h:n<=m):∀{o:V Nat},EN n o->EN m o
 |none,_=>trivial|some i,hi=>Nat.lt_of_lt_of_le hi h
def kF.le{m:Nat}(h:n<=m){x:PN}(w:kF n x):kF m x:=⟨fun a ha=>Nat.lt_of_lt_of_le (w.arcs a ha) h,w.fw.le h,fun a ha=>Nat.lt_of_lt_of_le (w.more a ha) h,w.cp.le h⟩
end
section
variable{kp kr st:Nat}{nm:Nat->Nat}{P:PP}{h:X (Nat×B)}{nx:Nat}
def PH.kpn(p:PH kp kr st nm P h){i:Nat}(hi:i<P.N.length):nm i≠kp:=fun e=>by
 have:=p.node i _ (List.getElem?_eq_getElem hi);rw[e,p.pool]at this;simp at this
def PH.krn(p:PH kp kr st nm P h){i:Nat}(hi:i<P.N.length):nm i≠kr:=fun e=>by
 have:=p.node i _ (List.getElem?_eq_getElem hi);rw[e,p.roots]at this;cases this
def PH.krp(p:PH kp kr st nm P h):kr≠kp:=fun e=>by
 have:=p.roots;rw[e,p.pool]at this;cases this
def PH.setP(p:PH kp kr st nm P h)(s g:Int){H:X (Nat×B)}(h1:gt H kp=some (.row (rW kr st { P with size:=s,gen:=g }) 83))(h2:∀k b,gt h k=some b->k≠kp->gt H k=some b):PH kp kr st nm { P with size:=s,gen:=g } H :=
 ⟨h1,h2 _ _ p.roots p.krp,fun i x hx=>h2 _ _ (p.node i x hx) (p.kpn (zG.1 hx).1),p.inj,p.wf,p.rt⟩
def uA(nm:Nat->Nat)(n K:Nat):Nat->Nat:=fun k=>if k=n then K else nm k
def vE{n:Nat}:∀k,k<n->uA nm n K k=nm k:=fun k hk=>by rw[uA,if_neg qq0]
def Y7{n:Nat}:uA nm n K n=K:=by rw[uA,if_pos rfl]
end
structure PQ(kp kr st:Nat)(nm:Nat->Nat)(P:PP)(c:Nat)(h:X (Nat×B)):Prop where
 pool:gt h kp=some (.row (rW kr st P) 83)
 roots:gt h kr=some (.vec (P.roots.map (dW nm)).flatten 92 1 st)
 node:∀i x,P.N[i]? = some x->i<c->gt h (nm i)=some (.row (oF nm x) 103)
 pend:∀i x,P.N[i]? = some x->c<=i->gt h (nm i)=some (.row (qV nm x .nils) 103)/\x.arcs=[]
 inj:∀i j,i<P.N.length->j<P.N.length->nm i=nm j->i=j
 wf:∀x∈P.N,kF P.N.length x
 rt:∀r∈P.roots,r<P.N.length
section
variable{kp kr st c:Nat}{nm:Nat->Nat}{P:PP}{h:X (Nat×B)}{nx:Nat}
def PH.pq(p:PH kp kr st nm P h):PQ kp kr st nm P P.N.length h:=⟨p.pool,p.roots,fun i x hx _=>p.node i x hx,fun i x hx hc=>absurd (zG.1 hx).1 qq0,p.inj,p.wf,p.rt⟩
def PQ.ph(p:PQ kp kr st nm P c h)(hc:P.N.length<=c):PH kp kr st nm P h:=⟨p.pool,p.roots,fun i x hx=>p.node i x hx (by have:=(zG.1 hx).1;omega),p.inj,p.wf,p.rt⟩
def PQ.row(p:PQ kp kr st nm P c h){i:Nat}{x:PN}(hx:P.N[i]? = some x):∃u,gt h (nm i)=some (.row (qV nm x u) 103):=by rcases Nat.lt_or_ge i c with hi |hi;exact⟨_,p.node i x hx hi⟩;exact⟨_,(p.pend i x hx hi).1⟩
variable{i:Nat}
def PQ.rowL(p:PQ kp kr st nm P c h)(hi:i<P.N.length):∃q,gt h (nm i)=some (.row q 103):=by obtain⟨u,hu⟩:=p.row (List.getElem?_eq_getElem hi);exact⟨_,hu⟩
def PQ.pf(p:PQ kp kr st nm P c h):PF kp kr st nm P h:=⟨p.pool,fun i x hx=>p.row hx⟩
variable{H:X (Nat×B)}
def PQ.more(p:PQ kp kr st nm P c h)(h2:∀k b,gt h k=some b->gt H k=some b):PQ kp kr st nm P c H :=
 ⟨h2 _ _ p.pool,h2 _ _ p.roots,fun i x hx hc=>h2 _ _ (p.node i x hx hc),fun i x hx hc=>⟨h2 _ _ (p.pend i x hx hc).1,(p.pend i x hx hc).2⟩,p.inj,p.wf,p.rt⟩
def PQ.kpn(p:PQ kp kr st nm P c h)(hi:i<P.N.length):nm i≠kp:=fun e=>by
 obtain⟨q,hq⟩:=p.rowL hi;rw[e,p.pool]at hq;simp at hq
def PQ.krn(p:PQ kp kr st nm P c h)(hi:i<P.N.length):nm i≠kr:=fun e=>by
 obtain⟨q,hq⟩:=p.rowL hi;rw[e,p.roots]at hq;cases hq
def PQ.krp(p:PQ kp kr st nm P c h):kr≠kp:=fun e=>by
 have:=p.roots;rw[e,p.pool]at this;cases this
def PQ.lt(p:PQ kp kr st nm P c h)(hw:oH ⟨h,nx⟩)(hi:i<P.N.length):nm i<nx:=by obtain⟨q,hq⟩:=p.rowL hi;exact(hw _ _ hq).1
def PQ.setP(p:PQ kp kr st nm P c h)(s:Int):PQ kp kr st nm { P with size:=s } c (ug h kp (.row (rW kr st { P with size:=s }) 83)):=by
 have h2:∀k,k≠kp->gt (ug h kp (.row (rW kr st { P with size:=s }) 83)) k=gt h k:=fun k hk=>by rw[bS,if_neg (Ne.symm hk)]
 refine⟨by rw[bS,if_pos rfl,p.pool];rfl,by rw[h2 _ p.krp];exact p.roots,fun i x hx hc=>?_,fun i x hx hc=>?_,p.inj,p.wf,p.rt⟩;rw[h2 _ (p.kpn (zG.1 hx).1)];exact p.node i x hx hc;rw[h2 _ (p.kpn (zG.1 hx).1)];exact p.pend i x hx hc
def PQ.upd(p:PQ kp kr st nm P c h){c':Nat}{x y:PN}(hx:P.N[i]? = some x)(hi:i<c')(hc:∀j,j≠i->(j<c↔j<c'))(hy:kF P.N.length y)(h1:gt H (nm i)=some (.row (oF nm y) 103))(h2:∀k b,gt h k=some b->k≠nm i->gt H k=some b):PQ kp kr st nm { P with N:=P.N.set i y } c' H:=by
 have lS:i<P.N.length:=(zG.1 hx).1;have key:∀j z,(P.N.set i y)[j]? = some z->j≠i->P.N[j]? = some z/\nm j≠nm i:=fun j z hz hj=>by rw[List.getElem?_set,if_neg (Ne.symm hj)]at hz;exact⟨hz,fun e=>hj (p.inj _ _ (zG.1 hz).1 lS e)⟩
 refine⟨h2 _ _ p.pool (Ne.symm (p.kpn lS)),h2 _ _ p.roots (Ne.symm (p.krn lS)),fun j z hz hj=>?_,fun j z hz hj=>?_,fun a b ha hb=>p.inj a b (by simpa using ha) (by simpa using hb),fun z hz=>?_,fun r hr=>by simpa using p.rt r hr⟩;by_cases e:j=i;subst e;have hz:(P.N.set j y)[j]? = some z:=hz;rw[List.getElem?_set,if_pos rfl,if_pos lS]at hz;cases hz;exact h1;obtain⟨k1,k2⟩:=key j z hz e;exact h2 _ _ (p.node j z k1 ((hc j e).2 hj)) k2;have e:j≠i:=by omega
 obtain⟨k1,k2⟩:=key j z hz e;have h3:=p.pend j z k1 (by have:=hc j e;omega);exact⟨h2 _ _ h3.1 k2,h3.2⟩;have aQ:(P.N.set i y).length=P.N.length:=by simp
 show kF (P.N.set i y).length z;rw[aQ];rcases List.mem_or_eq_of_mem_set hz with hz |rfl;exact p.wf z hz;exact hy
def qx6{nm':Nat->Nat}{n:Nat}(h:∀k,k<n->nm' k=nm k){x:PN}(w:kF n x)(u:U):qV nm' x u=qV nm x u:=by simp only[qV,U.iM];rw[Ps h w.more,Pc h w.fw,Pc h w.cp]
def PQ.add(p:PQ kp kr st nm P c h)(hw:oH ⟨h,nx⟩)(hc:c<=P.N.length)(k:Int)(h1:gt H nx=some (.row (qV (uA nm P.N.length nx) (gO k []) .nils) 103))(h2:∀k b,gt h k=some b->gt H k=some b):PQ kp kr st (uA nm P.N.length nx) { P with N:=P.N++[gO k []] } c H:=by
 have aE:∀i,i<P.N.length->nm i<nx:=fun i hi=>p.lt hw hi;have aQ:(P.N++[gO k []]).length=P.N.length+1:=by simp
 have key:∀i x,(P.N++[gO k []])[i]? = some x->(i<P.N.length/\P.N[i]? = some x)\/(i=P.N.length/\x=gO k []):=fun i x hx=>by
  rcases Nat.lt_or_ge i P.N.length with hi |hi;rw[List.getElem?_append_left hi]at hx;exact .inl ⟨hi,hx⟩;have lS:=(zG.1 hx).1;have:i=P.N.length:=by omega
  subst this;rw[List.getElem?_append_right (zF _)]at hx;simp at hx;exact .inr ⟨rfl,hx.symm⟩
 refine⟨h2 _ _ p.pool,?_,fun i x hx hi=>?_,fun i x hx hi=>?_,fun i j hi hj e=>?_,fun x hx=>?_,fun r hr=>?_⟩;rw[h2 _ _ p.roots];show some (B.vec (P.roots.map _).flatten _ _ _)=some (B.vec (P.roots.map _).flatten _ _ _);rw[qqa (nm:=nm) (vE (nm:=nm)) p.rt];rcases key i x hx with⟨h3,h4⟩|⟨rfl,rfl⟩;rw[vE i h3,h2 _ _ (p.node i x h4 hi),qq9 vE (p.wf x (zX h4))];omega;rcases key i x hx with⟨h3,h4⟩|⟨rfl,rfl⟩;rw[vE i h3,h2 _ _ (p.pend i x h4 hi).1,qx6 vE (p.wf x (zX h4))];exact⟨rfl,(p.pend i x h4 hi).2⟩;rw[Y7];exact⟨h1,rfl⟩;have hi:i<(P.N++[gO k []]).length:=hi;have hj:j<(P.N++[gO k []]).length:=hj;rw[aQ]at hi hj;rcases Nat.lt_succ_iff_lt_or_eq.1 hi with hi |rfl<;>rcases Nat.lt_succ_iff_lt_or_eq.1 hj with hj |rfl;rw[vE i hi,vE j hj]at e;exact p.inj i j hi hj e;rw[vE i hi,Y7]at e;have:=aE i hi;omega;rw[vE j hj,Y7]at e;have:=aE j hj;omega;rfl;show kF (P.N++[gO k []]).length x;rw[aQ];rcases yD.1 hx with hx |hx;exact(p.wf x hx).le (Nat.le_succ _);simp at hx;subst hx;exact⟨nofun,trivial,nofun,trivial⟩;show r<(P.N++[gO k []]).length;rw[aQ];exact Nat.lt_succ_of_lt (p.rt r hr)
end
end Go.Proofs
namespace Go.Proofs
open Go Go.Rx Go.Vx Tryz
set_option maxRecDepth 20000
set_option maxHeartbeats 4000000
set_option synthInstance.maxSize 4000
set_option synthInstance.maxHeartbeats 200000
def SS(g:Int):X Nat->X PN->Int->V (X PN×Int)
 |[],N,s=>some (N,s)|p::l,N,s=>a8 N[p]? fun x=>cond (yQ g x)
   (SS g l ((N++[gO (gP g x) []]).set p { x with cp:=some N.length,cpA:=g }) (IntKind.i64.wrap (s+1)))
   (SS g l (N.set p { x with cp:=some p,cpA:=g }) s)
def G4(g:Int)(x:PN):V Nat:=cond (x.cpA != g) none x.cp
def VZ(N:X PN)(g:Int)(n:Nat):X eC->X eC->V (X eC)
 |[],d=>some d|a::l,d=>a8 (sV N g n a.to) fun r=>a8 N[r]? fun y=>a8 (G4 g y) fun q=>aF (d.length<=1000000) (VZ N g n l (d++[⟨a.f,q⟩]))
def OJ(g:Int)(n:Nat):X Nat->X PN->Nat->V (X PN)
 |[],N,c=>aF (c=N.length) (some N)|p::l,N,c=>a8 N[p]? fun x=>a8 (G4 g x) fun q=>cond (Nat.beq q p) (OJ g n l N c)
   (a8 N[q]? fun y=>aF (q=c/\p<c/\(bV g x).length<=1000000) (a8 (VZ N g n (bV g x) []) fun d=>a8 (HG d) fun d'=>OJ g n l (N.set q { y with arcs:=d' }) (c+1)))
def Ga(g:Int)(n:Nat)(N:X PN)(s:Int)(i:Nat):V (Nat×X PN×Int):=
 a8 (VY N g n n 0 [i]) fun l=>a8 (Lo g n l N) fun N1=>a8 (SS g l N1 s) fun r=>a8 (OJ g n l r.1 N.length) fun N3=>a8 N3[i]? fun x=>a8 (G4 g x) fun q=>some (q,N3,r.2)
section
variable{kp kr st c:Nat}{nm:Nat->Nat}{P:PP}{h:X (Nat×B)}{nx:Nat}
variable{i:Nat}
variable{x:PN}
def z59(p:PF kp kr st nm P h)(hx:P.N[i]? = some x):aW prog 70 [.ptr kp 0 0,pt nm i] ⟨h,nx⟩ (fun u Y'=>u=.i6 (gP P.gen x)/\Y'=⟨h,nx⟩):=by
 haveI:=p.gp
 obtain⟨u,hu⟩:=p.gn hx
 haveI:=hu
 refine eL 25 xQ ?_;refine goN ?_;refine dE [] ?_;refine cM ?_;refine dK rfl (fun s=>Xq s x.mt x.mtA P.gen) JA ?_;refine cM ?_;refine bC ⟨by kernel_rfl,trivial,?_⟩;refine goN ?_;refine eG rfl (fun h1=>?_) (fun h1=>?_);refine goN ?_;have h2:(x.mtA != P.gen)=false:=by simpa using h1
 exact C1 rfl rfl rfl (zF _) ⟨by rw[gP,h2];rfl,rfl⟩;refine goN ?_;have h2:(x.mtA != P.gen)=true:=by simpa using h1
 exact C1 rfl rfl rfl (zF _) ⟨by rw[gP,h2];rfl,rfl⟩
def z3z(p:PQ kp kr st nm P c h)(hx:P.N[i]? = some x)(hi:i<c)(hl:(bV P.gen x).length<=1000000):aW prog 72 [.ptr kp 0 0,pt nm i] ⟨h,nx⟩ (fun u Y'=>u=.iM (bX nm) (bV P.gen x)/\Y'=⟨h,nx⟩):=by
 refine aW.wf fun hw _=>?_;have zP:=Ht (nm:=nm) (n:=nx) _ fun a ha=>p.lt hw (NA (g:=P.gen) (p.wf x (zX hx)) a ha);rw[bV,zU]at hl
 haveI:=p.pf.gp
 haveI:eE h (nm i) (.row [.i6 x.kind,.iM (bX nm) x.arcs,po nm x.fw,.i6 x.fwA,.i6 x.mt,.i6 x.mtA,.iM (bX nm) x.more,.i6 x.moA,po nm x.cp,.i6 x.cpA,.bool x.ch,.i6 x.chA] 103):=⟨p.node i x hx hi⟩
 refine eL 26 EH ?_;refine goN ?_;refine dE [] ?_;refine cM ?_;refine dK rfl (fun s=>PM s nm x.more x.moA P.gen) xT ?_;refine cM ?_;refine bC ⟨by kernel_rfl,trivial,?_⟩;refine goN ?_;refine nF rfl (iA rfl D0 rfl).2 (w_ h nx nm x.arcs qq0) rfl rfl ?_;rintro _ _ ⟨rfl,rfl⟩;refine goN ?_;refine RS.w rfl (oAq (c:=bX nm) (xs:=x.arcs) (ys:=gN P.gen x) rfl rfl rfl rfl rfl rfl rfl rfl ⟨by omega,by omega⟩) ?_;refine goN ?_;refine⟨.inr rfl,_,dT rfl eD,_,⟨h,nx⟩,zF _,qt (c:=bX nm) (xs:=bV P.gen x) (e:=107) (sz:=2) (K:=nx) (st:=1) hw (zF _) (by simp[aP,bV]) (fun k hk=>jE hk) (Nat.le_succ _) (tm':=[.iM (bX nm) (bV P.gen x)]) ?_ (by simp only[aG,aT,and_true];exact zP) (zF _),rfl,rfl⟩;exact congrArg (fun u=>[u]) (GX (c:=bX nm) (sz:=2) (fun _=>rfl) (bV P.gen x) nx 2 107 1)
structure pX(kp kr st:Nat)(nm:Nat->Nat)(P:PP)(h:X (Nat×B))(nx:Nat)(nm1:Nat->Nat)(N:X PN)(s:Int)(c:Nat)(H:X (Nat×B))(M:Nat):Prop where
 ph:PQ kp kr st nm1 { P with N:=N,size:=s } c H
 nmE:∀k,k<P.N.length->nm1 k=nm k
 new:∀k,P.N.length<=k->k<N.length->nx<=nm1 k
 fr:∀k,k<nx->k≠kp->(∀i,i<P.N.length->nm i≠k)->gt H k=gt h k
 le:nx<=M
 len:P.N.length<=N.length
 cl:P.N.length<=c
def Pd{g:Int}{q:Nat}(h:G4 g x=some q):(x.cpA != g)=false/\x.cp=some q:=by unfold G4 at h;rcases hb:x.cpA != g with _|_;rw[hb]at h;exact⟨rfl,h⟩;rw[hb]at h;cases h
def Q_{N:X PN}{g:Int}{n:Nat}:∀{l:X eC}{o o2:X Nat},RE N g n l o=some o2->(∀k∈o,k<N.length)->∀k∈o2,k<N.length
 |[],o,o2,h,ho=>by obtain rfl:=sI h;exact ho
 |a::l,o,o2,h,ho=>by
  obtain⟨q,hq,h⟩:=aI h;cases hc:o.contains q with
  |true=>rw[hc]at h;exact Q_ h ho|false=>
   rw[hc]at h;obtain⟨_,h⟩:=c6 h;refine Q_ h fun k hk=>?_;rcases yD.1 hk with hk |hk
   exact ho k hk;simp at hk;subst hk;exact jj hq
def z1c{N:X PN}{g:Int}{n:Nat}:∀{m i:Nat}{o o2:X Nat},VY N g n m i o=some o2->(∀k∈o,k<N.length)->∀k∈o2,k<N.length
 |0,i,o,o2,h,ho=>by cases h
 |m+1,i,o,o2,h,ho=>by
  change cond (decide (i<o.length)) _ _=some o2 at h;cases hb:decide (i<o.length)with
  |false=>rw[hb]at h;obtain rfl:=sI h;exact ho
  |true=>rw[hb]at h;obtain⟨p,_,h⟩:=aI h;obtain⟨x,_,h⟩:=aI h;obtain⟨_,h⟩:=c6 h;obtain⟨o1,h1,h⟩:=aI h;exact z1c h (Q_ h1 ho)
def og{N:X PN}{g:Int}{n m:Nat}(hN:∀x∈N,kF m x):∀{l d d':X eC},VZ N g n l d=some d'->(∀a∈d,a.to<m)->∀a∈d',a.to<m
 |[],d,d',h,hd=>by obtain rfl:=sI h;exact hd
 |a::l,d,d',h,hd=>by
  obtain⟨r,_,h⟩:=aI h;obtain⟨y,hy,h⟩:=aI h;obtain⟨q,hq,h⟩:=aI h;obtain⟨_,h⟩:=c6 h;refine og hN h fun b hb=>?_;rcases yD.1 hb with hb |hb
  exact hd b hb;simp at hb;subst hb;have:=(hN y (zX hy)).cp;rw[(Pd hq).2]at this;exact this
def z97(p:PH kp kr st nm P h)(n:Nat)(hi:i<P.N.length){r:Nat×X PN×Int}(O:Ga P.gen n P.N P.size i=some r):
  aW prog 46 [.ptr kp 0 0,pt nm i] ⟨h,nx⟩ (fun u Y'=>∃H M nm1,u=pt nm1 r.1/\Y'=⟨H,M⟩/\pX kp kr st nm P h nx nm1 r.2.1 r.2.2 r.2.1.length H M/\r.1<r.2.1.length):=by
 refine aW.wf fun tA _=>?_;obtain⟨l,h1,N1,h2,r1,h3,N3,h4,O⟩:=qZ O;obtain⟨x3,h5,q3,h6,O⟩:=bO O;obtain rfl:=sI O;have hl:∀i∈l,i<P.N.length:=z1c h1 (by simpa using hi);obtain⟨rL,_⟩:=c6 h2;refine eL 146 Yp ?_;refine goN ?_;refine aK rfl (z64 p n hi h1) Yi ?_;refine goN ?_;refine nF rfl (iA rfl Yh rfl).2 (z9o p n hl h2) rfl rfl ?_;rintro _ _ ⟨H1,M1,rfl,rfl,nA,mP,wY,xG⟩;refine goN ?_;have c1:pX kp kr st nm P h nx nm N1 P.size P.N.length H1 M1:=⟨by have:=nA.pq;rw[show({ P with N:=N1 }:PP).N.length=P.N.length from mP]at this;exact this,fun _ _=>rfl,fun k a b=>qq0,fun k a _ b=>xG k a b,wY,by omega,zF _⟩;refine gL (fun m tm Y=>∃(t:Nat)(nm1:Nat->Nat)(N:X PN)(s:Int)(H:X (Nat×B))(M:Nat),m=l.length-t/\t<=l.length/\SS P.gen (l.drop t) N s=some r1/\tm=fr 146 [(0,.ptr kp 0 0),(1,pt nm i),(5,.iM (dW nm) l),(27,.iM (dW nm) l),(28,.i6 l.length),(29,.i6 t)]/\Y=⟨H,M⟩/\pX kp kr st nm P h nx nm1 N s P.N.length H M)
  (fun tm Y=>∃(nm1:Nat->Nat)(H:X (Nat×B))(M:Nat),tm=fr 146 [(0,.ptr kp 0 0),(1,pt nm i),(5,.iM (dW nm) l)]/\Y=⟨H,M⟩/\pX kp kr st nm P h nx nm1 r1.1 r1.2 P.N.length H M) l.length
  ⟨0,nm,N1,P.size,H1,M1,rfl,Nat.zero_le _,h3,rfl,rfl,c1⟩ ?_ ?_ wY
 ·rintro _ _ ⟨nm1,H,M,rfl,rfl,hm⟩;refine goN ?_;refine gL (fun m tm Y=>∃(t:Nat)(N:X PN)(c:Nat)(H:X (Nat×B))(M:Nat),m=l.length-t/\t<=l.length/\OJ P.gen n (l.drop t) N c=some N3/\tm=fr 146 [(0,.ptr kp 0 0),(1,pt nm i),(69,.iM (dW nm) l),(70,.i6 l.length),(71,.i6 t)]/\Y=⟨H,M⟩/\pX kp kr st nm P h nx nm1 N r1.2 c H M) (fun tm Y=>∃(H:X (Nat×B))(M:Nat),tm=fr 146 [(0,.ptr kp 0 0),(1,pt nm i)]/\Y=⟨H,M⟩/\pX kp kr st nm P h nx nm1 N3 r1.2 N3.length H M) l.length
   ⟨0,r1.1,P.N.length,H,M,rfl,Nat.zero_le _,h4,rfl,rfl,hm⟩ ?_ ?_ hm.le
  rintro _ _ ⟨H,M,rfl,rfl,hm⟩;obtain⟨hza,py⟩:=Pd h6;have lS:i<N3.length:=(zG.1 h5).1;have LS:=hm.ph.node i x3 h5 lS
  haveI:eE H (nm1 i) (.row [.i6 x3.kind,.iM (bX nm1) x3.arcs,po nm1 x3.fw,.i6 x3.fwA,.i6 x3.mt,.i6 x3.mtA,.iM (bX nm1) x3.more,.i6 x3.moA,po nm1 x3.cp,.i6 x3.cpA,.bool x3.ch,.i6 x3.chA] 103):=⟨LS⟩
  haveI:=hm.ph.pf.gp
  rw[show pt nm i=pt nm1 i by rw[pt,pt,hm.nmE i hi]];refine goN ?_;refine dE [] ?_;refine cM ?_;refine dK rfl (XW (v:=pt nm1 q3) hza (by rw[py];rfl)) xP ?_;refine cM ?_;refine bC ⟨by kernel_rfl,trivial,?_⟩;refine goN ?_;refine C1 rfl rfl rfl hm.le ⟨H,M,nm1,rfl,rfl,hm,?_⟩;have:=(hm.ph.wf x3 (zX h5)).cp;rw[py]at this;exact this;rintro _ _ _ ⟨t,N,c,H,M,rfl,ht,cJ,rfl,rfl,hm⟩;refine goN ?_;refine eG rfl (fun h7=>?_) (fun h7=>?_)
  ·have eW:t<l.length:=by simpa using h7
   obtain⟨q,hq⟩:∃a,l[t]? = some a:=⟨_,List.getElem?_eq_getElem eW⟩;have jX:aB l (t:Int)=some q:=by rw[aB,if_pos ⟨by omega,by omega⟩];simpa using hq
   have vP:l.drop t=q::l.drop (t+1):=by rw[List.drop_eq_getElem_cons eW];rw[List.getElem?_eq_getElem eW]at hq;cases hq;rfl
   have kP:IntKind.i64.wrap ((t:Int)+1)=((t+1:Nat):Int):=by rw[oZ qq0 qq0];rfl
   rw[vP]at cJ;obtain⟨x,hx,cJ⟩:=aI cJ;obtain⟨q2,rJ,cJ⟩:=aI cJ;obtain⟨hca,P5⟩:=Pd rJ;have yX:=hl q (zX hq);have TO:q<c:=Nat.lt_of_lt_of_le yX hm.cl;have vN:dW nm q=dW nm1 q:=by simp only[dW,pt,hm.nmE q yX]
   have LS:=hm.ph.node q x hx TO;have fO:kF N.length x:=hm.ph.wf x (zX hx);have IB:q2<N.length:=by have:=fO.cp;rw[P5]at this;exact this
   have Bt:q<N.length:=(zG.1 hx).1;obtain⟨w1,hw1r⟩:=hm.ph.rowL Bt;obtain⟨w2,hw2r⟩:=hm.ph.rowL IB
   haveI:eE H (nm1 q) (.row [.i6 x.kind,.iM (bX nm1) x.arcs,po nm1 x.fw,.i6 x.fwA,.i6 x.mt,.i6 x.mtA,.iM (bX nm1) x.more,.i6 x.moA,po nm1 x.cp,.i6 x.cpA,.bool x.ch,.i6 x.chA] 103):=⟨LS⟩
   haveI:=hm.ph.pf.gp
   refine goN ?_;apply cE;refine goN ?_;refine cB jX ?_;rw[vN];refine goN ?_;refine dE [] ?_;refine cM ?_;refine dK rfl (XW (v:=pt nm1 q2) hca (by rw[P5];rfl)) xP ?_;refine cM ?_;refine bC ⟨by kernel_rfl,trivial,?_⟩;refine goN ?_;refine D8 rfl (fN.peq tb_ok rfl (.inl rfl) gW.h (bB mO.h) (dQ rfl) (dQ rfl) hw2r hw1r) ?_;rintro _ _ ⟨rfl,rfl⟩;have xK:Nat.beq (nm1 q2) (nm1 q)=Nat.beq q2 q:=by rw[beq_eq,beq_eq];by_cases e:q2=q;simp[e];have:nm1 q2≠nm1 q:=fun h=>e (hm.ph.inj q2 q IB Bt h);simp[e,this]
   rw[if_pos rfl,xK];refine goN ?_;refine eG rfl (fun h8=>?_) (fun h8=>?_)
   ·rw[h8]at cJ;refine goN ?_;refine⟨l.length-(t+1),_,_,by omega,⟨t+1,_,_,_,M,rfl,eW,cJ,rfl,rfl,hm⟩,hm.le,Gh.sub ?_⟩;rw[<-kP];(repeat refine⟨rfl,?_⟩);exact trivial
   rw[h8]at cJ;obtain⟨y,hy,cJ⟩:=aI cJ;obtain⟨⟨rfl,_,lU⟩,cJ⟩:=c6 cJ;obtain⟨d,hd,cJ⟩:=aI cJ;obtain⟨d',bH,cJ⟩:=aI cJ;obtain⟨LQ,Bb⟩:=hm.ph.pend q2 y hy (zF _);refine goN ?_;refine aK rfl (z3z hm.ph hx TO lU) EH ?_;refine goN ?_;refine WPU.wf fun fM bj=>?_;refine dF (BO (nm1 q2) 1 107 2 qq3 hm.le LQ rfl) (Nat.le_succ_of_le hm.le) ?_;have tC:kp<M:=(fM _ _ hm.ph.pool).1;have hyM:nm1 q2<M:=(fM _ _ LQ).1;have hkq:nm1 q2≠kp:=hm.ph.kpn IB;refine gL (fun m tm Y=>∃(j:Nat)(d1:X eC)(s:Nat)(H':X (Nat×B))(M':Nat),m=(bV P.gen x).length-j/\j<=(bV P.gen x).length/\VZ N P.gen n ((bV P.gen x).drop j) d1=some d/\tm=fr 146 [(0,.ptr kp 0 0),(1,pt nm i),(13,pt nm1 q2),(69,.iM (dW nm) l),(70,.i6 l.length),(71,.i6 t),(92,.iM (bX nm1) (bV P.gen x)),(93,.i6 (bV P.gen x).length),(94,.i6 j)]/\Y=⟨H',M'⟩/\M<M'/\gt H' M=some (.bv (bX nm1) d1 107 2 s)/\gt H' (nm1 q2)=some (.row (qV nm1 y (.vl M s 0 d1.length)) 103)/\∀k,k<M->k≠nm1 q2->gt H' k=gt H k)
    (fun tm Y=>∃(s:Nat)(H':X (Nat×B))(M':Nat),tm=fr 146 [(0,.ptr kp 0 0),(1,pt nm i),(13,pt nm1 q2),(69,.iM (dW nm) l),(70,.i6 l.length),(71,.i6 t)]/\Y=⟨H',M'⟩/\M<M'/\gt H' M=some (.bv (bX nm1) d 107 2 s)/\gt H' (nm1 q2)=some (.row (qV nm1 y (.vl M s 0 d.length)) 103)/\∀k,k<M->k≠nm1 q2->gt H' k=gt H k) (bV P.gen x).length
    ⟨0,[],0,_,M+1,rfl,Nat.zero_le _,hd,rfl,rfl,zN _,by rw[bS,if_neg qq0];simp[newU,aP],by rw[bS,if_pos rfl];simp only[newU];rw[aP,if_neg qq0,LQ];rfl,fun k hk jS=>by rw[bS,if_neg (Ne.symm jS)];simp only[newU];rw[aP,if_neg qq0]⟩ ?_ ?_ (Nat.le_succ_of_le hm.le)
   ·rintro _ _ ⟨s,H',M',rfl,rfl,Xg,hv,yT,fG⟩
    haveI:eE H' (nm1 q2) (.row [.i6 y.kind,.vl M s 0 d.length,po nm1 y.fw,.i6 y.fwA,.i6 y.mt,.i6 y.mtA,.iM (bX nm1) y.more,.i6 y.moA,po nm1 y.cp,.i6 y.cpA,.bool y.ch,.i6 y.chA] 103):=⟨yT⟩
    refine goN ?_;refine nF rfl (iA rfl Yg rfl).2 (XF (nm:=nm1) bH hv) rfl rfl ?_;rintro _ _ ⟨H2,rfl,rfl,hv2,OY⟩;refine goN ?_;have IM:d.length=d'.length:=by obtain⟨_,_,rfl⟩:=d? bH;exact(NF _ d).length_eq.symm
    have CW:∀k,k<N.length->nm1 k<M:=fun k hk=>hm.ph.lt fM hk;have E7:kF N.length y:=hm.ph.wf y (zX hy);have gtfz:∀k,k<M->k≠nm1 q2->gt (fzH M (.bv (bX nm1) d' 107 2 s) 2 H2) k=gt H k:=fun k hk jS=>by rw[AO,if_neg qq0,OY k qq0];show Option.map _ (gt H' k)=_;rw[fG k hk jS];rcases hq:gt H k with _|b';rfl;simp only[zM];rw[Hb _ _ (fM k b' hq).2]
    have FW:pX kp kr st nm P h nx nm1 (N.set q2 { y with arcs:=d' }) r1.2 (q2+1) (fzH M (.bv (bX nm1) d' 107 2 s) 2 H2) M':=by refine⟨hm.ph.upd hy (zN _) (fun j hj=>qq0) ⟨fun a ha=>?_,E7.fw,E7.more,E7.cp⟩ ?_ fun k b hb hk=>by rw[gtfz k (fM k b hb).1 hk];exact hb,hm.nmE,fun k a b=>hm.new k a (by simpa using b),fun k a b e=>?_,by have:=hm.le;omega,by simpa using hm.len,Nat.le_succ_of_le hm.cl⟩;exact og hm.ph.wf hd nofun a ((qw0 bH a).1 ha);rw[AO,if_neg qq0,OY _ qq0];show Option.map _ (gt H' (nm1 q2))=_;rw[yT];have e1:=GX (c:=bX nm1) (sz:=2) (fun _=>rfl) d' M 2 107 s;rw[<-IM]at e1;simp only[zM,fzB,qV,sZ,vF,DL,H6,KY,N7 _ _ _ (Gu CW E7.fw),N7 _ _ _ (Gu CW E7.cp)];rw[e1];rfl;rw[gtfz k (by have:=hm.le;omega) fun e2=>by have:=hm.new q2 hm.cl IB;omega];exact hm.fr k a b e
    refine⟨l.length-(t+1),_,_,by omega,⟨t+1,_,q2+1,_,M',rfl,eW,cJ,rfl,rfl,FW⟩,by have:=hm.le;show nx<=M';omega,Gh.trans (Gh.sub ?_) (Gh.fz (Y:=⟨H2,M'⟩) M (.bv (bX nm1) d' 107 2 s) 2 hv2 nofun (tP _ _ _ (YD ?_)) rfl)⟩
    ·rw[<-kP];(repeat refine⟨rfl,?_⟩);exact trivial
    simp only[BelS,aT,and_true,true_and];refine⟨tC,?_,?_⟩;rw[<-hm.nmE i hi];exact CW i (Nat.lt_of_lt_of_le hi hm.len);rw[Hu];intro c hc;obtain⟨a,ha,rfl⟩:=List.mem_map.1 hc;simp only[dW,pt,aG,aT,and_true];rw[<-hm.nmE a (hl a ha)];exact CW a (Nat.lt_of_lt_of_le (hl a ha) hm.len)
   rintro _ _ _ ⟨j,d1,s,H',M',rfl,hj,FN,rfl,rfl,Xg,hv,yT,fG⟩;refine WPU.wf fun mF hbt2=>?_
   haveI:SuC M' (M'+1):=⟨rfl⟩
   haveI:SuC (M'+1) (M'+2):=⟨rfl⟩
   have hpf:PF kp kr st nm1 { P with N:=N,size:=r1.2 } H':=⟨by rw[fG kp tC (Ne.symm hkq)];exact hm.ph.pool,fun k z hz=>by
    by_cases e:k=q2;subst e;have:y=z:=by rw[show N[k]? = some z from hz]at hy;cases hy;rfl
    subst this;exact⟨_,yT⟩;have Kq:k<N.length:=(zG.1 hz).1;rw[fG _ (hm.ph.lt fM Kq) fun e2=>e (hm.ph.inj _ _ Kq IB e2)];exact hm.ph.row hz⟩
   refine goN ?_;refine eG rfl (fun h9=>?_) (fun h9=>?_)
   ·have iD:j<(bV P.gen x).length:=by simpa using h9
    obtain⟨a,ha⟩:∃a,(bV P.gen x)[j]? = some a:=⟨_,List.getElem?_eq_getElem iD⟩;have BG:aB (bV P.gen x) (j:Int)=some a:=by rw[aB,if_pos ⟨by omega,by omega⟩];simpa using ha
    have IL:(bV P.gen x).drop j=a::(bV P.gen x).drop (j+1):=by rw[List.drop_eq_getElem_cons iD];rw[List.getElem?_eq_getElem iD]at ha;cases ha;rfl
    have B4:IntKind.i64.wrap ((j:Int)+1)=((j+1:Nat):Int):=by rw[oZ qq0 qq0];rfl
    rw[IL]at FN;obtain⟨r,hr,FN⟩:=aI FN;obtain⟨z,hz,FN⟩:=aI FN;obtain⟨q4,hq4,FN⟩:=aI FN;obtain⟨IM,FN⟩:=c6 FN;obtain⟨hza,py⟩:=Pd hq4;have Bu:PF kp kr st nm1 { P with N:=N,size:=r1.2 } ((M',.row (bX nm1 a) 107)::H'):=⟨by rw[jE qq0];exact hpf.pool,fun k z hz=>by obtain⟨u,hu⟩:=hpf.node k z hz;exact⟨u,by rw[jE (mF _ _ hu).1];exact hu⟩⟩
    haveI:=Bu.gp
    obtain⟨u5,hu5⟩:=Bu.gn hz
    haveI:=hu5
    refine goN ?_;apply cE;refine goN ?_;refine cB BG ?_;refine goN ?_;refine dE [] ?_;refine cM ?_;refine RD.call rfl (iA rfl xR rfl).2 (z4z Bu n hr) rfl rfl ?_;refine cM ?_;refine dK rfl (XW (v:=pt nm1 q4) hza (by rw[py];rfl)) xP ?_;refine cM ?_;refine bC ⟨by kernel_rfl,trivial,?_⟩;have hyM2:nm1 q2<M':=by omega
    haveI:Nq M' (nm1 q2):=⟨by rw[beq_eq];simp;omega⟩
    haveI:Nq (M'+1) (nm1 q2):=⟨by rw[beq_eq];simp;omega⟩
    haveI:Nq (M'+1) M':=⟨by rw[beq_eq];simp⟩
    haveI:eE H' (nm1 q2) (.row [.i6 y.kind,.vl M s 0 d1.length,po nm1 y.fw,.i6 y.fwA,.i6 y.mt,.i6 y.mtA,.iM (bX nm1) y.more,.i6 y.moA,po nm1 y.cp,.i6 y.cpA,.bool y.ch,.i6 y.chA] 103):=⟨yT⟩
    refine goN ?_;refine dE [(0,9),(0,10),(1,9),(2,9),(3,9),(4,9)] ?_;refine cM ?_;refine eN ?_;have uL:gt ((M'+1,.row [.i6 a.f,pt nm1 q4] 107)::(M',.row (bX nm1 a) 107)::H') M=some (.vec (d1.map (bX nm1)).flatten 107 2 s):=by rw[aP,if_neg qq0,aP,if_neg qq0];exact hv
    refine RD.act rfl (pQ rfl rfl rfl rfl (DN (bX nm1) [⟨a.f,q4⟩] DA.h DA.h CC.h rfl (fun _=>rfl) uL (FE (bX nm1) [⟨a.f,q4⟩] (q:=[.i6 a.f,pt nm1 q4]) (by simp[rowOf,aP]) rfl rfl rfl) ⟨by simp;omega,by simp;omega⟩)) rfl rfl ?_
    let v08:B:=.vec (List.map (bX nm1) (d1++[⟨a.f,q4⟩])).flatten 107 2 (s+1)
    let T:X (Nat×B):=(M'+1,.row [.i6 a.f,pt nm1 q4] 107)::(M',.row (bX nm1 a) 107)::H'
    haveI:eE (ug T M v08) (nm1 q2) (.row [.i6 y.kind,.vl M s 0 d1.length,po nm1 y.fw,.i6 y.fwA,.i6 y.mt,.i6 y.mtA,.iM (bX nm1) y.more,.i6 y.moA,po nm1 y.cp,.i6 y.cpA,.bool y.ch,.i6 y.chA] 103):=⟨by rw[bS,if_neg qq0];simp only[T];rw[aP,if_neg qq0,aP,if_neg qq0];exact yT⟩
    refine cM ?_;refine qM ?_;refine bC ⟨by kernel_rfl,⟨opm,opm,opm,opm,opm,opm,trivial⟩,?_⟩;refine goN ?_;refine⟨(bV P.gen x).length-(j+1),_,_,by omega,⟨j+1,d1++[⟨a.f,q4⟩],s+1,_,M'+2,rfl,iD,FN,rfl,rfl,by omega,?_,?_,fun k hk jS=>?_⟩,by have:=hm.le;show nx<=M'+2;omega,Gh.sub ?_⟩;rw[bS,if_neg qq0,bS,if_pos rfl];show Option.map _ (gt ((M'+1,_)::(M',_)::H') M)=_;rw[uL];rfl;rw[bS,if_pos rfl,bS,if_neg qq0];show Option.map _ (gt ((M'+1,_)::(M',_)::H') (nm1 q2))=_;rw[aP,if_neg qq0,aP,if_neg qq0,yT];rfl;rw[bS,if_neg (Ne.symm jS),bS,if_neg qq0];show gt ((M'+1,_)::(M',_)::H') k=_;rw[aP,if_neg qq0,aP,if_neg qq0];exact fG k hk jS
    ·rw[<-B4];(repeat refine⟨rfl,?_⟩);exact trivial
   ·refine goN ?_;have iD:j=(bV P.gen x).length:=by
     have:¬ (j:Int)<(bV P.gen x).length:=by simpa using h9
     omega
    subst iD;rw[List.drop_length]at FN;obtain rfl:=sI FN;exact⟨_,_,⟨s,H',M',rfl,rfl,Xg,hv,yT,fG⟩,by have:=hm.le;show nx<=M';omega,Gh.sub (by((repeat refine⟨rfl,?_⟩);exact trivial))⟩
  ·refine goN ?_;have eW:t=l.length:=by
    have:¬ (t:Int)<l.length:=by simpa using h7
    omega
   subst eW;rw[List.drop_length]at cJ;obtain⟨hc,cJ⟩:=c6 cJ;obtain rfl:=sI cJ;subst hc;exact⟨_,_,⟨H,M,rfl,rfl,hm⟩,hm.le,Gh.sub (by((repeat refine⟨rfl,?_⟩);exact trivial))⟩
 rintro _ _ _ ⟨t,nm1,N,s,H,M,rfl,ht,cJ,rfl,rfl,hm⟩;refine goN ?_;refine eG rfl (fun h7=>?_) (fun h7=>?_)
 ·have eW:t<l.length:=by simpa using h7
  obtain⟨q,hq⟩:∃a,l[t]? = some a:=⟨_,List.getElem?_eq_getElem eW⟩;have jX:aB l (t:Int)=some q:=by rw[aB,if_pos ⟨by omega,by omega⟩];simpa using hq
  have vP:l.drop t=q::l.drop (t+1):=by rw[List.drop_eq_getElem_cons eW];rw[List.getElem?_eq_getElem eW]at hq;cases hq;rfl
  have kP:IntKind.i64.wrap ((t:Int)+1)=((t+1:Nat):Int):=by rw[oZ qq0 qq0];rfl
  rw[vP]at cJ;obtain⟨x,hx,cJ⟩:=aI cJ;have yX:=hl q (zX hq);have vN:dW nm q=dW nm1 q:=by simp only[dW,pt,hm.nmE q yX]
  have LS:=hm.ph.node q x hx yX
  haveI:eE H (nm1 q) (.row [.i6 x.kind,.iM (bX nm1) x.arcs,po nm1 x.fw,.i6 x.fwA,.i6 x.mt,.i6 x.mtA,.iM (bX nm1) x.more,.i6 x.moA,po nm1 x.cp,.i6 x.cpA,.bool x.ch,.i6 x.chA] 103):=⟨LS⟩
  have gv:nm1 q≠kp:=hm.ph.kpn (zG.1 hx).1
  haveI:Nq (nm1 q) kp:=⟨by rw[beq_eq];simpa using gv⟩
  haveI:Nq kp (nm1 q):=⟨by rw[beq_eq];simpa using gv.symm⟩
  haveI:=hm.ph.pf.gp
  refine goN ?_;apply cE;refine goN ?_;refine cB jX ?_;rw[vN];refine goN ?_;refine dE [] ?_;refine cM ?_;refine dK rfl (fun s=>Dg s x.ch x.chA P.gen) PT ?_;refine cM ?_;refine bC ⟨by kernel_rfl,trivial,?_⟩;refine goN ?_;refine eG rfl (fun h8=>?_) (fun h8=>?_)
  ·rw[show yQ P.gen x=true from h8]at cJ;refine WPU.wf fun fM bj=>?_;have fO:kF N.length x:=hm.ph.wf x (zX hx)
   haveI:SuC M (M+1):=⟨rfl⟩
   have tC:kp<M:=(fM _ _ hm.ph.pool).1;have hqM:nm1 q<M:=(fM _ _ LS).1
   haveI:Nq M kp:=⟨by rw[beq_eq];simp;omega⟩
   haveI:Nq M (nm1 q):=⟨by rw[beq_eq];simp;omega⟩
   refine goN ?_;refine aK rfl (z59 hm.ph.pf hx) xQ ?_;refine goN ?_
   let s':=IntKind.i64.wrap (s+1)
   let R0:B:=.row [.i6 (gP P.gen x),.nils,.nilp,.i6 0,.i6 0,.i6 0,.nils,.i6 0,.nilp,.i6 0,.bool false,.i6 0] 103
   let R1:B:=.row (rW kr st { P with N:=N,size:=s' }) 83
   let x':PN:={ x with cp:=some N.length,cpA:=P.gen }
   change RU _ _ _ _ _ (Sg.mk ((M,R0)::ug H kp R1) (M+1)) _
   haveI:eE (ug H kp R1) kp (.row [.iM jW P.H.Types,.iM mN P.H.Feats,.vl kr st 0 P.roots.length,.i6 s',.i6 P.gen] 83):=⟨by rw[bS,if_pos rfl,hm.ph.pool];rfl⟩
   haveI:eE (ug H kp R1) (nm1 q) (.row [.i6 x.kind,.iM (bX nm1) x.arcs,po nm1 x.fw,.i6 x.fwA,.i6 x.mt,.i6 x.mtA,.iM (bX nm1) x.more,.i6 x.moA,po nm1 x.cp,.i6 x.cpA,.bool x.ch,.i6 x.chA] 103):=⟨by rw[bS,if_neg (Ne.symm gv)];exact LS⟩
   refine goN ?_;have FW:pX kp kr st nm P h nx (uA nm1 N.length M) ((N++[gO (gP P.gen x) []]).set q x') s' P.N.length ((M,.row (qV (uA nm1 N.length M) (gO (gP P.gen x) []) .nils) 103)::ug (ug H kp R1) (nm1 q) (.row (oF (uA nm1 N.length M) x') 103)) (M+1):=by
    have wQ:(N++[gO (gP P.gen x) []])[q]? = some x:=by rw[List.getElem?_append_left (zG.1 hx).1];exact hx
    have hql2:q<N.length:=(zG.1 hx).1;have q1:=hm.ph.add (H:=(M,.row (qV (uA nm1 N.length M) (gO (gP P.gen x) []) .nils) 103)::H) fM hm.len (gP P.gen x) (by simp[aP]) fun k b hb=>by rw[jE (fM k b hb).1];exact hb
    have q2:=q1.setP s';have e0:uA nm1 N.length M q=nm1 q:=vE q hql2;have q3:=q2.upd (i:=q) (c':=P.N.length) (y:=x') (H:=(M,.row (qV (uA nm1 N.length M) (gO (gP P.gen x) []) .nils) 103)::ug (ug H kp R1) (nm1 q) (.row (oF (uA nm1 N.length M) x') 103)) wQ yX (fun _ _=>Iff.rfl) ⟨fun a ha=>?_,?_,fun a ha=>?_,?_⟩ ?_ ?_;refine⟨q3,fun k hk=>by rw[vE k (Nat.lt_of_lt_of_le hk hm.len)];exact hm.nmE k hk,fun k ha hb=>?_,fun k ha hb hc=>?_,Nat.le_succ_of_le hm.le,by simp;exact Nat.le_succ_of_le hm.len,zF _⟩;rw[List.length_set,zU]at hb;rcases Nat.lt_or_ge k N.length with h9 |h9;rw[vE k h9];exact hm.new k ha h9;have:k=N.length:=by simp at hb;omega
    subst this;rw[Y7];exact hm.le;rw[aP,if_neg (by have:=hm.le;omega),bS,if_neg fun e=>hc q yX (by rw[<-hm.nmE q yX];exact e),bS,if_neg (Ne.symm hb)];exact hm.fr k ha hb hc;show a.to<(N++[gO (gP P.gen x) []]).length;simp;exact Nat.lt_succ_of_lt (fO.arcs a ha);show EN (N++[gO (gP P.gen x) []]).length x.fw;exact fO.fw.le qq4;show a.to<(N++[gO (gP P.gen x) []]).length;simp;exact Nat.lt_succ_of_lt (fO.more a ha);show N.length<(N++[gO (gP P.gen x) []]).length;simp;rw[e0,aP,if_neg qq0,bS,if_pos rfl,bS,if_neg (Ne.symm gv),LS];rfl;intro k b hb hk;rw[e0]at hk;by_cases e1:M=k;subst e1;rw[bS,if_neg qq0,aP,if_pos rfl]at hb;rw[aP,if_pos rfl];exact hb;rw[aP,if_neg e1,bS,if_neg (Ne.symm hk),bS];rw[bS]at hb;have e3:=aP M (.row (qV (uA nm1 N.length M) (gO (gP P.gen x) []) .nils) 103) H k;rw[if_neg e1]at e3;rw[e3,aP,if_neg (by omega:¬ M=kp)]at hb;exact hb
   refine⟨l.length-(t+1),_,_,by omega,⟨t+1,_,_,_,_,M+1,rfl,eW,cJ,rfl,rfl,FW⟩,FW.le,Gh.trans (Gh.sub (l':=[(0,.ptr kp 0 0),(1,pt nm i),(5,.iM (dW nm) l),(27,.iM (dW nm) l),(28,.i6 l.length),(29,.i6 ((t+1:Nat):Int))]) ?_) ?_⟩
   ·rw[<-kP];(repeat refine⟨rfl,?_⟩);exact trivial
   have e2:oF (uA nm1 N.length M) x'=[.i6 x.kind,.iM (bX nm1) x.arcs,po nm1 x.fw,.i6 x.fwA,.i6 x.mt,.i6 x.mtA,.iM (bX nm1) x.more,.i6 x.moA,.ptr M 0 0,.i6 P.gen,.bool x.ch,.i6 x.chA]:=by simp only[oF,U.iM,x'];rw[Ps vE fO.arcs,Ps vE fO.more,Pc vE fO.fw];simp only[po,pt,Y7]
   rw[e2];have hgM:∀T:X (Nat×B),gt ((M,R0)::T) M=some R0:=fun T=>by simp[aP]
   have hug:∀(T:X (Nat×B))(b:B),ug ((M,R0)::T) M b=(M,b)::T:=fun T b=>by simp[ug,beq_eq]
   refine(Gh.rowW (Y:=⟨_,M+1⟩) (K:=M) (hgM _) (q':=qV (uA nm1 N.length M) (gO (gP P.gen x) []) .nils) rfl ?_).trans (Gh.eqv rfl ?_);exact .cons (.refl _) (.cons (.refl _) (.cons (.refl _) (.cons (.refl _) (.cons (.refl _) (.cons (.refl _) (.cons (.nil false) (oU.refl _)))))));exact congrArg (fun T=>(⟨T,M+1⟩:Sg)) (hug _ _)
  ·rw[show yQ P.gen x=false from h8]at cJ;refine goN ?_;have fO:kF N.length x:=hm.ph.wf x (zX hx);have FW:pX kp kr st nm P h nx nm1 (N.set q { x with cp:=some q,cpA:=P.gen }) s P.N.length (ug H (nm1 q) (.row (oF nm1 { x with cp:=some q,cpA:=P.gen }) 103)) M:=by refine⟨hm.ph.upd hx yX (fun _ _=>Iff.rfl) ⟨fO.arcs,fO.fw,fO.more,Nat.lt_of_lt_of_le yX hm.len⟩ (by rw[bS,if_pos rfl,LS];rfl) fun k b hb hk=>by rw[bS,if_neg (Ne.symm hk)];exact hb,hm.nmE,fun k a b=>hm.new k a (by simpa using b),fun k a b d=>?_,hm.le,by simpa using hm.len,zF _⟩;rw[bS,if_neg fun e=>d q yX (by rw[<-hm.nmE q yX];exact e)];exact hm.fr k a b d
   refine⟨l.length-(t+1),_,_,by omega,⟨t+1,_,_,_,_,M,rfl,eW,cJ,rfl,rfl,FW⟩,FW.le,Gh.sub ?_⟩;rw[<-kP];(repeat refine⟨rfl,?_⟩);exact trivial
 ·refine goN ?_;have eW:t=l.length:=by
   have:¬ (t:Int)<l.length:=by simpa using h7
   omega
  subst eW;rw[List.drop_length]at cJ;obtain rfl:=sI cJ;exact⟨_,_,⟨nm1,H,M,rfl,rfl,hm⟩,hm.le,Gh.sub (by((repeat refine⟨rfl,?_⟩);exact trivial))⟩
end
end Go.Proofs
namespace Go.Vx
open Go Go.Rx
variable{Y:Sg}
def Gh.rnG{n0 N:Nat}{tm tm':X U}{h':X (Nat×B)}(f:Nat->Nat)(FO:∀k,k<n0->f k=k)(h0:n0<=N)(key:∀k b,gt h' k=some b->k<N/\BelB N b/\gt Y.h (f k)=some (rB f b))(inj:∀k k' b b',gt h' k=some b->gt h' k'=some b'->f k=f k'->k=k')(hl:fB f tm'=tm)(hb:aG N tm'):Gh n0 tm Y tm' ⟨h',N⟩:=fun F x tv hx hr hf he=>by
 subst hx
 let y:Cx:=⟨fun k=>x.I (f k),⟨h',N⟩,x.s⟩
 have hU:RN N f x y:=⟨fun k st off v hk h=>by
   simp only[aC,Ref]at h ⊢;refine⟨h.1,hk,fun b hb=>?_⟩;have:=h.2.2 _ (key k b hb).2.2
   rwa [R5]at this,fun k off m c v hk h=>by
   simp only[aC,Ref]at h ⊢;refine⟨h.1,hk,fun b hb=>?_⟩;have:=h.2.2 _ (key k b hb).2.2
   rwa [R5]at this,fun k st off m v hk h=>by
   simp only[aC]at h ⊢;refine⟨h.1,hk,fun b hb=>?_⟩;have h3:=h.2.2 _ (key k b hb).2.2;rw[R5]at h3;refine⟨h3.1,fun e=>?_⟩;obtain⟨l,e',sz,h4,h5⟩:=h3.2 e;cases b with
   |vec l' e2 s2 st2=>simp only[rB,B.vec.injEq]at h4;exact⟨l',e2,s2,by rw[h4.2.2.2],by rw[h4.2.2.1];exact h5⟩|row=>simp[rB]at h4|map=>simp[rB]at h4,fun k v hk h=>by
   simp only[aC,Ref]at h ⊢;refine⟨h.1,hk,fun b hb=>?_⟩;have:=h.2.2 _ (key k b hb).2.2
   rwa [R5]at this,fun _ _ _ h=>h⟩
 have IQ:∀u,aT n0 u->rU f u=u:=fun u PC=>by
  have:=xn (Z:=id) (κ:=f) (n:=n0) (fun k hk=>FO k hk) u PC
  rwa [Nt]at this
 refine⟨y,fun m w hf=>bT.refl hf,rfl,⟨fun k b hb=>?_,fun k k' b b' i hb cK h1 h2=>?_,hr.bd⟩,fun i b O=>?_,?_,fun u v PC hv=>?_⟩;obtain⟨Kq,hbb,hg⟩:=key k b hb;obtain⟨g1,g2⟩:=hr.ok _ _ hg;exact⟨Kq,nO.unleaf hU hbb rfl (fun _ _ _ h=>h) g2⟩;exact inj k k' b b' hb cK (hr.inj _ _ _ _ i (key k b hb).2.2 (key k' b' cK).2.2 h1 h2);obtain⟨h1,h2⟩:=hf i b O;exact⟨h1,fun k c hc=>h2 _ _ (key k c hc).2.2⟩;exact bA.unleaf hU hb (by rw[hl];exact he);exact aC.unleaf hU u v (aT.le h0 u PC) (by rw[IQ u PC];exact hv)
variable{R:U->Sg->Prop}
def aW.gh{P:DC}{f:FuncId}{args:X U}{R':U->Sg->Prop}(h:aW P f args Y R)(hr:∀u Y',R u Y'->oH Y'->Y.nx<=Y'.nx->∃u' aU,Gh Y.nx [u] Y' [u'] aU/\Y.nx<=aU.nx/\R' u' aU):aW P f args Y R':=fun F x vs m w cargs hx hh fG he dV cC=>
 (h F x vs m w cargs hx hh fG he dV cC).mono fun e w₁ ⟨y,aL,u,v,cv,h1,h2,h3,h4,h5,h6,h7,h8,h9⟩=>by obtain⟨u',aU,g1,g2,g3⟩:=hr _ _ h2 h5.wf (by rw[<-hx];exact h9);obtain⟨z,k1,k2,k3,k4,k5,k6⟩:=g1 F y [v] rfl h5 h6 ⟨⟨h7,trivial⟩,rfl⟩;have aS:=k1 aL w₁ h3.fits;obtain⟨v2,KH,e1,r1,r2⟩:=k5.inv;cases e1;refine⟨z,aL,u',v,cv,h1,by rw[k2];exact g3,h3.trans aS,?_,k3,k4,r1,?_,by rw[k2,hx];exact g2⟩;exact h4.ext (aN.refl _ _) aS.nx;rw[hx]at h8 ⊢;exact h8.trans k6
variable{n:Nat}
variable{f:Nat->Nat}
def z8d(h:∀k,k<n->f k=k)(u:U)(hb:aT n u):rU f u=u:=by
 have:=xn (Z:=id) (κ:=f) (n:=n) h u hb
 rwa [Nt]at this
def nr(h:∀k,k<n->f k=k)(l:X U)(hb:aG n l):fB f l=l:=by
 have:=RY (Z:=id) (κ:=f) (n:=n) h l hb
 rwa [M9]at this
def z21(h:∀k,k<n->f k=k)(l:X (X U))(hb:kJ n l):tK f l=l:=by
 have:=k_ (Z:=id) (κ:=f) (n:=n) h l hb
 rwa [XL]at this
def z8c(h:∀k,k<n->f k=k)(b:B)(hb:BelB n b):rB f b=b:=by
 cases b with
 |row l e=>simp only[rB];rw[nr h l hb]|vec l e s st=>simp only[rB];rw[nr h l hb]
 |map es cl=>simp only[rB,B.map.injEq,and_true];refine(List.map_congr_left (g:=id) fun e he=>?_).trans qq4;have h1:=hb e he;simp only[rM,id];rw[z8d h _ h1.1,z8d h _ h1.2]
section
variable{T:Tb}{n:Nat}{l:X (Nat×U)}{rs:X ResultVar}
def qy{a:Tmp}{t:X ResultVar}{o8 Y2:Sg}{u w:U}(ht:rs=.tmp a::t)(h:bM n l (.tmp a)=some u)(h0:t=[])(hN:o8.nx<=Y2.nx)(hg:Gh o8.nx [u] Y [w] Y2)(hR:R w Y2):
  (Exit.ret=.normal\/Exit.ret=.ret)/\∃l',kZ T Y (fr n l) rs=some l'/\∃u' aU,o8.nx<=aU.nx/\Gh o8.nx [m5 l'] Y [u'] aU/\R u' aU:=by subst ht;subst h0;exact⟨.inr rfl,_,dT h eD,w,Y2,hN,hg,hR⟩
def SU{a b:Tmp}{t:X ResultVar}{o8 Y2:Sg}{u v w:U}(ht:rs=.tmp a :: .tmp b::t)(h:bM n l (.tmp a)=some u)(h':bM n l (.tmp b)=some v)(h0:t=[])(hN:o8.nx<=Y2.nx)(hg:Gh o8.nx [.tup [u,v]] Y [w] Y2)(hR:R w Y2):
  (Exit.ret=.normal\/Exit.ret=.ret)/\∃l',kZ T Y (fr n l) rs=some l'/\∃u' aU,o8.nx<=aU.nx/\Gh o8.nx [m5 l'] Y [u'] aU/\R u' aU:=by subst ht;subst h0;exact⟨.inr rfl,_,dT h (dT h' eD),w,Y2,hN,hg,hR⟩
end
def fN.wf{C:PG}{Y:Sg}{tm:X U}{o:Oper}{R:U->Sg->Prop}(h:oH Y->aG Y.nx tm->fN C Y tm o R):fN C Y tm o R:=fun F x tv m w a next Q fH st hG hn ro eZ=>h (fH ▸ st.h.wf) (fH ▸ st.e.bel) F x tv m w a next Q fH st hG hn ro eZ
def fN.bsf{C:PG}{T:Tb}(hT:j0 C.prog T){h:X (Nat×B)}{nx:Nat}{l:X (Nat×U)}{o:Oper}{t e:TypeId}{k sz b:Nat}{z:Value}{zu cs:X U}{rs:X (X U)}{ps:Zu (Nat×Xt)}{qs:X (Nat×U)}{d:Tmp}(ho:o.op=.buildSlice t k ps)(hd:T.und t=some (.slice e))(hi:T.inf e=some (sz,b,z))(hx:BZ n l ps.toList=some qs)(h1:Nat.ble (k*sz) 16777216=true)(h2:Nat.ble k 16777216=true)(h3:Nat.beq z.cells.toList.length sz=true)(hz:pM z.cells.toList=some zu)(hf:qY (fun i=>some (i*sz,sz)) (wD zu k) qs=some cs)(hk:okL cs=true)(hl:cs.length=k*sz)(hr:bN sz k cs=rs)(he:o.dst=some d)(hdn:Nat.blt d n=true)(hb:aG 0 cs):
  fN C ⟨h,nx⟩ (fr n l) o (fun u Y'=>u=.isl false rs/\Y'=⟨h,nx+1⟩):=fN.wf fun hw _=>by
 subst hr;refine fN.fz hT (s1:=⟨(nx,.row cs e)::h,nx+1⟩) (u1:=.sl nx 0 k k) (by rw[ho];exact yJ hd hi hx h1 h2 h3 hz hf hk) ?_ (zF _) he hdn;have pT:∀k,gt (fzH nx (.row cs e) sz ((nx,.row cs e)::h)) k=gt h k:=fun k=>by rw[AO];by_cases e1:k=nx;rw[if_pos e1];subst e1;rcases hq:gt h k with _|b;rfl;have:k<k:=(hw k b hq).1;omega;rw[if_neg e1,aP,if_neg (Ne.symm e1)];rcases hq:gt h k with _|b;rfl;simp only[zM];rw[Hb _ _ (hw k b hq).2]
 have e2:gU nx (.row cs e) sz [.sl nx 0 k k]=[.isl false (bN sz k cs)]:=by
  have h5:Nat.beq nx nx=true:=by simp
  have h6:0+k*sz<=cs.length:=by omega
  simp only[gU,Vx.fz,h5,zC,h6,if_true,List.drop_zero]
 exact(Gh.fz (Y:=⟨(nx,.row cs e)::h,nx+1⟩) nx (.row cs e) sz (by simp[aP]) nofun e2 rfl).trans (Gh.same (Y:=⟨_,nx+1⟩) h fun k=>(pT k).symm)
end Go.Vx
namespace Go.Proofs
open Go Go.Rx Go.Vx Tryz
set_option maxRecDepth 20000
set_option maxHeartbeats 4000000
set_option synthInstance.maxSize 4000
set_option synthInstance.maxHeartbeats 200000
def FK(nm:Nat->Nat):X PN->Nat->X (Nat×B)
 |[],_=>[]|x::N,i=>(nm i,.row (oF nm x) 103)::FK nm N (i+1)
def cH(kp kr st:Nat)(nm:Nat->Nat)(P:PP)(h:X (Nat×B)):X (Nat×B):=(kp,.row (rW kr st P) 83)::(kr,.bv (dW nm) P.roots 92 1 st)::(FK nm P.N 0++h)
def jH(nm:Nat->Nat)(n nx:Nat):Nat->Nat:=fun i=>if i<n then nm i else nx+(i-n)
variable{n:Nat}
def yK{nm:Nat->Nat}{nx:Nat}:∀k,k<n->jH nm n nx k=nm k:=fun k hk=>by rw[jH,if_pos hk]
def z7k{nm:Nat->Nat}{h:X (Nat×B)}:∀{N:X PN}{s k:Nat}{b:B},gt (FK nm N s++h) k=some b->(∃i x,N[i]? = some x/\nm (s+i)=k/\b=.row (oF nm x) 103)\/((∀i,i<N.length->nm (s+i)≠k)/\gt h k=some b)
 |[],s,k,b,hg=>.inr ⟨fun i hi=>by simp at hi,hg⟩|x::N,s,k,b,hg=>by
  simp only[FK,List.cons_append]at hg;rw[aP]at hg;by_cases e:nm s=k;rw[if_pos e]at hg;cases hg;exact .inl ⟨0,x,rfl,e,rfl⟩;rw[if_neg e]at hg;rcases z7k hg with⟨i,y,h1,h2,h3⟩|⟨h1,h2⟩;exact .inl ⟨i+1,y,h1,by rw[<-h2];congr 1;omega,h3⟩;refine .inr ⟨fun i hi=>?_,h2⟩;cases i with
  |zero=>exact e|succ i=>have:=h1 i (by simpa using hi);rwa [show s+1+i=s+(i+1) by omega]at this
def qqv{nm:Nat->Nat}{h:X (Nat×B)}:∀{N:X PN}{s i:Nat}{x:PN},(∀i j,i<N.length->j<N.length->nm (s+i)=nm (s+j)->i=j)->N[i]? = some x->gt (FK nm N s++h) (nm (s+i))=some (.row (oF nm x) 103)
 |[],s,i,x,_,hx=>by simp at hx
 |y::N,s,0,x,hi,hx=>by simp at hx;subst hx;simp only[FK,List.cons_append,Nat.add_zero];rw[aP,if_pos rfl]
 |y::N,s,i+1,x,hi,hx=>by
  have hx:N[i]? = some x:=by simpa using hx
  have lS:i<N.length:=(zG.1 hx).1;have h1:=qqv (h:=h) (s:=s+1) (fun a b ha hb e=>by have:=hi (a+1) (b+1) (by simpa using ha) (by simpa using hb) (by rw[show s+(a+1)=s+1+a by omega,show s+(b+1)=s+1+b by omega];exact e);omega) hx;simp only[FK,List.cons_append];rw[aP,if_neg fun e=>?_,show s+(i+1)=s+1+i by omega];exact h1;have:=hi 0 (i+1) qq4 (by simpa using lS) e;omega
def qqw{nm:Nat->Nat}{h:X (Nat×B)}{k:Nat}:∀{N:X PN}{s:Nat},(∀i,i<N.length->nm (s+i)≠k)->gt (FK nm N s++h) k=gt h k
 |[],s,_=>rfl|x::N,s,hn=>by
  simp only[FK,List.cons_append];rw[aP,if_neg (show ¬ nm s=k from hn 0 qq4),qqw fun i hi=>?_];have:=hn (i+1) (by simpa using hi)
  rwa [show s+(i+1)=s+1+i by omega]at this
section
variable{kp kr st:Nat}{nm:Nat->Nat}{P:PP}{h:X (Nat×B)}{nx:Nat}
def tx(tC:kp≠kr)(hp:∀i,i<P.N.length->nm i≠kp)(hr:∀i,i<P.N.length->nm i≠kr)(inj:∀i j,i<P.N.length->j<P.N.length->nm i=nm j->i=j)(wf:∀x∈P.N,kF P.N.length x)(rt:∀r∈P.roots,r<P.N.length):PH kp kr st nm P (cH kp kr st nm P h):=by refine⟨by rw[cH,aP,if_pos rfl],by rw[cH,aP,if_neg tC,aP,if_pos rfl],fun i x hx=>?_,inj,wf,rt⟩;have hi:=(zG.1 hx).1;rw[cH,aP,if_neg (Ne.symm (hp i hi)),aP,if_neg (Ne.symm (hr i hi))];have:=qqv (h:=h) (s:=0) (N:=P.N) (nm:=nm) (fun a b ha hb e=>inj a b ha hb (by simpa using e)) hx;simpa using this
def zh{k:Nat}(h1:k≠kp)(h2:k≠kr)(h3:∀i,i<P.N.length->nm i≠k):gt (cH kp kr st nm P h) k=gt h k:=by rw[cH,aP,if_neg (Ne.symm h1),aP,if_neg (Ne.symm h2)];exact qqw (s:=0) fun i hi=>by simpa using h3 i hi
def l_(f:Nat->Nat)(nm nm':Nat->Nat):∀(l:X eC),(∀a∈l,f (nm' a.to)=nm a.to)->tK f (l.map (bX nm'))=l.map (bX nm)
 |[],_=>rfl|a::l,hf=>by simp only[zQ,tK,l_ f nm nm' l fun b hb=>hf b (by simp[hb]),bX,pt,fB,rU,hf a qq4]
def QY(f:Nat->Nat)(nm nm':Nat->Nat)(hf:∀i,i<n->f (nm' i)=nm i):∀{o:V Nat},EN n o->rU f (po nm' o)=po nm o
 |none,_=>rfl|some i,hi=>by simp only[po,pt,rU,hf i hi]
def zac(f:Nat->Nat)(nm nm':Nat->Nat)(hf:∀i,i<n->f (nm' i)=nm i){x:PN}(w:kF n x):fB f (oF nm' x)=oF nm x:=by simp only[oF,fB,rU,U.iM,l_ f nm nm' _ fun a ha=>hf _ (w.arcs a ha),l_ f nm nm' _ fun a ha=>hf _ (w.more a ha),QY f nm nm' hf w.fw,QY f nm nm' hf w.cp]
def z1x(f:Nat->Nat):∀a b:X U,fB f (a++b)=fB f a++fB f b
 |[],b=>rfl|u::a,b=>by simp only[List.cons_append,fB,z1x f a b]
def z1z(f:Nat->Nat)(nm nm':Nat->Nat):∀(l:X Nat),(∀a∈l,f (nm' a)=nm a)->fB f (l.map (dW nm')).flatten=(l.map (dW nm)).flatten
 |[],_=>rfl|a::l,hf=>by simp only[zQ,List.flatten_cons,z1x,z1z f nm nm' l fun b hb=>hf b (by simp[hb]),dW,pt,fB,rU,hf a qq4]
variable{M:Nat}
def z44{nm:Nat->Nat}(hn:∀k,k<n->nm k<M){x:PN}(w:kF n x):aG M (oF nm x):=by simp only[oF,aG,aT,and_true,true_and];exact⟨Ht _ fun a ha=>hn _ (w.arcs a ha),Gu hn w.fw,Ht _ fun a ha=>hn _ (w.more a ha),Gu hn w.cp⟩
variable{bJ:Nat}
def canon{nm1:Nat->Nat}{P1:PP}{H:X (Nat×B)}{tm tm':X U}(p:PH kp kr st nm P h)(hw:oH ⟨h,nx⟩)(p1:PH kp kr bJ nm1 P1 H)(aQ:P.N.length<=P1.N.length)(nmE:∀k,k<P.N.length->nm1 k=nm k)(new:∀k,P.N.length<=k->k<P1.N.length->nx<=nm1 k)(fr:∀k,k<nx->k≠kp->k≠kr->(∀i,i<P.N.length->nm i≠k)->gt H k=gt h k)
  (ht:fB (fun k=>if k<nx then k else nm1 (P.N.length+(k-nx))) tm'=tm) (hb:aG (nx+(P1.N.length-P.N.length)) tm'):
  Gh nx tm ⟨H,M⟩ tm' ⟨cH kp kr bJ (jH nm P.N.length nx) P1 h,nx+(P1.N.length-P.N.length)⟩:=by
 let f:Nat->Nat:=fun k=>if k<nx then k else nm1 (P.N.length+(k-nx))
 have tC:kp<nx:=(hw _ _ p.pool).1;have CP:kr<nx:=(hw _ _ p.roots).1;have CM:∀i,i<P.N.length->nm i<nx:=fun i hi=>p.lt hw hi;have hf:∀i,i<P1.N.length->f (jH nm P.N.length nx i)=nm1 i:=fun i hi=>by
  show(if _ then _ else _)=_;rcases Nat.lt_or_ge i P.N.length with h1 |h1;rw[yK i h1,if_pos (CM i h1),nmE i h1];have e0:jH nm P.N.length nx i=nx+(i-P.N.length):=by rw[jH,if_neg qq0]
  rw[e0,if_neg qq0];congr 1;omega
 have hN:∀i,i<P1.N.length->jH nm P.N.length nx i<nx+(P1.N.length-P.N.length):=fun i hi=>by rcases Nat.lt_or_ge i P.N.length with h1 |h1;rw[yK i h1];have:=CM i h1;omega;rw[jH,if_neg qq0];omega
 have Cr:∀k,k<nx->f k=k:=fun k hk=>by show(if _ then _ else _)=_;rw[if_pos hk]
 have pG:∀k b,gt (cH kp kr bJ (jH nm P.N.length nx) P1 h) k=some b->(k=kp/\b=.row (rW kr bJ P1) 83)\/(k=kr/\b=.bv (dW (jH nm P.N.length nx)) P1.roots 92 1 bJ)\/(∃i x,P1.N[i]? = some x/\jH nm P.N.length nx i=k/\b=.row (oF (jH nm P.N.length nx) x) 103)\/(k≠kp/\k≠kr/\(∀i,i<P.N.length->nm i≠k)/\gt h k=some b):=fun k b hg=>by rw[cH,aP]at hg;by_cases e1:kp=k;rw[if_pos e1]at hg;cases hg;exact .inl ⟨e1.symm,rfl⟩;rw[if_neg e1,aP]at hg;by_cases e2:kr=k;rw[if_pos e2]at hg;cases hg;exact .inr (.inl ⟨e2.symm,rfl⟩);rw[if_neg e2]at hg;rcases z7k hg with⟨i,x,h1,h2,h3⟩|⟨h1,h2⟩;exact .inr (.inr (.inl ⟨i,x,h1,by simpa using h2,h3⟩));refine .inr (.inr (.inr ⟨Ne.symm e1,Ne.symm e2,fun i hi=>?_,h2⟩));have:=h1 i qq0;rw[Nat.zero_add,yK i hi]at this;exact this
 refine Gh.rnG f (fun k hk=>by show(if _ then _ else _)=_;rw[if_pos hk]) (Nat.le_add_right _ _) (fun k b hg=>?_) (fun k k' b b' hg sN e=>?_) ht hb;rcases pG k b hg with⟨rfl,rfl⟩|⟨rfl,rfl⟩|⟨i,x,hx,rfl,rfl⟩|⟨h1,h2,h3,h4⟩;refine⟨by omega,?_,?_⟩;simp only[BelB,rW,aG,aT,and_true,true_and];exact⟨sJ _ (fun q=>Ia _ q) _,sJ _ (fun q=>Rk _ q) _,by omega⟩;have e:f k=k:=by show(if _ then _ else _)=_;rw[if_pos tC]
 have e2:f kr=kr:=by show(if _ then _ else _)=_;rw[if_pos CP]
 rw[e,p1.pool];simp only[rB,rW,fB,rU,U.iM,e2];rw[z21 Cr _ (sJ _ (fun q=>Ia nx q) _),z21 Cr _ (sJ _ (fun q=>Rk nx q) _)];refine⟨by omega,?_,?_⟩;show aG _ (P1.roots.map _).flatten;rw[vG];intro u hu;obtain⟨c,hc,hu⟩:=List.mem_flatten.1 hu;obtain⟨r,hr,rfl⟩:=List.mem_map.1 hc;simp only[dW,List.mem_singleton]at hu;subst hu;exact hN r (p1.rt r hr);have e2:f k=k:=by show(if _ then _ else _)=_;rw[if_pos CP]
 rw[e2,p1.roots];simp only[rB,B.bv];rw[z1z f nm1 _ P1.roots fun a ha=>hf a (p1.rt a ha)];have hi:=(zG.1 hx).1;have fO:=p1.wf x (zX hx);refine⟨hN i hi,z44 hN fO,?_⟩;rw[hf i hi,p1.node i x hx];simp only[rB];rw[zac f nm1 _ hf fO];obtain⟨h5,h6⟩:=hw k b h4;refine⟨by show k<_;have:k<nx:=h5;omega,Hg (Nat.le_add_right _ _) h6,?_⟩;have e:f k=k:=by show(if _ then _ else _)=_;rw[if_pos h5]
 rw[e];show gt H k=_;rw[fr k h5 h1 h2 h3,h4,z8c Cr b h6];have key:∀k b,gt (cH kp kr bJ (jH nm P.N.length nx) P1 h) k=some b->(k<nx/\f k=k)\/∃i,i<P1.N.length/\P.N.length<=i/\jH nm P.N.length nx i=k:=fun k b hg=>by rcases pG k b hg with⟨rfl,rfl⟩|⟨rfl,rfl⟩|⟨i,x,hx,rfl,rfl⟩|⟨h1,h2,h3,h4⟩;exact .inl ⟨tC,by show(if _ then _ else _)=_;rw[if_pos tC]⟩;exact .inl ⟨CP,by show(if _ then _ else _)=_;rw[if_pos CP]⟩;have hi:=(zG.1 hx).1;rcases Nat.lt_or_ge i P.N.length with h7 |h7;rw[yK i h7];exact .inl ⟨CM i h7,by show(if _ then _ else _)=_;rw[if_pos (CM i h7)]⟩;exact .inr ⟨i,hi,h7,rfl⟩;have h5:=(hw k b h4).1;exact .inl ⟨h5,by show(if _ then _ else _)=_;rw[if_pos h5]⟩
 rcases key k b hg with⟨h1,h2⟩|⟨i,h1,h2,rfl⟩<;>rcases key k' b' sN with⟨h3,h4⟩|⟨j,h3,h4,rfl⟩;rw[h2,h4]at e;exact e;rw[h2,hf j h3]at e;have:=new j h4 h3;omega;rw[h4,hf i h1]at e;have:=new i h2 h1;omega;rw[hf i h1,hf j h3]at e;rw[p1.inj i j h1 h3 e]
def qra{nm':Nat->Nat}{n:Nat}(hn:∀k,k<n->nm' k=nm k):∀{N:X PN}{s:Nat},s+N.length<=n->(∀x∈N,kF n x)->FK nm' N s=FK nm N s
 |[],_,_,_=>rfl|x::N,s,hs,hw=>by simp only[FK];rw[hn s (by simp at hs;omega),qq9 hn (hw x qq4),qra hn (by simp at hs;omega) fun y hy=>hw y (by simp[hy])]
def qul{nm':Nat->Nat}{P1:PP}(hn:∀k,k<P1.N.length->nm' k=nm k)(hw:∀x∈P1.N,kF P1.N.length x)(hr:∀r∈P1.roots,r<P1.N.length):cH kp kr bJ nm' P1 h=cH kp kr bJ nm P1 h:=by simp only[cH,B.bv];rw[qra hn qq0 hw,qqa hn hr]
def ig{P1:PP}{H:X (Nat×B)}{tm:X U}(p:PH kp kr st nm P h)(hw:oH ⟨h,nx⟩)(p1:PH kp kr bJ nm P1 H)(aQ:P1.N.length=P.N.length)(fr:∀k,k<nx->k≠kp->k≠kr->(∀i,i<P.N.length->nm i≠k)->gt H k=gt h k)(hb:aG nx tm):
  Gh nx tm ⟨H,M⟩ tm ⟨cH kp kr bJ nm P1 h,nx⟩:=by have h1:=canon (M:=M) (tm:=tm) (tm':=tm) p hw p1 (Nat.le_of_eq aQ.symm) (fun _ _=>rfl) (fun k a b=>qq0) fr (nr (n:=nx) (fun k hk=>by rw[if_pos hk]) tm hb) (by rw[aQ,Nat.sub_self];exact hb);rw[aQ,Nat.sub_self,Nat.add_zero,qul (nm:=nm) (fun k hk=>yK k qq0) p1.wf p1.rt]at h1;exact h1
def z4g{P1:PP}(p:PH kp kr st nm P h)(hw:oH ⟨h,nx⟩)(W8:∀x∈P1.N,kF P1.N.length x)(rt1:∀r∈P1.roots,r<P1.N.length):PH kp kr bJ (jH nm P.N.length nx) P1 (cH kp kr bJ (jH nm P.N.length nx) P1 h):=by
 have tC:kp<nx:=(hw _ _ p.pool).1;have CP:kr<nx:=(hw _ _ p.roots).1;have CM:∀i,i<P.N.length->nm i<nx:=fun i hi=>p.lt hw hi;have hc:∀i,(i<P.N.length/\jH nm P.N.length nx i=nm i)\/(P.N.length<=i/\jH nm P.N.length nx i=nx+(i-P.N.length)):=fun i=>by rcases Nat.lt_or_ge i P.N.length with h1 |h1;exact .inl ⟨h1,yK i h1⟩;exact .inr ⟨h1,by rw[jH,if_neg qq0]⟩
 refine tx (Ne.symm p.krp) (fun i _=>?_) (fun i _=>?_) (fun i j _ _ e=>?_) W8 rt1;rcases hc i with⟨h1,h2⟩|⟨h1,h2⟩;rw[h2];exact p.kpn h1;omega;rcases hc i with⟨h1,h2⟩|⟨h1,h2⟩;rw[h2];exact p.krn h1;omega;rcases hc i with⟨h1,h2⟩|⟨h1,h2⟩<;>rcases hc j with⟨h3,h4⟩|⟨h3,h4⟩;rw[h2,h4]at e;exact p.inj i j h1 h3 e;have:=CM i h1;omega;have:=CM j h3;omega;omega
def qqc{P1:PP}(p:PH kp kr st nm P h)(aQ:P1.N.length=P.N.length)(W8:∀x∈P1.N,kF P1.N.length x)(rt1:∀r∈P1.roots,r<P1.N.length):PH kp kr bJ nm P1 (cH kp kr bJ nm P1 h):=
 tx (Ne.symm p.krp) (fun i hi=>p.kpn qq0) (fun i hi=>p.krn qq0) (fun i j hi hj e=>p.inj i j qq0 qq0 e) W8 rt1
end
end Go.Proofs
namespace Go.Proofs
open Go Go.Rx Go.Vx Tryz
set_option maxRecDepth 20000
def Wf(N:X PN):Prop:=∀x∈N,kF N.length x
structure Sm(N N':X PN):Prop where
 len:N'.length=N.length
 st:∀(i:Nat)(x:PN),N[i]? = some x->∃x':PN,N'[i]? = some x'/\x'.kind=x.kind/\x'.arcs=x.arcs
def Sm.refl(N:X PN):Sm N N:=⟨rfl,fun i x h=>⟨x,h,rfl,rfl⟩⟩
def Sm.trans{N N' N'':X PN}(h:Sm N N')(h':Sm N' N''):Sm N N'':=⟨h'.len.trans h.len,fun i x hx=>by
 obtain⟨y,h1,h2,h3⟩:=h.st i x hx;obtain⟨z,h4,h5,h6⟩:=h'.st i y h1;exact⟨z,h4,h5.trans h2,h6.trans h3⟩⟩
def Sm.set{N:X PN}{i:Nat}{x:PN}(y:PN)(hx:N[i]? = some x)(h1:y.kind=x.kind)(h2:y.arcs=x.arcs):Sm N (N.set i y):=⟨by simp,fun j z hz=>by
 rw[List.getElem?_set];by_cases e:i=j;subst e;rw[hx]at hz;cases hz;exact⟨y,by rw[if_pos rfl,if_pos (zG.1 hx).1],h1,h2⟩;exact⟨z,by rw[if_neg e];exact hz,rfl,rfl⟩⟩
def Wf.set{N:X PN}(h:Wf N){i:Nat}{y:PN}(hy:kF N.length y):Wf (N.set i y):=fun x hx=>by
 rw[List.length_set];rcases List.mem_or_eq_of_mem_set hx with hx |rfl;exact h x hx;exact hy
variable{N:X PN}
variable{i:Nat}
def Wf.at(h:Wf N){x:PN}(hx:N[i]? = some x):kF N.length x:=h x (zX hx)
variable{N':X PN}
def Sm.lt(h:Sm N N'):i<N'.length↔i<N.length:=by rw[h.len]
def oB{x:PN}(h:N[i]? = some x):i<N.length:=(zG.1 h).1
def T'{g:Int}{p:Nat}{mine:X eC}:∀{ys:X eC}{W:X (Nat×Nat)}{N:X PN}{s:X (Nat×Nat)×X PN},OI g p mine ys W N=some s->(∀a∈ys,a.to<N.length)->Sm N s.2/\(Wf N->Wf s.2)
 |[],W,N,s,h,_=>by obtain rfl:=sI h;exact⟨Sm.refl _,id⟩
 |y::ys,W,N,s,h,ha=>by
  rw[OI]at h;cases hb:decide (AA (fun z=>z.f==y.f) mine>=0)with
  |true=>rw[hb]at h;obtain⟨z,_,h⟩:=aI h;obtain⟨_,h⟩:=c6 h;exact T' h fun a h=>ha a (by simp[h])
  |false=>
   rw[hb]at h;obtain⟨x,hx,h⟩:=aI h;obtain⟨_,h⟩:=c6 h;have h1:Sm N (N.set p { x with more:=gN g x++[y],moA:=g }):=Sm.set _ hx rfl rfl;obtain⟨h2,h3⟩:=T' h fun a h=>by rw[h1.len];exact ha a (by simp[h])
   refine⟨h1.trans h2,fun w=>h3 (w.set ?_)⟩;have hw:=w.at hx;refine⟨hw.arcs,hw.fw,fun a h=>?_,hw.cp⟩;rcases yD.1 h with h |h;exact ip hw a h;simp at h;subst h;exact ha a qq4
def xq{H:cZ}{g:Int}{n:Nat}:∀{m:Nat}{W:X (Nat×Nat)}{N:X PN}{r:PE×X PN},JX H g n m W N=some r->Wf N->Sm N r.2/\Wf r.2
 |0,_,_,_,h,_=>by cases h
 |m+1,[],N,r,h,w=>by obtain rfl:=sI h;exact⟨Sm.refl _,w⟩
 |m+1,a::W,N,r,h,w=>by
  obtain⟨p,hp,h⟩:=aI h;obtain⟨q,hq,h⟩:=aI h;cases hb:Nat.beq p q with
  |true=>rw[hb]at h;exact xq h w|false=>
   rw[hb]at h;obtain⟨x,hx,h⟩:=aI h;obtain⟨y,hy,h⟩:=aI h;obtain⟨r1,hr1,h⟩:=aI h;cases hc : !r1.2 with
   |true=>rw[hc]at h;obtain rfl:=sI h;exact⟨Sm.refl _,w⟩
   |false=>rw[hc]at h;obtain⟨_,h⟩:=c6 h;obtain⟨s,hs,h⟩:=aI h;obtain⟨x1,Bd,h⟩:=aI h;obtain⟨y1,Bc,h⟩:=aI h;obtain⟨k1,k2⟩:=T' hs (NA (w.at hy));have w1:=k2 w;have fO:=w1.at Bd;have s2:Sm s.2 (s.2.set p { x1 with mt:=r1.1,mtA:=g }):=Sm.set _ Bd rfl rfl;have w2:Wf (s.2.set p { x1 with mt:=r1.1,mtA:=g }):=w1.set ⟨fO.arcs,fO.fw,fO.more,fO.cp⟩;have E7:=w2.at Bc;have s3:Sm (s.2.set p { x1 with mt:=r1.1,mtA:=g }) ((s.2.set p { x1 with mt:=r1.1,mtA:=g }).set q { y1 with fw:=some p,fwA:=g }):=Sm.set _ Bc rfl rfl;have w3:Wf ((s.2.set p { x1 with mt:=r1.1,mtA:=g }).set q { y1 with fw:=some p,fwA:=g }):=w2.set ⟨E7.arcs,by show p<_;rw[s2.len,k1.len];exact oB hx,E7.more,E7.cp⟩;obtain⟨k3,k4⟩:=xq h w3;exact⟨k1.trans (s2.trans (s3.trans k3)),k4⟩
def z83{g:Int}{n:Nat}:∀{l:X Nat}{N N':X PN},ZQ g n l N=some N'->Wf N->Sm N N'/\Wf N'
 |[],N,N',h,w=>by obtain rfl:=sI h;exact⟨Sm.refl _,w⟩
 |p::l,N,N',h,w=>by obtain⟨x,hx,h⟩:=aI h;rcases hb:Gb N g n x.arcs with _|_;rw[hb]at h;cases h;rw[hb]at h;obtain⟨_,h⟩:=c6 h;have fO:=w.at hx;obtain⟨k1,k2⟩:=z83 h (w.set ⟨fO.arcs,fO.fw,fO.more,fO.cp⟩);exact⟨(Sm.set _ hx (by rfl) (by rfl)).trans k1,k2⟩
def xr{g:Int}:∀{l:X Nat}{ag:PE}{N:X PN}{r:PE×X PN},JY g l ag N=some r->Wf N->Sm N r.2/\Wf r.2
 |[],ag,N,r,h,w=>by obtain rfl:=sI h;exact⟨Sm.refl _,w⟩
 |p::l,ag,N,r,h,w=>by
  obtain⟨x,hx,h⟩:=aI h;cases hb:yQ g x with
  |true=>rw[hb]at h;exact xr h w|false=>rw[hb]at h;obtain⟨_,h⟩:=c6 h;obtain⟨c,hc,h⟩:=aI h;rcases c with _|_;exact xr h w;have fO:=w.at hx;obtain⟨k1,k2⟩:=xr h (w.set ⟨fO.arcs,fO.fw,fO.more,fO.cp⟩);exact⟨(Sm.set _ hx (by rfl) (by rfl)).trans k1,k2⟩
def z84{g:Int}{l:X Nat}:∀{m:Nat}{N N':X PN},ZP g l m N=some N'->Wf N->Sm N N'/\Wf N'
 |0,_,_,h,_=>by cases h
 |m+1,N,N',h,w=>by
  obtain⟨r,hr,h⟩:=aI h;obtain⟨k1,k2⟩:=xr hr w;cases hb:r.1 with
  |true=>rw[hb]at h;obtain⟨k3,k4⟩:=z84 h k2;exact⟨k1.trans k3,k4⟩
  |false=>rw[hb]at h;obtain rfl:=sI h;exact⟨k1,k2⟩
def z5t{g:Int}{n:Nat}{l:X Nat}(h:Lo g n l N=some N')(w:Wf N):Sm N N'/\Wf N':=by obtain⟨_,h⟩:=c6 h;obtain⟨N1,h1,h⟩:=aI h;obtain⟨k1,k2⟩:=z83 h1 w;obtain⟨k3,k4⟩:=z84 h k2;exact⟨k1.trans k3,k4⟩
structure Ex(n:Nat)(N N':X PN):Prop where
 len:N.length<=N'.length
 st:∀(i:Nat)(x:PN),i<n->N[i]? = some x->∃x':PN,N'[i]? = some x'/\x'.kind=x.kind/\x'.arcs=x.arcs
def Ex.refl(n:Nat)(N:X PN):Ex n N N:=⟨zF _,fun i x _ h=>⟨x,h,rfl,rfl⟩⟩
def Ex.trans{n:Nat}{N N' N'':X PN}(h:Ex n N N')(h':Ex n N' N''):Ex n N N'':=⟨Nat.le_trans h.len h'.len,fun i x hi hx=>by
 obtain⟨y,h1,h2,h3⟩:=h.st i x hi hx;obtain⟨z,h4,h5,h6⟩:=h'.st i y hi h1;exact⟨z,h4,h5.trans h2,h6.trans h3⟩⟩
def Sm.ex(h:Sm N N')(n:Nat):Ex n N N':=⟨by rw[h.len];exact zF _,fun i x _ hx=>h.st i x hx⟩
def Wf.add(w:Wf N)(k:Int):Wf (N++[gO k []]):=fun x hx=>by
 have hl:(N++[gO k []]).length=N.length+1:=by simp
 rw[hl];rcases yD.1 hx with hx |hx;exact(w x hx).le (Nat.le_succ _);simp at hx;subst hx;exact⟨nofun,trivial,nofun,trivial⟩
def X'{g:Int}{n:Nat}:∀{l:X Nat}{N:X PN}{s:Int}{r:X PN×Int},SS g l N s=some r->Wf N->Ex n N r.1/\Wf r.1
 |[],N,s,r,h,w=>by obtain rfl:=sI h;exact⟨Ex.refl _ _,w⟩
 |p::l,N,s,r,h,w=>by
  obtain⟨x,hx,h⟩:=aI h;have hp:=oB hx;have fO:=w.at hx;cases hb:yQ g x with
  |false=>rw[hb]at h;obtain⟨k1,k2⟩:=X' (n:=n) h (w.set ⟨fO.arcs,fO.fw,fO.more,hp⟩);exact⟨((Sm.set _ hx (by rfl) (by rfl)).ex n).trans k1,k2⟩
  |true=>
   rw[hb]at h;have wQ:(N++[gO (gP g x) []])[p]? = some x:=by rw[List.getElem?_append_left hp];exact hx
   have w2:=w.add (gP g x);have Be:=w2.at wQ;obtain⟨k1,k2⟩:=X' (n:=n) h (w2.set ⟨Be.arcs,Be.fw,Be.more,by show N.length<_;simp⟩);refine⟨Ex.trans ⟨by simp,fun i z _ hz=>⟨z,by rw[List.getElem?_append_left (oB hz)];exact hz,rfl,rfl⟩⟩ (((Sm.set _ wQ (by rfl) (by rfl)).ex n).trans k1),k2⟩
def V'{g:Int}{n m:Nat}:∀{l:X Nat}{N:X PN}{c:Nat}{N':X PN},OJ g n l N c=some N'->m<=c->Wf N->Ex m N N'/\Wf N'/\N'.length=N.length
 |[],N,c,N',h,_,w=>by obtain⟨_,h⟩:=c6 h;obtain rfl:=sI h;exact⟨Ex.refl _ _,w,rfl⟩
 |p::l,N,c,N',h,hc,w=>by
  obtain⟨x,hx,h⟩:=aI h;obtain⟨q,hq,h⟩:=aI h;cases hb:Nat.beq q p with
  |true=>rw[hb]at h;exact V' h hc w|false=>rw[hb]at h;obtain⟨y,hy,h⟩:=aI h;obtain⟨⟨rfl,_,_⟩,h⟩:=c6 h;obtain⟨d,hd,h⟩:=aI h;obtain⟨d',bH,h⟩:=aI h;have E7:=w.at hy;obtain⟨k1,k2,k3⟩:=V' (m:=m) h (Nat.le_succ_of_le hc) (w.set ⟨fun a ha=>og w hd nofun a ((qw0 bH a).1 ha),E7.fw,E7.more,E7.cp⟩);refine⟨Ex.trans ⟨by simp,fun i z hi hz=>⟨z,?_,rfl,rfl⟩⟩ k1,k2,by rw[k3];simp⟩;rw[List.getElem?_set,if_neg qq0];exact hz
def qvy{g:Int}{n:Nat}{s:Int}{r:Nat×X PN×Int}(h:Ga g n N s i=some r)(w:Wf N):Ex N.length N r.2.1/\Wf r.2.1/\r.1<r.2.1.length:=by obtain⟨l,_,h⟩:=aI h;obtain⟨N1,h1,h⟩:=aI h;obtain⟨r1,h2,h⟩:=aI h;obtain⟨N3,h3,h⟩:=aI h;obtain⟨x,h4,h⟩:=aI h;obtain⟨q,h5,h⟩:=aI h;obtain rfl:=sI h;obtain⟨a1,a2⟩:=z5t h1 w;obtain⟨b1,b2⟩:=X' (n:=N.length) h2 a2;obtain⟨c1,c2,_⟩:=V' h3 (zF _) b2;refine⟨(a1.ex _).trans (b1.trans c1),c2,?_⟩;have:=(c2.at h4).cp;rw[(Pd h5).2]at this;exact this
end Go.Proofs
namespace Go.Proofs
open Go Go.Rx Go.Vx Tryz
set_option maxRecDepth 20000
set_option maxHeartbeats 4000000
set_option synthInstance.maxSize 4000
set_option synthInstance.maxHeartbeats 200000
def F2(n:Nat)(P:PP)(a b:Int):V (V Nat×PP):=
 cond (decide (a<0)) (some (none,P)) (cond (decide (b<0)) (some (none,P)) (cond (decide (a>=(P.roots.length:Int))) (some (none,P)) (cond (decide (b>=(P.roots.length:Int))) (some (none,P)) (a8 (aB P.roots a) fun ra=>a8 (aB P.roots b) fun rb=>a8 (JX P.H (IntKind.i64.wrap (P.gen+1)) n n [(ra,rb)] P.N) fun r=>cond (!r.1) (some (none,{ P with N:=r.2,gen:=IntKind.i64.wrap (P.gen+1) })) (a8 (sV r.2 (IntKind.i64.wrap (P.gen+1)) n ra) fun q=>some (some q,{ P with N:=r.2,gen:=IntKind.i64.wrap (P.gen+1) }))))))
section
variable{kp kr st:Nat}{nm:Nat->Nat}{P:PP}{h:X (Nat×B)}{nx:Nat}
theorem PH.gr(p:PH kp kr st nm P h):eE h kr (.vec (P.roots.map (dW nm)).flatten 92 1 st):=⟨p.roots⟩
def zat(p:PH kp kr st nm P h)(n:Nat){a b:Nat}{r:PE×X PN}(O:JX P.H P.gen n n [(a,b)] P.N=some r):
  aW prog 65 [.ptr kp 0 0,pt nm a,pt nm b] ⟨h,nx⟩ (fun u Y'=>u=.bool r.1/\Y'=⟨cH kp kr st nm { P with N:=r.2 } h,nx⟩):=
 aW.wf fun hw _=>(WB p n O).gh fun u Y' ⟨H,N,h1,h2,h3,h4,h5,h6⟩ _ _=>by subst h1;subst h2;exact⟨_,_,ig p hw h3 h4 (fun k k1 k2 k3 k4=>h6 k k1 k4) (by simp[aG,aT]),zF _,rfl,rfl⟩
def z4p(p:PH kp kr st nm P h)(n:Nat){i:Nat}(hi:i<P.N.length){r:Nat×X PN×Int}(O:Ga P.gen n P.N P.size i=some r):
  aW prog 46 [.ptr kp 0 0,pt nm i] ⟨h,nx⟩ (fun u Y'=>u=pt (jH nm P.N.length nx) r.1/\Y'=⟨cH kp kr st (jH nm P.N.length nx) { P with N:=r.2.1,size:=r.2.2 } h,nx+(r.2.1.length-P.N.length)⟩):=
 aW.wf fun hw _=>(z97 p n hi O).gh fun u Y' ⟨H,M,nm1,h1,h2,h3,h4⟩ _ _=>by
  subst h1;subst h2;have e:(fun k=>if k<nx then k else nm1 (P.N.length+(k-nx))) (jH nm P.N.length nx r.1)=nm1 r.1:=by
   show(if _ then _ else _)=_;rcases Nat.lt_or_ge r.1 P.N.length with h5 |h5;rw[yK _ h5,if_pos (p.lt hw h5),h3.nmE _ h5];have e0:jH nm P.N.length nx r.1=nx+(r.1-P.N.length):=by rw[jH,if_neg qq0]
   rw[e0,if_neg qq0];congr 1;omega
  refine⟨pt (jH nm P.N.length nx) r.1,_,canon p hw (h3.ph.ph (zF _)) h3.len h3.nmE h3.new (fun k k1 k2 k3 k4=>h3.fr k k1 k2 k4) ?_ ?_,Nat.le_add_right _ _,rfl,rfl⟩;exact congrArg (fun z=>[U.ptr z 0 0]) e;simp only[pt,aG,aT,and_true];show _<nx+(r.2.1.length-P.N.length);rcases Nat.lt_or_ge r.1 P.N.length with h5 |h5;rw[yK _ h5];have:=p.lt hw h5;omega;rw[jH,if_neg qq0];omega
variable{a:Int}
variable{b:Int}
def qvm(p:PH kp kr st nm P h)(n:Nat){r:V Nat×PP}(O:F2 n P a b=some r):
  aW prog 45 [.ptr kp 0 0,.i6 a,.i6 b] ⟨h,nx⟩ (fun u Y'=>∃H M,u=.tup [po nm r.1,.bool r.1.isSome]/\Y'=⟨H,M⟩/\PH kp kr st nm r.2 H/\r.2.N.length=P.N.length/\nx<=M/\∀k,k<nx->k≠kp->(∀i,i<P.N.length->nm i≠k)->gt H k=gt h k):=by
 haveI:=p.gp
 haveI:=p.gr
 refine xU 65 Dr ?_;refine goN ?_;unfold F2 at O;cases h1:decide (a<0)with
 |true=>rw[h1]at O;obtain rfl:=sI O;refine goN ?_;refine eG rfl (fun _=>?_) (fun h=>by cases h);refine goN ?_;exact Gc rfl rfl rfl rfl (zF _) ⟨h,nx,rfl,rfl,p,rfl,zF _,fun _ _ _ _=>rfl⟩
 |false=>
 rw[h1]at O;cases h2:decide (b<0)with
 |true=>rw[h2]at O;obtain rfl:=sI O;refine goN ?_;refine eG rfl (fun _=>?_) (fun h=>by cases h);refine goN ?_;exact Gc rfl rfl rfl rfl (zF _) ⟨h,nx,rfl,rfl,p,rfl,zF _,fun _ _ _ _=>rfl⟩
 |false=>
 rw[h2]at O;cases h3:decide (a>=(P.roots.length:Int))with
 |true=>rw[h3]at O;obtain rfl:=sI O;refine goN ?_;refine eG rfl (fun _=>?_) (fun h=>by cases h);refine goN ?_;exact Gc rfl rfl rfl rfl (zF _) ⟨h,nx,rfl,rfl,p,rfl,zF _,fun _ _ _ _=>rfl⟩
 |false=>
 rw[h3]at O;cases h4:decide (b>=(P.roots.length:Int))with
 |true=>rw[h4]at O;obtain rfl:=sI O;refine goN ?_;refine eG rfl (fun _=>?_) (fun h=>absurd (h4.symm.trans h) nofun);refine goN ?_;exact Gc rfl rfl rfl rfl (zF _) ⟨h,nx,rfl,rfl,p,rfl,zF _,fun _ _ _ _=>rfl⟩
 |false=>
 rw[h4]at O;obtain⟨ra,LV,rb,Bq,r1,hr1,O⟩:=oM O;refine goN ?_;refine eG rfl (fun h=>absurd (h4.symm.trans h) nofun) (fun _=>?_);refine goN ?_;have p2:PH kp kr st nm { P with gen:=IntKind.i64.wrap (P.gen+1) } (ug h kp (.row (rW kr st { P with gen:=IntKind.i64.wrap (P.gen+1) }) 83)):=p.setP P.size _ (by rw[bS,if_pos rfl,p.pool];rfl) fun k b hb hk=>by rw[bS,if_neg (Ne.symm hk)];exact hb
 haveI:=p2.gp
 haveI:=p2.gr
 have OY:∀k,k≠kp->gt (ug h kp (.row (rW kr st { P with gen:=IntKind.i64.wrap (P.gen+1) }) 83)) k=gt h k:=fun k hk=>by rw[bS,if_neg (Ne.symm hk)]
 change WPU _ _ _ _ (Sg.mk (ug h kp (.row (rW kr st { P with gen:=IntKind.i64.wrap (P.gen+1) }) 83)) nx) _;have hv:oA (Sg.mk (ug h kp (.row (rW kr st { P with gen:=IntKind.i64.wrap (P.gen+1) }) 83)) nx) kr st=some ((P.roots.map (dW nm)).flatten,92,1):=by simp[oA,p2.roots,B.bv]
 refine dE [] ?_;refine cM ?_;refine aV rfl (dZ rfl rfl (kC (dW nm) gX.h (bB iO.h) qq3 (fun _=>rfl) hv LV)) ?_;refine aV rfl (sY (dW nm) (pt nm) gW.h rfl (fun _=>rfl) rfl p2.roots LV) ?_;refine cM ?_;refine aV rfl (dZ rfl rfl (kC (dW nm) gX.h (bB iO.h) qq3 (fun _=>rfl) hv Bq)) ?_;refine aV rfl (sY (dW nm) (pt nm) gW.h rfl (fun _=>rfl) rfl p2.roots Bq) (JW rfl (iA rfl Yj rfl).2 (zat p2 n hr1) rfl rfl ?_);have I4:=xq hr1 p2.wf;have p3:PH kp kr st nm { P with N:=r1.2,gen:=IntKind.i64.wrap (P.gen+1) } (cH kp kr st nm { P with N:=r1.2,gen:=IntKind.i64.wrap (P.gen+1) } (ug h kp (.row (rW kr st { P with gen:=IntKind.i64.wrap (P.gen+1) }) 83))):=qqc p2 I4.1.len I4.2 (fun r hr=>by show r<r1.2.length;rw[I4.1.len];exact p.rt r hr);have Wr:∀k,k<nx->k≠kp->(∀i,i<P.N.length->nm i≠k)->gt (cH kp kr st nm { P with N:=r1.2,gen:=IntKind.i64.wrap (P.gen+1) } (ug h kp (.row (rW kr st { P with gen:=IntKind.i64.wrap (P.gen+1) }) 83))) k=gt h k:=fun k _ k2 k3=>by by_cases e:k=kr;subst e;rw[p3.roots,p.roots];rw[zh k2 e fun i hi=>k3 i (by have:=I4.1.len;show i<P.N.length;exact this ▸ hi),OY k k2]
 refine cM ?_;refine bC ⟨by kernel_rfl,trivial,?_⟩;refine goN ?_;refine eG rfl (fun h5=>?_) (fun h5=>?_);rw[h5]at O;obtain rfl:=sI O;refine goN ?_;exact Gc rfl rfl rfl rfl (zF _) ⟨_,nx,rfl,rfl,p3,I4.1.len,zF _,Wr⟩;rw[h5]at O;obtain⟨q,hq,O⟩:=aI O;obtain rfl:=sI O;have hv3:oA (Sg.mk (cH kp kr st nm { P with N:=r1.2,gen:=IntKind.i64.wrap (P.gen+1) } (ug h kp (.row (rW kr st { P with gen:=IntKind.i64.wrap (P.gen+1) }) 83))) nx) kr st=some ((P.roots.map (dW nm)).flatten,92,1):=by simp[oA,p3.roots,B.bv]
 haveI:=p3.gp
 haveI:=p3.gr
 refine goN ?_;refine RS.w rfl (dZ rfl rfl (kC (dW nm) gX.h (bB iO.h) qq3 (fun _=>rfl) hv3 LV)) ?_;refine RS.w rfl (sY (dW nm) (pt nm) gW.h rfl (fun _=>rfl) rfl p3.roots LV) (aK rfl (Ox p3 n hq) xR ?_);refine goN ?_;exact Gc rfl rfl rfl rfl (zF _) ⟨_,nx,rfl,rfl,p3,I4.1.len,zF _,Wr⟩
def AH(n:Nat)(P:PP)(a b:Int):V (PE×PP):=a8 (F2 n P a b) fun r=>some (r.1.isSome,r.2)
def Ov{n:Nat}{P:PP}{r:V Nat×PP}(h:F2 n P a b=some r)(w:Wf P.N):Sm P.N r.2.N/\Wf r.2.N/\r.2.H=P.H/\r.2.roots=P.roots/\r.2.size=P.size/\∀q,r.1=some q->q<r.2.N.length:=by
 unfold F2 at h;have key:∀{c:PE}{z:V (V Nat×PP)},cond c (some (none,P)) z=some r->(r=(none,P))\/z=some r:=fun{c z} h=>by rcases c with _|_;exact .inr h;exact .inl (sI h).symm
 have triv:r=(none,P)->Sm P.N r.2.N/\Wf r.2.N/\r.2.H=P.H/\r.2.roots=P.roots/\r.2.size=P.size/\∀q,r.1=some q->q<r.2.N.length:=fun e=>by subst e;exact⟨Sm.refl _,w,rfl,rfl,rfl,nofun⟩
 rcases key h with e |h;exact triv e;rcases key h with e |h;exact triv e;rcases key h with e |h;exact triv e;rcases key h with e |h;exact triv e;obtain⟨ra,_,h⟩:=aI h;obtain⟨rb,_,h⟩:=aI h;obtain⟨r1,h1,h⟩:=aI h;obtain⟨k1,k2⟩:=xq h1 w;cases hb : !r1.1 with
 |true=>rw[hb]at h;obtain rfl:=sI h;exact⟨k1,k2,rfl,rfl,rfl,nofun⟩
 |false=>rw[hb]at h;obtain⟨q,hq,h⟩:=aI h;obtain rfl:=sI h;refine⟨k1,k2,rfl,rfl,rfl,fun q' e=>?_⟩;cases e;exact jj hq
def zas(p:PH kp kr st nm P h)(n:Nat){r:PE×PP}(O:AH n P a b=some r):
  aW prog 22 [.ptr kp 0 0,.i6 a,.i6 b] ⟨h,nx⟩ (fun u Y'=>u=.bool r.1/\Y'=⟨cH kp kr st nm r.2 h,nx⟩):=by
 refine aW.wf fun hw _=>?_;obtain⟨r1,h1,h2⟩:=aI O;obtain rfl:=sI h2;have hc:aW prog 22 [.ptr kp 0 0,.i6 a,.i6 b] ⟨h,nx⟩ (fun u Y'=>∃H M,u=.bool r1.1.isSome/\Y'=⟨H,M⟩/\PH kp kr st nm r1.2 H/\r1.2.N.length=P.N.length/\nx<=M/\∀k,k<nx->k≠kp->(∀i,i<P.N.length->nm i≠k)->gt H k=gt h k):=by refine xU 17 PX ?_;refine goN ?_;refine nF rfl (iA rfl Dr rfl).2 (qvm p n h1) rfl rfl ?_;rintro _ _ ⟨H,M,rfl,rfl,h3,h4,h5,h6⟩;refine goN ?_;exact C1 rfl rfl rfl h5 ⟨H,M,rfl,rfl,h3,h4,h5,h6⟩
 exact hc.gh fun u Y' ⟨H,M,e1,e2,h3,h4,h5,h6⟩ _ _=>by subst e1;subst e2;exact⟨_,_,ig p hw h3 h4 (fun k k1 k2 k3 k4=>h6 k k1 k2 k4) (by simp[aG,aT]),zF _,rfl,rfl⟩
def zaj(p:PH kp kr st nm P h):aW prog 16 [.ptr kp 0 0] ⟨h,nx⟩ (fun u Y'=>u=.i6 P.size/\Y'=⟨h,nx⟩):=by
 haveI:=p.gp
 refine lG 7 PY ?_;refine goN ?_;exact C1 rfl rfl rfl (zF _) ⟨rfl,rfl⟩
def vA(n:Nat)(P:PP)(a b:Int):V ((Int×PE)×PP):=
 a8 (F2 n P a b) fun r=>match r.1 with
  |none=>some ((0,false),r.2)|some root=>a8 (Ga r.2.gen n r.2.N r.2.size root) fun c=>aF (r.2.roots.length<=1000000) (some ((r.2.roots.length,true),{ r.2 with N:=c.2.1,size:=c.2.2,roots:=r.2.roots++[c.1] }))
def z6o(p:PH kp kr st nm P h)(n:Nat){r:(Int×PE)×PP}(O:vA n P a b=some r):
  aW prog 21 [.ptr kp 0 0,.i6 a,.i6 b] ⟨h,nx⟩ (fun u Y'=>∃bJ,u=.tup [.i6 r.1.1,.bool r.1.2]/\Y'=⟨cH kp kr bJ (jH nm P.N.length nx) r.2 h,nx+(r.2.N.length-P.N.length)⟩):=by
 refine aW.wf fun hw _=>?_;obtain⟨r1,h1,h2⟩:=aI O;obtain⟨s1,s2,s3,s4,s5,s6⟩:=Ov h1 p.wf;refine xU 37 IV ?_;refine goN ?_;refine nF rfl (iA rfl Dr rfl).2 (qvm p n h1) rfl rfl ?_;rintro _ _ ⟨H,M,rfl,rfl,h3,h4,h5,h6⟩;cases hr:r1.1 with
 |none=>rw[hr]at h2;obtain rfl:=sI h2;refine goN ?_;refine eG rfl (fun _=>?_) (fun h=>by cases h);refine goN ?_;refine SU (Y2:=⟨cH kp kr st nm r1.2 h,nx⟩) rfl rfl rfl rfl (zF _) (ig p hw h3 h4 (fun k k1 k2 k3 k4=>h6 k k1 k2 k4) (by simp[aG,aT])) ⟨st,rfl,?_⟩;show Sg.mk _ _=Sg.mk _ _;rw[qul (nm:=nm) (fun k hk=>yK k (by rw[<-s1.len];exact hk)) s2 (fun r hr=>by rw[s4]at hr;rw[s1.len];exact p.rt r hr),s1.len,Nat.sub_self,Nat.add_zero]
 |some root=>
  rw[hr]at h2;obtain⟨c,hc,h2⟩:=aI h2;obtain⟨vM,h2⟩:=c6 h2;obtain rfl:=sI h2;refine goN ?_;refine eG rfl (fun h=>by cases h) (fun _=>?_);refine WPU.wf fun Kf _=>?_
  haveI:=h3.gp
  haveI:=h3.gr
  refine goN ?_;refine dE [(0,7),(0,8),(0,9),(1,7),(1,8),(2,7),(2,8),(3,7),(3,8),(4,7),(4,8)] ?_;refine cM ?_;refine JW rfl (iA rfl Yp rfl).2 (z4p h3 n (s6 root hr) hc) rfl rfl ?_;obtain⟨e1,e2,e3⟩:=qvy hc s2
  let jQ:=jH nm r1.2.N.length M
  let M2:=M+(c.2.1.length-r1.2.N.length)
  let P2:PP:={ r1.2 with N:=c.2.1,size:=c.2.2 }
  have p4:PH kp kr st jQ P2 (cH kp kr st jQ P2 H):=z4g h3 Kf e2 fun r hr=>Nat.lt_of_lt_of_le (h3.rt r hr) e1.len;have tC:kp<M2:=Nat.lt_of_lt_of_le (show kp<M from(Kf _ _ h3.pool).1) (Nat.le_add_right _ _);have CP:kr<M2:=Nat.lt_of_lt_of_le (show kr<M from(Kf _ _ h3.roots).1) (Nat.le_add_right _ _)
  haveI:=p4.gp
  haveI:=p4.gr
  haveI:Nq M2 kp:=⟨by rw[beq_eq];simp;omega⟩
  haveI:Nq M2 kr:=⟨by rw[beq_eq];simp;omega⟩
  haveI:SuC M2 (M2+1):=⟨rfl⟩
  change RH _ _ _ _ _ (Sg.mk (cH kp kr st jQ P2 H) M2) _ _;refine eN ?_;have uL:gt ((M2,.row [pt jQ c.1] 92)::cH kp kr st jQ P2 H) kr=some (.vec (r1.2.roots.map (dW jQ)).flatten 92 1 st):=by rw[aP,if_neg qq0];exact p4.roots
  have eZ:rowOf (Sg.mk ((M2,.row [pt jQ c.1] 92)::cH kp kr st jQ P2 H) (M2+1)) M2=some [pt jQ c.1]:=by simp[rowOf,aP]
  refine RD.act rfl (pQ rfl rfl rfl rfl (DN (dW jQ) [c.1] gX.h gX.h iO.h rfl (fun _=>rfl) uL (FE (dW jQ) [c.1] (q:=[pt jQ c.1]) eZ rfl rfl rfl) ⟨by simp;omega,by simp;omega⟩)) rfl rfl ?_;have Wn:eE (ug ((M2,.row [pt jQ c.1] 92)::cH kp kr st jQ P2 H) kr (.vec (List.map (dW jQ) (r1.2.roots++[c.1])).flatten 92 1 (st+1))) kp (.row [.iM jW P2.H.Types,.iM mN P2.H.Feats,.vl kr st 0 P2.roots.length,.i6 P2.size,.i6 P2.gen] 83):=⟨by rw[bS,if_neg p4.krp,aP,if_neg qq0];exact p4.pool⟩
  haveI:=Wn
  refine cM ?_;refine qM ?_;refine bC ⟨by kernel_rfl,⟨opm,opm,opm,opm,opm,opm,opm,opm,opm,opm,opm,trivial⟩,?_⟩
  let v08:B:=.vec (List.map (dW jQ) (r1.2.roots++[c.1])).flatten 92 1 (st+1)
  let P3:PP:={ r1.2 with N:=c.2.1,size:=c.2.2,roots:=r1.2.roots++[c.1] }
  let T:X (Nat×B):=(M2,.row [pt jQ c.1] 92)::cH kp kr st jQ P2 H
  let T2:X (Nat×B):=ug (ug T kr v08) kp (.row (rW kr (st+1) P3) 83)
  have hT:∀k,k≠kp->k≠kr->k<M2->gt T2 k=gt (cH kp kr st jQ P2 H) k:=fun k k1 k2 k3=>by simp only[T2,T];rw[bS,if_neg (Ne.symm k1),bS,if_neg (Ne.symm k2),aP,if_neg qq0]
  have p5:PH kp kr (st+1) jQ P3 T2:=by
   refine⟨?_,?_,fun i x hx=>?_,p4.inj,p4.wf,fun r hr=>?_⟩;simp only[T2];rw[bS,if_pos rfl,Wn.h];rfl;simp only[T2];rw[bS,if_neg (Ne.symm p4.krp),bS,if_pos rfl];simp only[T];rw[uL];rfl;have hi:=oB hx;have h7:jQ i<M2:=by rcases Nat.lt_or_ge i r1.2.N.length with h8 |h8;simp only[jQ];rw[yK i h8];have:=h3.lt Kf h8;omega;simp only[jQ];rw[jH,if_neg qq0];have:i<c.2.1.length:=hi;omega
   rw[hT _ (p4.kpn hi) (p4.krn hi) h7];exact p4.node i x hx;rcases yD.1 hr with hr |hr;exact p4.rt r hr;simp at hr;subst hr;exact e3
  change WPU _ _ _ _ (Sg.mk T2 (M2+1)) _
  haveI:=p5.gp
  haveI:=p5.gr
  refine goN ?_;have kP:IntKind.i64.wrap (((r1.2.roots++[c.1]).length:Int)-1)=r1.2.roots.length:=by rw[zU,oZ qq4 (by simp;omega)];simp
  have hM:nx<=M:=h5;have IG:∀k,r1.2.N.length<=k->jQ k=M+(k-r1.2.N.length):=fun k hk=>by simp only[jQ];rw[jH,if_neg qq0]
  have pU:P.N.length<=P3.N.length:=by rw[<-h4];exact e1.len
  refine SU rfl rfl rfl rfl (Nat.le_add_right _ _) (canon (P1:=P3) (nm1:=jQ) (tm':=[.tup [.i6 r1.2.roots.length,.bool true]]) p hw p5 pU (fun k hk=>?_) (fun k a b=>?_) (fun k k1 k2 k3 k4=>?_) ?_ (by simp[aG,aT])) ⟨st+1,rfl,rfl⟩;exact yK k (by rw[h4];exact hk);rw[IG k (by rw[h4];exact a)];show nx<=_;omega;have k1':k<nx:=k1;rw[hT k k2 k3 (by show k<M+_;omega),zh k2 k3 fun i hi e=>?_];exact h6 k k1 k2 k4;rcases Nat.lt_or_ge i r1.2.N.length with h8 |h8;simp only[jQ]at e;rw[yK i h8]at e;exact k4 i (by rw[<-h4];exact h8) e;rw[IG i h8]at e;omega;simp only[fB,rU];rw[<-kP]
end
def SR(q:Nat):X Nat->Nat->V Nat
 |[],_=>none|k::out,s=>cond (Nat.beq k q) (some s) (SR q out (s+1))
def KP(F:X aO)(k:Nat)(l:X aR):X aO:=match F[k]? with
 |some x=>F.set k ⟨x.Typex,l⟩|none=>F
def XU(g:Nat->X Nat×X aO->V (Nat×X Nat×X aO)):X eC->X Nat×X aO->X aR->V (X aR×X Nat×X aO)
 |[],s,aZ=>some (aZ,s)|a::l,s,aZ=>aF (aZ.length<=1000000) (a8 (g a.to s) fun r=>XU g l r.2 (aZ++[⟨a.f,r.1⟩]))
def BY(N:X PN):Nat->Nat->X Nat×X aO->V (Nat×X Nat×X aO)
 |0,_,_=>none|m+1,p,s=>match SR p s.1 0 with
  |some k=>some (k,s)|none=>a8 N[p]? fun x=>aF (s.2.length<=1000000/\x.arcs.length<=1000000) (a8 (XU (BY N m) x.arcs (s.1++[p],s.2++[⟨x.kind,[]⟩]) []) fun r=>some (s.2.length,r.2.1,KP r.2.2 s.2.length r.1))
def FZ(nm:Nat->Nat)(s:Nat)(out:X Nat):X (Nat×U×Nat):=(out.zipIdx s).map fun p=>(nm p.1,.i6 (p.2:Nat),p.2)
def z9b(nm:Nat->Nat)(s:Nat)(out:X Nat)(q:Nat):FZ nm s (out++[q])=FZ nm s out++[(nm q,.i6 ((s+out.length:Nat):Int),s+out.length)]:=by simp[FZ,List.zipIdx_append]
def xu{nm:Nat->Nat}{n:Nat}(hi:∀i j,i<n->j<n->nm i=nm j->i=j){q:Nat}(hq:q<n):∀(out:X Nat)(s:Nat),(∀k∈out,k<n)->vK (nm q) (FZ nm s out)=(SR q out s).map fun k=>.i6 (k:Nat)
 |[],s,_=>rfl|k::out,s,h=>by have ih:=xu hi hq out (s+1) fun k hk=>h k (by simp[hk]);simp only[FZ,List.zipIdx_cons,zQ,vK,SR]at ih ⊢;rw[ih];by_cases e:k=q;subst e;simp[beq_eq];have:nm k≠nm q:=fun h2=>e (hi k q (h k qq4) hq h2);simp[beq_eq,this,e]
def ov{nm:Nat->Nat}{h:X (Nat×B)}{n:Nat}(hr:∀i,i<n->isRow h (nm i)):∀(out:X Nat)(s:Nat),(∀k∈out,k<n)->∀e∈FZ nm s out,isRow h e.1:=fun out s ho e he=>by
 simp only[FZ,List.mem_map]at he;obtain⟨p,hp,rfl⟩:=he;exact hr _ (ho _ (List.fst_mem_of_mem_zipIdx hp))
structure VI(nm:Nat->Nat)(N:X PN)(K6 Km K7 Kv K8:Nat)(s:X Nat×X aO)(h:X (Nat×B)):Prop where
 k6:gt h K6=some (.row [.map Km] 108)
 km:gt h Km=some (.map ((FZ nm 0 s.1).map pE) s.1.length)
 k7:gt h K7=some (.row [.vl Kv s.2.length 0 s.2.length] 39)
 kv:gt h Kv=some (.bv b7 s.2 79 2 s.2.length)
 k8:gt h K8=some (.row [.fn (.func 43) [] [.ptr K6 0 0,.ptr K7 0 0,.ptr K8 0 0]] 109)
 nd:∀(i:Nat)(x:PN),N[i]? = some x->gt h (nm i)=some (.row (oF nm x) 103)
 inj:∀i j,i<N.length->j<N.length->nm i=nm j->i=j
 lt:∀p∈s.1,p<N.length
 eq:s.1.length=s.2.length
def vH(nm:Nat->Nat)(Km K7 Kv:Nat)(s:X Nat×X aO)(h:X (Nat×B)):X (Nat×B):=
 (Km,.map ((FZ nm 0 s.1).map pE) s.1.length)::(K7,.row [.vl Kv s.2.length 0 s.2.length] 39)::(Kv,.bv b7 s.2 79 2 s.2.length)::h
section
variable{nm:Nat->Nat}{N:X PN}{K6 Km K7 Kv K8:Nat}{s s':X Nat×X aO}{h:X (Nat×B)}{nx:Nat}
def VI.ne(v:VI nm N K6 Km K7 Kv K8 s h):Km≠K7/\Km≠Kv/\K7≠Kv/\K6≠Km/\K6≠K7/\K6≠Kv/\K8≠Km/\K8≠K7/\K8≠Kv/\∀i,i<N.length->nm i≠Km/\nm i≠K7/\nm i≠Kv:=by refine⟨fun e=>?_,fun e=>?_,fun e=>?_,fun e=>?_,fun e=>?_,fun e=>?_,fun e=>?_,fun e=>?_,fun e=>?_,fun i hi=>?_⟩;have:=v.km;rw[e,v.k7]at this;cases this;have:=v.km;rw[e,v.kv]at this;cases this;have:=v.k7;rw[e,v.kv]at this;cases this;have:=v.k6;rw[e,v.km]at this;cases this;have:=v.k6;rw[e,v.k7]at this;simp at this;have:=v.k6;rw[e,v.kv]at this;cases this;have:=v.k8;rw[e,v.km]at this;cases this;have:=v.k8;rw[e,v.k7]at this;simp at this;have:=v.k8;rw[e,v.kv]at this;cases this;have hn:=v.nd i _ (List.getElem?_eq_getElem hi);refine⟨fun e=>?_,fun e=>?_,fun e=>?_⟩;rw[e,v.km]at hn;cases hn;rw[e,v.k7]at hn;simp at hn;rw[e,v.kv]at hn;cases hn
def Fv{k:Nat}(h1:k≠Km)(h2:k≠K7)(h3:k≠Kv):gt (vH nm Km K7 Kv s h) k=gt h k:=by rw[vH,aP,if_neg (Ne.symm h1),aP,if_neg (Ne.symm h2),aP,if_neg (Ne.symm h3)]
variable{H:X (Nat×B)}
def VI.to(v:VI nm N K6 Km K7 Kv K8 s h)(hs:∀k,k≠Km->k≠K7->k≠Kv->∀b,gt h k=some b->gt H k=some b)(m1:gt H Km=some (.map ((FZ nm 0 s'.1).map pE) s'.1.length))(m2:gt H K7=some (.row [.vl Kv s'.2.length 0 s'.2.length] 39))(m3:gt H Kv=some (.bv b7 s'.2 79 2 s'.2.length))(lt:∀p∈s'.1,p<N.length)(eq:s'.1.length=s'.2.length):VI nm N K6 Km K7 Kv K8 s' H:=by obtain⟨n1,n2,n3,n4,n5,n6,n7,n8,n9,Jw⟩:=v.ne;exact⟨hs _ n4 n5 n6 _ v.k6,m1,m2,m3,hs _ n7 n8 n9 _ v.k8,fun i x hx=>hs _ (Jw i (oB hx)).1 (Jw i (oB hx)).2.1 (Jw i (oB hx)).2.2 _ (v.nd i x hx),v.inj,lt,eq⟩
def VI.vh(v:VI nm N K6 Km K7 Kv K8 s h)(lt:∀p∈s'.1,p<N.length)(eq:s'.1.length=s'.2.length):VI nm N K6 Km K7 Kv K8 s' (vH nm Km K7 Kv s' h):=by obtain⟨n1,n2,n3,n4,n5,n6,n7,n8,n9,Jw⟩:=v.ne;refine v.to (fun k k1 k2 k3 b hb=>by rw[Fv k1 k2 k3];exact hb) ?_ ?_ ?_ lt eq;rw[vH,aP,if_pos rfl];rw[vH,aP,if_neg n1,aP,if_pos rfl];rw[vH,aP,if_neg n2,aP,if_neg n3,aP,if_pos rfl]
def VI.row(v:VI nm N K6 Km K7 Kv K8 s h):∀i,i<N.length->isRow h (nm i):=fun i hi=>⟨_,_,v.nd i _ (List.getElem?_eq_getElem hi)⟩
def QK(v:VI nm N K6 Km K7 Kv K8 s h)(hw:oH ⟨h,nx⟩){M:Nat}{tm:X U}(hM:nx<=M)(v':VI nm N K6 Km K7 Kv K8 s' H)(hs:∀k,k<nx->k≠Km->k≠K7->k≠Kv->gt H k=gt h k)(hb:aG nx tm):Gh nx tm ⟨H,M⟩ tm ⟨vH nm Km K7 Kv s' h,nx⟩:=by
 have hkm:Km<nx:=(hw _ _ v.km).1;have hk7:K7<nx:=(hw _ _ v.k7).1;have Kn:Kv<nx:=(hw _ _ v.kv).1;have CM:∀i,i<N.length->nm i<nx:=fun i hi=>(hw _ _ (v.nd i _ (List.getElem?_eq_getElem hi))).1;refine Gh.rnG id (fun _ _=>rfl) (zF _) (fun k b hg=>?_) (fun k k' b b' _ _ e=>e) (M9 tm) hb;have key:k<nx/\BelB nx b/\gt H k=some b:=by rw[vH,aP]at hg;by_cases e1:Km=k;rw[if_pos e1]at hg;cases hg;subst e1;refine⟨hkm,fun e he=>?_,v'.km⟩;obtain⟨q,hq,rfl⟩:=List.mem_map.1 he;obtain⟨p,hp,rfl⟩:=List.mem_map.1 hq;exact⟨CM _ (v'.lt _ (List.fst_mem_of_mem_zipIdx hp)),trivial⟩;rw[if_neg e1,aP]at hg;by_cases e2:K7=k;rw[if_pos e2]at hg;cases hg;subst e2;exact⟨hk7,⟨Kn,trivial⟩,v'.k7⟩;rw[if_neg e2,aP]at hg;by_cases e3:Kv=k;rw[if_pos e3]at hg;cases hg;subst e3;exact⟨Kn,NK nx (fun x=>vJ nx x) _,v'.kv⟩;rw[if_neg e3]at hg;obtain⟨h1,h2⟩:=hw k b hg;exact⟨h1,h2,by rw[hs k h1 (Ne.symm e1) (Ne.symm e2) (Ne.symm e3)];exact hg⟩
 refine⟨key.1,key.2.1,?_⟩;rw[z8c (f:=id) (n:=nx) (fun _ _=>rfl) b key.2.1];exact key.2.2
def dc(v:VI nm N K6 Km K7 Kv K8 s h)(hw:oH ⟨h,nx⟩)(v':VI nm N K6 Km K7 Kv K8 s' H)(hs:∀k,k<nx->k≠Km->k≠K7->k≠Kv->gt H k=gt h k):∀k b,k<nx->gt H k=some b->BelB nx b:=fun k b hk hb=>by
 have Kn:Kv<nx:=(hw _ _ v.kv).1;by_cases e1:k=Km;rw[e1,v'.km]at hb;cases hb;intro e he;obtain⟨q,hq,rfl⟩:=List.mem_map.1 he;obtain⟨p,hp,rfl⟩:=List.mem_map.1 hq;exact⟨(hw _ _ (v.nd _ _ (List.getElem?_eq_getElem (v'.lt _ (List.fst_mem_of_mem_zipIdx hp))))).1,trivial⟩;by_cases e2:k=K7;rw[e2,v'.k7]at hb;cases hb;exact⟨Kn,trivial⟩;by_cases e3:k=Kv;rw[e3,v'.kv]at hb;cases hb;exact NK nx (fun x=>vJ nx x) _;rw[hs k hk e1 e2 e3]at hb;exact(hw k b hb).2
def vfz(v:VI nm N K6 Km K7 Kv K8 s h)(hw:oH ⟨h,nx⟩)(v':VI nm N K6 Km K7 Kv K8 s' H)(hs:∀k,k<nx->k≠Km->k≠K7->k≠Kv->gt H k=gt h k){Ka sz:Nat}{b:B}(hK:nx<=Ka):∀k,k<nx->gt (fzH Ka b sz H) k=gt H k:=fun k hk=>by
 rw[AO,if_neg qq0];rcases hq:gt H k with _|b';rfl;simp only[zM];rw[Hb _ _ (Hg hK (dc v hw v' hs k b' hk hq))]
def VI.low(v:VI nm N K6 Km K7 Kv K8 s h)(hw:oH ⟨h,nx⟩){H':X (Nat×B)}(v':VI nm N K6 Km K7 Kv K8 s' H)(he:∀k,k<nx->gt H' k=gt H k):VI nm N K6 Km K7 Kv K8 s' H':=by have lt:∀{k b},gt h k=some b->k<nx:=fun{k b} hk=>(hw k b hk).1;exact⟨by rw[he _ (lt v.k6)];exact v'.k6,by rw[he _ (lt v.km)];exact v'.km,by rw[he _ (lt v.k7)];exact v'.k7,by rw[he _ (lt v.kv)];exact v'.kv,by rw[he _ (lt v.k8)];exact v'.k8,fun i x hx=>by rw[he _ (lt (v.nd i x hx))];exact v'.nd i x hx,v'.inj,v'.lt,v'.eq⟩
def js(F:X aO)(k:Nat)(l:X aR):(KP F k l).length=F.length:=by unfold KP;split<;>simp
def StN(N:X PN)(s s':X Nat×X aO):Prop:=(∀q∈s'.1,q<N.length)/\s'.1.length=s'.2.length/\s.2.length<=s'.2.length
def qw2{N:X PN}{g:Nat->X Nat×X aO->V (Nat×X Nat×X aO)}(hg:∀p s r,g p s=some r->p<N.length->(∀q∈s.1,q<N.length)->s.1.length=s.2.length->StN N s r.2):∀(l:X eC)(s:X Nat×X aO)(aZ:X aR)(r:X aR×X Nat×X aO),XU g l s aZ=some r->(∀a∈l,a.to<N.length)->(∀q∈s.1,q<N.length)->s.1.length=s.2.length->StN N s r.2
 |[],s,aZ,r,h,_,h1,h2=>by obtain rfl:=sI h;exact⟨h1,h2,zF _⟩
 |a::l,s,aZ,r,h,hl,h1,h2=>by obtain⟨_,h⟩:=c6 h;obtain⟨r1,hr1,h⟩:=aI h;obtain⟨k1,k2,k3⟩:=hg _ _ _ hr1 (hl a qq4) h1 h2;obtain⟨k4,k5,k6⟩:=qw2 hg l _ _ _ h (fun b hb=>hl b (by simp[hb])) k1 k2;exact⟨k4,k5,Nat.le_trans k3 k6⟩
def oa{N:X PN}(wf:∀x∈N,kF N.length x):∀(m p:Nat)(s:X Nat×X aO)(r:Nat×X Nat×X aO),BY N m p s=some r->p<N.length->(∀q∈s.1,q<N.length)->s.1.length=s.2.length->StN N s r.2
 |0,_,_,_,h,_,_,_=>by cases h
 |m+1,p,s,r,h,hp,h1,h2=>by
  cases hn:SR p s.1 0 with
  |some k=>rw[BY,hn]at h;obtain rfl:=sI h;exact⟨h1,h2,zF _⟩
  |none=>rw[BY,hn]at h;obtain⟨x,hx,h⟩:=aI h;obtain⟨_,h⟩:=c6 h;obtain⟨rA,hA,h⟩:=aI h;obtain rfl:=sI h;obtain⟨k1,k2,k3⟩:=qw2 (oa wf m) _ _ _ _ hA (wf x (zX hx)).arcs (fun q hq=>by rcases yD.1 hq with hq |hq;exact h1 q hq;simp at hq;subst hq;exact hp) (by simp[h2]);refine⟨k1,by simp only[js];exact k2,?_⟩;simp only[js];simp at k3;omega
def qwu:∀(m:Nat){s:X Nat×X aO}{h:X (Nat×B)}{nx p:Nat}{r:Nat×X Nat×X aO},VI nm N K6 Km K7 Kv K8 s h->(∀x∈N,kF N.length x)->p<N.length->BY N m p s=some r->
  aW prog 43 [pt nm p,.ptr K6 0 0,.ptr K7 0 0,.ptr K8 0 0] ⟨h,nx⟩ (fun u Y'=>u=.i6 (r.1:Nat)/\Y'=⟨vH nm Km K7 Kv r.2 h,nx⟩)
 |0,_,_,_,_,_,_,_,_,O=>by cases O
 |m+1,s,h,nx,p,r,v,wf,hp,O=>by
  haveI:eE h K6 (.row [.map Km] 108):=⟨v.k6⟩
  cases hn:SR p s.1 0 with
  |some k=>rw[BY,hn]at O;obtain rfl:=sI O;refine aW.wf fun hw _=>?_;refine Lg 63 PU ?_;refine goN ?_;refine D8 rfl (fN.plook tb_ok (zu:=.i6 0) rfl GI.h gW.h (bB mO.h) iG.h rfl (dQ rfl) (dQ rfl) v.km (v.row p hp) (ov v.row s.1 0 v.lt)) ?_;rintro _ _ ⟨rfl,rfl⟩;rw[xu v.inj hp s.1 0 v.lt,hn];refine goN ?_;refine eG rfl (fun h1=>?_) (fun h1=>by cases h1);refine goN ?_;exact qy (w:=.i6 (k:Nat)) (Y2:=⟨vH nm Km K7 Kv s h,nx⟩) rfl rfl rfl (zF _) (QK v hw (zF _) v (fun _ _ _ _ _=>rfl) (by simp[aG,aT])) ⟨rfl,rfl⟩
  |none=>
   rw[BY,hn]at O;obtain⟨x,hx,O⟩:=aI O;obtain⟨⟨FR,OS⟩,O⟩:=c6 O;obtain⟨rA,hA,O⟩:=aI O;obtain rfl:=sI O;have fO:=wf x (zX hx);have:aW prog 43 [pt nm p,.ptr K6 0 0,.ptr K7 0 0,.ptr K8 0 0] ⟨h,nx⟩ (fun u Y'=>u=.i6 (s.2.length:Nat)/\Y'=⟨vH nm Km K7 Kv (rA.2.1,KP rA.2.2 s.2.length rA.1) h,nx⟩):=by
    refine aW.wf fun hw _=>?_;obtain⟨n1,n2,n3,n4,n5,n6,n7,n8,n9,Jw⟩:=v.ne;have hkm:Km<nx:=(hw _ _ v.km).1;have hk7:K7<nx:=(hw _ _ v.k7).1;have Kn:Kv<nx:=(hw _ _ v.kv).1;have hk8:K8<nx:=(hw _ _ v.k8).1;have hnp:nm p<nx:=(hw _ _ (v.nd p x hx)).1
    haveI:eE h K7 (.row [.vl Kv s.2.length 0 s.2.length] 39):=⟨v.k7⟩
    haveI:eE h Kv (.vec (s.2.map b7).flatten 79 2 s.2.length):=⟨v.kv⟩
    refine Lg 63 PU ?_;refine goN ?_;refine D8 rfl (fN.plook tb_ok (zu:=.i6 0) rfl GI.h gW.h (bB mO.h) iG.h rfl (dQ rfl) (dQ rfl) v.km (v.row p hp) (ov v.row s.1 0 v.lt)) ?_;rintro _ _ ⟨rfl,rfl⟩;rw[xu v.inj hp s.1 0 v.lt,hn];refine goN ?_;refine eG rfl (fun h1=>by cases h1) (fun h1=>?_);refine goN ?_;refine RS.stepn rfl (fN.pins tb_ok (v:=.i6 (s.2.length:Nat)) (.inl rfl) GI.h gW.h (bB mO.h) (dQ rfl) (dQ rfl) (dQ rfl) v.km (v.row p hp) (ov v.row s.1 0 v.lt) (by rw[xu v.inj hp s.1 0 v.lt,hn];rfl)) ?_;rintro _ _ ⟨rfl,rfl⟩
    let Bm:B:=.map ((FZ nm 0 s.1++[(nm p,U.i6 (s.2.length:Nat),s.1.length)]).map pE) (s.1.length+1)
    change RU _ _ _ _ _ (Sg.mk (ug h Km Bm) nx) _
    haveI:SuC nx (nx+1):=⟨rfl⟩
    haveI:eE (ug h Km Bm) K7 (.row [.vl Kv s.2.length 0 s.2.length] 39):=⟨by rw[bS,if_neg n1];exact v.k7⟩
    haveI:eE (ug h Km Bm) (nm p) (.row [.i6 x.kind,.iM (bX nm) x.arcs,po nm x.fw,.i6 x.fwA,.i6 x.mt,.i6 x.mtA,.iM (bX nm) x.more,.i6 x.moA,po nm x.cp,.i6 x.cpA,.bool x.ch,.i6 x.chA] 103):=⟨by rw[bS,if_neg (Ne.symm (Jw p hp).1)];exact v.nd p x hx⟩
    haveI:Nq nx K7:=⟨by rw[beq_eq];simp;omega⟩
    refine goN ?_;refine dE [(0,7),(1,7)] ?_;refine cM ?_;refine eN ?_;have uL:gt ((nx,.row [.i6 x.kind,.nils] 79)::ug h Km Bm) Kv=some (.vec (s.2.map b7).flatten 79 2 s.2.length):=by rw[aP,if_neg qq0,bS,if_neg n2];exact v.kv
    have eZ:rowOf (Sg.mk ((nx,.row [.i6 x.kind,.nils] 79)::ug h Km Bm) (nx+1)) nx=some [.i6 x.kind,.nils]:=by simp[rowOf,aP]
    refine RD.act rfl (pQ rfl rfl rfl rfl (DN b7 [⟨x.kind,[]⟩] iI.h iI.h mX.h rfl (fun _=>rfl) uL (FE b7 [⟨x.kind,[]⟩] (q:=[.i6 x.kind,.nils]) eZ rfl rfl rfl) ⟨by simp;omega,by simp;omega⟩)) rfl rfl ?_
    haveI:eE (ug ((nx,.row [.i6 x.kind,.nils] 79)::ug h Km Bm) Kv (.vec (List.map b7 (s.2++[⟨x.kind,[]⟩])).flatten 79 2 (s.2.length+1))) K7 (.row [.vl Kv s.2.length 0 s.2.length] 39):=⟨by rw[bS,if_neg (Ne.symm n3),aP,if_neg qq0,bS,if_neg n1];exact v.k7⟩
    refine cM ?_;refine qM ?_;refine bC ⟨by kernel_rfl,⟨opm,opm,trivial⟩,?_⟩
    let s1:X Nat×X aO:=(s.1++[p],s.2++[⟨x.kind,[]⟩])
    let V1:B:=.vec (List.map b7 (s.2++[⟨x.kind,[]⟩])).flatten 79 2 (s.2.length+1)
    let R1:B:=.row [.vl Kv (s.2.length+1) 0 (s.2++[(⟨x.kind,[]⟩:aO)]).length] 39
    let H1:X (Nat×B):=ug (ug ((nx,.row [.i6 x.kind,.nils] 79)::ug h Km Bm) Kv V1) K7 R1
    change yF _ _ _ _ (Sg.mk H1 (nx+1));have g7:gt (ug ((nx,.row [.i6 x.kind,.nils] 79)::ug h Km Bm) Kv V1) K7=some (.row [.vl Kv s.2.length 0 s.2.length] 39):=by rw[bS,if_neg (Ne.symm n3),aP,if_neg qq0,bS,if_neg n1];exact v.k7
    have hH1:∀k,k<nx->k≠Km->k≠K7->k≠Kv->gt H1 k=gt h k:=fun k k0 k1 k2 k3=>by simp only[H1];rw[bS,if_neg (Ne.symm k2),bS,if_neg (Ne.symm k3),aP,if_neg qq0,bS,if_neg (Ne.symm k1)]
    have v1:VI nm N K6 Km K7 Kv K8 s1 H1:=by refine v.to (fun k k1 k2 k3 b hb=>by rw[hH1 k (hw k b hb).1 k1 k2 k3];exact hb) ?_ ?_ ?_ (fun q hq=>?_) (by simp[s1,v.eq]);simp only[H1];rw[bS,if_neg (Ne.symm n1),bS,if_neg (Ne.symm n2),aP,if_neg qq0,bS,if_pos rfl,v.km];simp only[Bm,s1,zM,z9b,v.eq,Nat.zero_add,zU,zO,zS];simp only[H1];rw[bS,if_pos rfl,g7];simp[R1,s1];simp only[H1];rw[bS,if_neg n3,bS,if_pos rfl,uL];simp[V1,s1,B.bv];rcases yD.1 hq with hq |hq;exact v.lt q hq;simp at hq;subst hq;exact hp
    haveI:eE H1 (nm p) (.row [.i6 x.kind,.iM (bX nm) x.arcs,po nm x.fw,.i6 x.fwA,.i6 x.mt,.i6 x.mtA,.iM (bX nm) x.more,.i6 x.moA,po nm x.cp,.i6 x.cpA,.bool x.ch,.i6 x.chA] 103):=⟨v1.nd p x hx⟩
    refine goN ?_;refine gV 9 105 2 (nx+2) ?_ (h0:=Nat.le_succ _);have FW:∀k,k<nx->gt ((nx+1,.vec [] 105 2 0)::H1) k=gt H1 k:=fun k hk=>by rw[aP,if_neg qq0]
    refine gL (fun m' tm Y=>∃(j st:Nat)(aZ:X aR)(s2:X Nat×X aO)(H:X (Nat×B))(M:Nat),m'=x.arcs.length-j/\j<=x.arcs.length/\XU (BY N m) (x.arcs.drop j) s2 aZ=some rA/\tm=fr 63 [(2,.ptr K7 0 0),(3,.ptr K8 0 0),(8,.i6 (s.2.length:Nat)),(9,.vl (nx+1) st 0 aZ.length),(39,.iM (bX nm) x.arcs),(40,.i6 x.arcs.length),(41,.i6 j)]/\Y=⟨H,M⟩/\nx+1<M/\VI nm N K6 Km K7 Kv K8 s2 H/\s.2.length<s2.2.length/\gt H (nx+1)=some (.bv bF aZ 105 2 st)/\∀k,k<nx->k≠Km->k≠K7->k≠Kv->gt H k=gt h k) (fun tm Y=>∃(H:X (Nat×B))(M:Nat),tm=fr 63 [(2,.ptr K7 0 0),(8,.i6 (s.2.length:Nat)),(9,.iM bF rA.1)]/\Y=⟨H,M⟩/\nx+1<M/\VI nm N K6 Km K7 Kv K8 rA.2 H/\s.2.length<rA.2.2.length/\∀k,k<nx->k≠Km->k≠K7->k≠Kv->gt H k=gt h k) x.arcs.length
     ⟨0,0,[],s1,_,nx+2,rfl,Nat.zero_le _,hA,rfl,rfl,zN _,v.low hw v1 FW,by simp[s1],by simp[aP],fun k k0 k1 k2 k3=>by rw[FW k k0];exact hH1 k k0 k1 k2 k3⟩ ?_ ?_ (by show nx<=nx+2;omega)
    rintro _ _ ⟨H,M,rfl,rfl,hM,v2,aE,fG⟩;have hKk:∃nd,rA.2.2[s.2.length]? = some nd:=⟨_,List.getElem?_eq_getElem aE⟩;obtain⟨nd,oS⟩:=hKk;have B8:KP rA.2.2 s.2.length rA.1=rA.2.2.set s.2.length ⟨nd.Typex,rA.1⟩:=by unfold KP;rw[oS]
    haveI:eE H K7 (.row [.vl Kv rA.2.2.length 0 rA.2.2.length] 39):=⟨v2.k7⟩
    have hv:oA (Sg.mk H M) Kv rA.2.2.length=some ((rA.2.2.map b7).flatten,79,2):=by simp[oA,v2.kv,B.bv]
    have jX:aB rA.2.2 ((s.2.length:Nat):Int)=some nd:=by rw[aB,if_pos ⟨by omega,by omega⟩];simpa using oS
    refine goN ?_;refine RS.w rfl (dZ rfl rfl (kC b7 iI.h (bB mX.h) qq3 (fun _=>rfl) hv jX)) ?_;refine RS.w rfl (pO u9.h rfl (bB lP.h) rfl (DK v2.kv) rfl) ?_;have kR:i9 rA.2.2 0 rA.2.2.length ((s.2.length:Nat):Int)=some nd:=by rw[i9,if_pos ⟨by omega,by omega⟩];simpa using oS
    refine RS.wn rfl (tg (Y:=⟨H,M⟩) (y:=(⟨nd.Typex,rA.1⟩:aO)) b7 (bB lP.h) (fun _=>rfl) rfl rfl rfl rfl rfl v2.kv kR rfl rfl) ?_;refine goN ?_;have OT:∀k,k≠Kv->gt (ug H Kv (.vec ((rA.2.2.set (0+((s.2.length:Nat):Int).toNat) ⟨nd.Typex,rA.1⟩).map b7).flatten 79 2 rA.2.2.length)) k=gt H k:=fun k hk=>by rw[bS,if_neg (Ne.symm hk)]
    have v4:VI nm N K6 Km K7 Kv K8 (rA.2.1,KP rA.2.2 s.2.length rA.1) (ug H Kv (.vec ((rA.2.2.set (0+((s.2.length:Nat):Int).toNat) ⟨nd.Typex,rA.1⟩).map b7).flatten 79 2 rA.2.2.length)):=by refine v2.to (fun k k1 k2 k3 b hb=>by rw[OT k k3];exact hb) (by rw[OT _ n2];exact v2.km) (by rw[OT _ n3,v2.k7];simp only[js]) ?_ v2.lt (by simp only[js];exact v2.eq);rw[bS,if_pos rfl,v2.kv];simp[B.bv,B8]
    exact qy (w:=.i6 (s.2.length:Nat)) (Y2:=⟨vH nm Km K7 Kv (rA.2.1,KP rA.2.2 s.2.length rA.1) h,nx⟩) rfl rfl rfl (zF _) (QK v hw (by show nx<=M;omega) v4 (fun k k0 k1 k2 k3=>by rw[OT k k3];exact fG k k0 k1 k2 k3) (by simp[aG,aT])) ⟨rfl,rfl⟩;rintro _ _ _ ⟨j,st,aZ,s2,H,M,rfl,hj,TP,rfl,rfl,hM,v2,aE,hga,fG⟩;refine WPU.wf fun mF _=>?_
    haveI:SuC M (M+1):=⟨rfl⟩
    refine goN ?_;refine eG rfl (fun h9=>?_) (fun h9=>?_)
    ·have iD:j<x.arcs.length:=by simpa using h9
     obtain⟨a,ha⟩:∃a,x.arcs[j]? = some a:=⟨_,List.getElem?_eq_getElem iD⟩;have BG:aB x.arcs (j:Int)=some a:=by rw[aB,if_pos ⟨by omega,by omega⟩];simpa using ha
     have IL:x.arcs.drop j=a::x.arcs.drop (j+1):=by rw[List.drop_eq_getElem_cons iD];rw[List.getElem?_eq_getElem iD]at ha;cases ha;rfl
     have B4:IntKind.i64.wrap ((j:Int)+1)=((j+1:Nat):Int):=by rw[oZ qq0 qq0];rfl
     rw[IL]at TP;obtain⟨lU,TP⟩:=c6 TP;obtain⟨r3,EB,TP⟩:=aI TP;have pS:=fO.arcs a (zX ha);obtain⟨t1,t2,t3⟩:=oa wf m _ _ _ EB pS v2.lt v2.eq;have v3:VI nm N K6 Km K7 Kv K8 s2 ((M,.row (bX nm a) 107)::H):=v.low hw v2 fun k hk=>by rw[aP,if_neg qq0]
     haveI:eE ((M,.row (bX nm a) 107)::H) K8 (.row [.fn (.func 43) [] [.ptr K6 0 0,.ptr K7 0 0,.ptr K8 0 0]] 109):=⟨v3.k8⟩
     refine goN ?_;apply cE;refine goN ?_;refine cB BG ?_;refine goN ?_;refine dE [(0,6),(0,8),(1,6),(2,6)] ?_;refine cM ?_;refine JW rfl (yN rfl rfl PU rfl rfl qq4) (qwu m v3 wf pS EB) rfl rfl ?_;have hMk:M≠Km/\M≠K7/\M≠Kv:=⟨by omega,by omega,by omega⟩;have hNk:nx+1≠Km/\nx+1≠K7/\nx+1≠Kv:=⟨by omega,by omega,by omega⟩
     haveI:eE (vH nm Km K7 Kv r3.2 ((M,.row (bX nm a) 107)::H)) M (.row (bX nm a) 107):=⟨by rw[Fv hMk.1 hMk.2.1 hMk.2.2,aP,if_pos rfl]⟩
     haveI:SuC (M+1) (M+2):=⟨rfl⟩
     haveI:Nq (M+1) M:=⟨by rw[beq_eq];simp⟩
     refine cM ?_;refine eN ?_;have Wp:gt ((M+1,.row [.i6 a.f,.i6 (r3.1:Nat)] 105)::vH nm Km K7 Kv r3.2 ((M,.row (bX nm a) 107)::H)) (nx+1)=some (.vec (aZ.map bF).flatten 105 2 st):=by rw[aP,if_neg qq0,Fv hNk.1 hNk.2.1 hNk.2.2,aP,if_neg qq0];exact hga
     have hro5:rowOf (Sg.mk ((M+1,.row [.i6 a.f,.i6 (r3.1:Nat)] 105)::vH nm Km K7 Kv r3.2 ((M,.row (bX nm a) 107)::H)) (M+2)) (M+1)=some [.i6 a.f,.i6 (r3.1:Nat)]:=by simp[rowOf,aP]
     refine RD.act rfl (pQ rfl rfl rfl rfl (DN bF [⟨a.f,(r3.1:Nat)⟩] fS.h fS.h hX.h rfl (fun _=>rfl) Wp (FE bF [⟨a.f,(r3.1:Nat)⟩] (q:=[.i6 a.f,.i6 (r3.1:Nat)]) hro5 rfl rfl rfl) ⟨by simp;omega,by simp;omega⟩)) rfl rfl ?_;refine cM ?_;refine bC ⟨by kernel_rfl,⟨oD rfl,oD rfl,opm,opm,trivial⟩,?_⟩;refine goN ?_;have pT:∀k,k<nx->gt (ug ((M+1,.row [.i6 a.f,.i6 (r3.1:Nat)] 105)::vH nm Km K7 Kv r3.2 ((M,.row (bX nm a) 107)::H)) (nx+1) (.vec ((aZ++[(⟨a.f,(r3.1:Nat)⟩:aR)]).map bF).flatten 105 2 (st+1))) k=gt (vH nm Km K7 Kv r3.2 ((M,.row (bX nm a) 107)::H)) k:=fun k hk=>by rw[bS,if_neg qq0,aP,if_neg qq0]
     refine⟨x.arcs.length-(j+1),_,_,by omega,⟨j+1,st+1,aZ++[⟨a.f,(r3.1:Nat)⟩],r3.2,_,M+2,rfl,iD,TP,rfl,rfl,by omega,v.low hw (v3.vh t1 t2) pT,by omega,?_,fun k k0 k1 k2 k3=>?_⟩,by show nx<=M+2;omega,Gh.sub ?_⟩;rw[bS,if_pos rfl,Wp];rfl;rw[pT k k0,Fv k1 k2 k3,aP,if_neg qq0];exact fG k k0 k1 k2 k3
     ·rw[<-B4];(repeat refine⟨rfl,?_⟩);exact trivial
    ·refine goN ?_;have iD:j=x.arcs.length:=by
      have:¬ (j:Int)<x.arcs.length:=by simpa using h9
      omega
     subst iD;rw[List.drop_length]at TP;obtain rfl:=sI TP;have hz:=vfz v hw v2 fG (Ka:=nx+1) (sz:=2) (b:=.bv bF aZ 105 2 st) (Nat.le_succ _);refine⟨_,⟨_,M⟩,⟨_,M,rfl,rfl,hM,v.low hw v2 hz,aE,fun k k0 k1 k2 k3=>by rw[hz k k0];exact fG k k0 k1 k2 k3⟩,by show nx<=M;omega,Gh.trans (Gh.sub (l':=[(2,.ptr K7 0 0),(8,.i6 (s.2.length:Nat)),(9,.vl (nx+1) st 0 aZ.length)]) (by((repeat refine⟨rfl,?_⟩);exact trivial))) (Gh.fzS (Y:=⟨H,M⟩) (nx+1) (.bv bF aZ 105 2 st) 2 hga nofun ?_ rfl)⟩;have e1:=GX (c:=bF) (sz:=2) (fun _=>rfl) aZ (nx+1) 2 105 st;simp only[Vx.fzS];rw[e1,N7 _ _ _ (show aT (nx+1) (.ptr K7 0 0) by show K7<nx+1;omega)];rfl
   exact this
end
def MF{h:X (Nat×B)}{N k:Nat}{l:X U}{e:TypeId}(hg:gt h k=some (.row l e)):cellsOf (Sg.mk h N) k 0=some l:=by simp[cellsOf,hg]
def AI(n:Nat)(P:PP)(k:Int):V (GFS×PE):=
 cond (decide (k<0)) (some (⟨[]⟩,false)) (cond (decide (k>=(P.roots.length:Int))) (some (⟨[]⟩,false)) (a8 (aB P.roots k) fun r=>a8 (BY P.N n r ([],[])) fun s=>some (⟨s.2.2⟩,true)))
section
variable{kp kr st:Nat}{nm:Nat->Nat}{P:PP}{h:X (Nat×B)}{nx:Nat}
def ni(p:PH kp kr st nm P h)(n:Nat){k:Int}{r:GFS×PE}(O:AI n P k=some r):
  aW prog 19 [.ptr kp 0 0,.i6 k] ⟨h,nx⟩ (fun u Y'=>u=.tup [.agg (kI r.1),.bool r.2]/\Y'=⟨h,nx⟩):=by
 refine aW.wf fun hw _=>?_;have tC:kp<nx:=(hw _ _ p.pool).1;have CP:kr<nx:=(hw _ _ p.roots).1
 haveI:SuC nx (nx+1):=⟨rfl⟩
 haveI:SuC (nx+1) (nx+2):=⟨rfl⟩
 haveI:SuC (nx+2) (nx+3):=⟨rfl⟩
 haveI:SuC (nx+3) (nx+4):=⟨rfl⟩
 haveI:SuC (nx+4) (nx+5):=⟨rfl⟩
 have nq:∀{a b:Nat},b<a->Nq a b:=fun h=>⟨by rw[beq_eq];simp;omega⟩
 haveI:Nq nx kp:=nq tC
 haveI:Nq nx kr:=nq CP
 haveI:=p.gp
 haveI:=p.gr
 have early:∀{H:X (Nat×B)}{N:Nat},(∀k,k<nx->gt H k=gt h k)->nx<=N->Gh nx [.tup [.agg [.nils],.bool false]] ⟨H,N⟩ [.tup [.agg (kI ⟨[]⟩),.bool false]] ⟨h,nx⟩:=fun hs hN=>(Gh.wk (.cons (.tup (.cons (.agg (.cons (.nil false) .nil)) (.cons (.refl _) .nil))) .nil)).trans (Gh.back hw hs hN (by simp[kI,aG,aT,kJ]) (zF _));refine eL 33 EI ?_;refine goN ?_;unfold AI at O;cases h1:decide (k<0)with
 |true=>rw[h1]at O;obtain rfl:=sI O;refine goN ?_;refine eG rfl (fun _=>?_) (fun h=>by cases h);refine goN ?_;exact⟨.inr rfl,_,nH (kL fT.h rfl (bB hJ.h) rfl (MF (by rw[aP,if_pos rfl])) rfl) (dT rfl eD),_,⟨h,nx⟩,zF _,early (fun k hk=>by rw[aP,if_neg qq0]) (Nat.le_succ _),rfl,rfl⟩
 |false=>
 rw[h1]at O;cases h2:decide (k>=(P.roots.length:Int))with
 |true=>rw[h2]at O;obtain rfl:=sI O;refine goN ?_;refine eG rfl (fun _=>?_) (fun h=>absurd (h2.symm.trans h) nofun);refine goN ?_;exact⟨.inr rfl,_,nH (kL fT.h rfl (bB hJ.h) rfl (MF (by rw[aP,if_pos rfl])) rfl) (dT rfl eD),_,⟨h,nx⟩,zF _,early (fun k hk=>by rw[aP,if_neg qq0]) (Nat.le_succ _),rfl,rfl⟩
 |false=>
 rw[h2]at O;obtain⟨ro,eZ,s,hs,O⟩:=bO O;obtain rfl:=sI O;refine goN ?_;refine eG rfl (fun h=>absurd (h2.symm.trans h) nofun) (fun _=>?_);refine goN ?_;refine RS.w rfl z0r ?_;refine goN ?_;refine RS.w rfl (wh rfl rfl) ?_;refine gnN ?_
 let F8:B:=.row [.fn (.func 43) [] [.ptr (nx+2) 0 0,.ptr (nx+3) 0 0,.ptr (nx+4) 0 0]] 109
 let H0:X (Nat×B):=(nx+4,F8)::(nx+3,.row [.nils] 39)::(nx+2,.row [.map (nx+1)] 108)::(nx+1,.map [] 0)::(nx,.row [.nils] 39)::h
 change WPU _ _ _ _ (Sg.mk H0 (nx+5)) _;have uL:gt H0 (nx+3)=some (.row [.nils] 39):=by simp[H0,aP]
 refine dF (BO (Y:=⟨H0,nx+5⟩) (nx+3) 0 79 2 qq3 (by show nx<=nx+5;omega) uL rfl) (by show nx<=nx+6;omega) ?_
 let H1:X (Nat×B):=(nx+5,.vec [] 79 2 0)::(nx+4,F8)::(nx+3,.row [.vl (nx+5) 0 0 0] 39)::(nx+2,.row [.map (nx+1)] 108)::(nx+1,.map [] 0)::(nx,.row [.nils] 39)::h
 refine WPU.eqv rfl (Y':=⟨H1,nx+6⟩) (by simp[H0,H1,newU,ug,beq_eq]) ?_;have pT:∀k,k<nx->gt H1 k=gt h k:=fun k hk=>by simp only[H1];rw[aP,if_neg qq0,aP,if_neg qq0,aP,if_neg qq0,aP,if_neg qq0,aP,if_neg qq0,aP,if_neg qq0]
 have v:VI nm P.N (nx+2) (nx+1) (nx+3) (nx+5) (nx+4) ([],[]) H1:=⟨by simp[H1,aP],by simp[H1,aP,FZ],by simp[H1,aP],by simp[H1,aP,B.bv],by simp[H1,aP,F8],fun i x hx=>by rw[pT _ (p.lt hw (oB hx))];exact p.node i x hx,p.inj,nofun,rfl⟩
 haveI:eE H1 (nx+4) F8:=⟨v.k8⟩
 haveI:eE H1 kp (.row [.iM jW P.H.Types,.iM mN P.H.Feats,.vl kr st 0 P.roots.length,.i6 P.size,.i6 P.gen] 83):=⟨by rw[pT kp tC];exact p.pool⟩
 have hv:oA (Sg.mk H1 (nx+6)) kr st=some ((P.roots.map (dW nm)).flatten,92,1):=by simp only[oA,pT kr CP,p.roots,B.bv];simp
 have hro2:gt H1 kr=some (.vec (P.roots.map (dW nm)).flatten 92 1 st):=by rw[pT kr CP];exact p.roots
 obtain⟨t1,t2,t3⟩:=oa p.wf n _ _ _ hs (p.rt ro (zX (NH eZ).2.2)) nofun rfl;refine dE [] ?_;refine cM ?_;refine aV rfl (dZ rfl rfl (kC (dW nm) gX.h (bB iO.h) qq3 (fun _=>rfl) hv eZ)) ?_;refine aV rfl (sY (dW nm) (pt nm) gW.h rfl (fun _=>rfl) rfl hro2 eZ) ?_;have hrol:=p.rt ro (zX (NH eZ).2.2);refine JW rfl (yN rfl rfl PU rfl rfl qq4) (qwu n v p.wf hrol hs) rfl rfl ?_;have v2:VI nm P.N (nx+2) (nx+1) (nx+3) (nx+5) (nx+4) s.2 (vH nm (nx+1) (nx+3) (nx+5) s.2 H1):=v.vh t1 t2;have TV:gt (vH nm (nx+1) (nx+3) (nx+5) s.2 H1) nx=some (.row [.nils] 39):=by rw[Fv qq0 qq0 qq0];simp[H1,aP]
 haveI:eE (vH nm (nx+1) (nx+3) (nx+5) s.2 H1) (nx+3) (.row [.vl (nx+5) s.2.2.length 0 s.2.2.length] 39):=⟨v2.k7⟩
 haveI:eE (vH nm (nx+1) (nx+3) (nx+5) s.2 H1) nx (.row [.nils] 39):=⟨TV⟩
 refine bC ⟨by kernel_rfl,trivial,?_⟩;refine goN ?_;have hgN:gt (ug (vH nm (nx+1) (nx+3) (nx+5) s.2 H1) nx (.row [.vl (nx+5) s.2.2.length 0 s.2.2.length] 39)) nx=some (.row [.vl (nx+5) s.2.2.length 0 s.2.2.length] 39):=by rw[bS,if_pos rfl,TV];rfl
 refine⟨.inr rfl,_,nH (kL fT.h rfl (bB hJ.h) rfl (MF hgN) rfl) (dT rfl eD),_,⟨h,nx⟩,zF _,qt (c:=b7) (xs:=s.2.2) (e:=79) (sz:=2) (K:=nx+5) (st:=s.2.2.length) hw (Nat.le_add_right _ _) (by rw[bS,if_neg qq0];exact v2.kv) (fun k hk=>?_) (by show nx<=nx+6;omega) (tm':=[.tup [.agg (kI ⟨s.2.2⟩),.bool true]]) ?_ ?_ (zF _),rfl,rfl⟩;have hk:k<nx:=hk;rw[bS,if_neg qq0,Fv qq0 qq0 qq0,pT k hk];have e1:=GX (c:=b7) (sz:=2) (fun _=>rfl) s.2.2 (nx+5) 2 79 s.2.2.length;have e2:∀(b:B)(u v:U),fz (nx+5) b 2 u=v->gU (nx+5) b 2 [U.tup [U.agg [u],U.bool true]]=[U.tup [U.agg [v],U.bool true]]:=fun b u v e=>by simp only[gU,fz,e]
 exact e2 _ _ _ e1;simp only[aG,aT,and_true];exact jq nx ⟨s.2.2⟩
end
def uC(H:cZ):PP:=⟨H,[],[],0,1⟩
def G6(H:cZ)(nx:Nat)(h:X (Nat×B)):X (Nat×B):=(nx+2,.vec [] 92 1 0)::(nx+1,.row (rW (nx+2) 0 (uC H)) 83)::(nx,.row (gE H) 27)::h
def z9t(H:cZ)(nx:Nat)(h:X (Nat×B))(nm:Nat->Nat):PH (nx+1) (nx+2) 0 nm (uC H) (G6 H nx h):=
 ⟨by simp[G6,aP],by simp[G6,aP,uC],fun i x hx=>by simp[uC]at hx,fun i j hi=>by simp[uC]at hi,nofun,nofun⟩
def z7x(H:cZ)(h:X (Nat×B))(nx:Nat):aW prog 12 [.agg (gE H)] ⟨h,nx⟩ (fun u Y'=>u=.ptr (nx+1) 0 0/\Y'=⟨G6 H nx h,nx+3⟩):=by
 haveI:SuC nx (nx+1):=⟨rfl⟩
 haveI:SuC (nx+1) (nx+2):=⟨rfl⟩
 refine lG 6 Dt ?_;refine goN ?_;refine RS.w (u:=.agg [.iM jW H.Types,.iM mN H.Feats,.nils,.i6 0,.i6 1]) rfl (YG (qs:=[(0,.agg (gE H)),(3,.i6 1)]) rfl qq1) ?_;refine goN ?_;have hg:gt ((nx+1,.row [.iM jW H.Types,.iM mN H.Feats,.nils,.i6 0,.i6 1] 83)::(nx,.row (gE H) 27)::h) (nx+1)=some (.row [.iM jW H.Types,.iM mN H.Feats,.nils,.i6 0,.i6 1] 83):=by rw[aP,if_pos rfl]
 refine qy (w:=.ptr (nx+1) 0 0) (Y2:=⟨G6 H nx h,nx+3⟩) rfl rfl rfl (by show nx<=nx+3;omega) (Gh.trans (BO (Y:=⟨(nx+1,.row [.iM jW H.Types,.iM mN H.Feats,.nils,.i6 0,.i6 1] 83)::(nx,.row (gE H) 27)::h,nx+2⟩) (nx+1) 2 92 1 qq3 (by show nx<=nx+2;omega) hg rfl) (Gh.eqv rfl ?_)) ⟨rfl,rfl⟩;simp[newU,ug,beq_eq,G6,rW,uC]
end Go.Proofs
