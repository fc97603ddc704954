import Derived.WalkKit
import Derived.Sort.Grow
import Derived.Test.YtmflfedkfdkipaaGreatP15
set_option linter.all false
namespace Go.Proofs
open Go Go.Rx Go.Vx Go.Shelf Go.RowKit Go.Sort Tryz
set_option maxRecDepth 100000
set_option maxHeartbeats 4000000
set_option synthInstance.maxSize 4000
set_option synthInstance.maxHeartbeats 200000
theorem bh(σ:Sg):aO prog 110 [.int .u64 0] σ (fun u σ'=>u=.int .i64 0/\σ'=σ):=by
 refine aO.of_same (vs:=[.int .u64 0]) (cv:=.int .i64 0) rfl (fun m=>by simp[aD,ren]) rfl (fun m=>by simp[ren]) (fun w=>?_) σ;exact Any.bits_Len (SlLaysF0.n15.bits (P:=prog) (ρ:=Tryz.sortJ_ren) { Tryz.sortJ with }) 0 w (by omega) (by omega)
theorem OG(a c:Int)(v v':Value)(w:World):Calls prog 74 #[.agg #[.int .i64 a,v],.agg #[.int .i64 c,v']] w fun e w'=>e=.returned (.int .i64 (wrap64 (a-c)))/\∃q os,w'=grow (w.drewN q) os:=by
 go_enter Tryz.func74,Tryz.ntmps74
 go_wp2
 all_goals go_ret
 refine⟨rfl,0,#[.cells #[.int .i64 a,v] 107,.cells #[.int .i64 c,v'] 107],?_⟩;cases w with
 |mk heap tape drawn os output=>
  have e:∀A B:Obj,(heap.push A).push B=heap++ #[A,B]:=fun A B=>by apply Array.ext';simp
  exact congrArg (fun h=>(⟨h,tape,drawn,os,output⟩:World)) (e _ _)
theorem OH(nm:Nat->Nat)(a b:eE):OY prog 74 [.agg (bH nm a),.agg (bH nm b)] (wrap64 (a.f-b.f)):=fun vs cargs x hh he m hargs w hf=>by
 obtain⟨v0,SR,rfl,h0,he⟩:=he.inv;obtain⟨v1,Kz,rfl,h1,he⟩:=he.inv;have:=he.nil_inv;subst this;simp only[aA,bH]at h0 h1;obtain⟨p0,rfl,h0,l0,_⟩:=h0;obtain⟨p1,rfl,h1,l1,_⟩:=h1;rcases p0 with _ |⟨x0,_ |⟨y0,_ |_⟩⟩<;>simp at l0;rcases p1 with _ |⟨x1,_ |⟨y1,_ |_⟩⟩<;>simp at l1;simp only[bN,aA,and_true]at h0 h1;obtain⟨rfl,_⟩:=h0;obtain⟨rfl,_⟩:=h1;rw[<-hargs.at];simp only[aD,ren,nH,List.map];exact OG _ _ _ _ w
theorem JW:Wn prog 73 74 2:=fun α _ enc cf hk h1 hO cb blk off cap d w hc hH hb hs=>
 AnyQ.slices_SortFunc Tryz.sortJ 2 Tryz.isAgg107 Tryz.sizeOf107 enc hk h1 cf hO 74 cb blk off cap d w (enters_of Tryz.func74 (by kernel_rfl) rfl) hc hH hb hs
theorem TR{σ:Sg}{u:U}(hu:oI tb σ 93 u=some (.i6 0)):aO prog 73 [u,.fn (.func 74) [] []] σ (fun u' σ'=>u'=.tup []/\σ'=σ):=by
 have hins:aO prog 143 [u,.i6 0,.i6 0,.fn (.func 74) [] []] σ (fun u' σ'=>u'=.tup []/\σ'=σ):=by refine Au 53 HK ?_;refine goN ?_;refine gL (fun m tm σ'=>tm=fr 53 [(2,.i6 0),(8,.i6 1)]/\σ'=σ) (fun tm σ'=>tm=fr 53 []/\σ'=σ) 0 ⟨rfl,rfl⟩ ?_ ?_ (zF _);rintro _ _ ⟨rfl,rfl⟩;refine⟨.inl rfl,[],rfl,.tup [],_,zF _,Gh.refl _ _ _,rfl,rfl⟩;rintro m _ _ ⟨rfl,rfl⟩;refine goN ?_;refine cU rfl (fun h1=>by cases h1) (fun h1=>?_);refine goN ?_;exact⟨_,_,⟨rfl,rfl⟩,zF _,Gh.sub trivial⟩
 have hpdq:aO prog 109 [u,.i6 0,.i6 0,.i6 0,.fn (.func 74) [] []] σ (fun u' σ'=>u'=.tup []/\σ'=σ):=by refine j_ 148 HW ?_;refine goN ?_;refine gL (fun m tm σ'=>tm=fr 148 [(0,u),(1,.i6 0),(2,.i6 0),(4,.fn (.func 74) [] [])]/\σ'=σ) (fun tm σ'=>False) 0 ⟨rfl,rfl⟩ (fun _ _ h=>h.elim) ?_ (zF _);rintro m _ _ ⟨rfl,rfl⟩;refine goN ?_;apply aL;refine goN ?_;refine cU rfl (fun h1=>?_) (fun h1=>by cases h1);refine goN ?_;refine aI rfl hins HK ?_;refine goN ?_;refine⟨.inr rfl,[],rfl,.tup [],_,zF _,Gh.refl _ _ _,rfl,rfl⟩
 refine dF 14 ZU ?_;refine goN ?_;refine RS.w rfl (B6 rfl rfl rfl hu) ?_;refine goN ?_;refine RS.w rfl (by exact rfl) ?_;refine aI rfl (bh _) Ak ?_;refine goN ?_;refine aI rfl hpdq HW ?_;refine goN ?_;refine⟨.inl rfl,[],rfl,.tup [],_,zF _,Gh.refl _ _ _,rfl,rfl⟩
end Go.Proofs
namespace Go.Proofs
open Go Go.Rx Go.Vx Go.Shelf Go.RowKit Go.Sort Tryz
set_option maxRecDepth 20000
set_option maxHeartbeats 4000000
set_option synthInstance.maxSize 4000
set_option synthInstance.maxHeartbeats 200000
def O5(a b:eE):Bool:=a.f==b.f&&a.to==b.to
theorem mf(a b:eE)(h:O5 a b=true):a=b:=by
 cases a;cases b;simpa[O5]using h
def LW(l:List eE):Option (List eE):=Kc O5 (fun a b=>some (wrap64 (a.f-b.f))) l
variable{K:Nat}
theorem JU{nm:Nat->Nat}{σ:Sg}{t:Nat}{xs ys:List eE}(h:LW xs=some ys)(hg:gt σ.h K=some (.vec (xs.map (bH nm)).flatten 107 2 t)):
  aO prog 73 [.vl K t 0 xs.length,.fn (.func 74) [] []] σ (fun u σ'=>∃H,u=.tup []/\σ'=⟨H,σ.nx⟩/\gt H K=some (.bv (bH nm) ys 107 2 t)/\∀k,k≠K->gt H k=gt σ.h k):=by
 obtain⟨h1,h2,rfl⟩:=Qa h;cases xs with
 |nil=>exact(TR (Mf sZ.h hg)).mono fun u s ⟨h3,h4⟩=>⟨σ.h,h3,h4,hg,fun _ _=>rfl⟩
 |cons x xs=>refine aO.mono (aO.sortC0 (encU:=bH nm) (fun _=>rfl) (by decide) (fun _=>rfl) JW (x::xs) (S' mf h2) (fun a b r h=>by cases h;exact OH nm a b) nofun (by omega) hg) fun u s ⟨h3,h4⟩=>⟨_,h3,h4,by rw[bL,if_pos rfl,hg];rfl,fun k hk=>by rw[bL,if_neg (Ne.symm hk)]⟩
theorem Zi{xs ys:List eE}(h:LW xs=some ys):∀a,a∈ys↔a∈xs:=by
 obtain⟨h1,h2,rfl⟩:=Qa h;intro a;exact(QM _ xs).mem_iff
def lE(nm:Nat->Nat)(x:PN)(u:U):List U:=[.i6 x.kind,u,po nm x.fw,.i6 x.fwA,.i6 x.mt,.i6 x.mtA,.iM (bH nm) x.more,.i6 x.moA,po nm x.cp,.i6 x.cpA,.bool x.ch,.i6 x.chA]
structure PF(kp kr st:Nat)(nm:Nat->Nat)(P:PP)(h:List (Nat×B)):Prop where
 pool:gt h kp=some (.row (lR kr st P) 83)
 node:∀i x,P.N[i]? = some x->∃u,gt h (nm i)=some (.row (lE nm x u) 103)
section
variable{kp kr st:Nat}{nm:Nat->Nat}{P:PP}{h:List (Nat×B)}{nx:Nat}
theorem PF.gp(p:PF kp kr st nm P h):dK h kp (.row [.iM iK P.H.Types,.iM kS P.H.Feats,.vl kr st 0 P.roots.length,.i6 P.size,.i6 P.gen] 83):=⟨p.pool⟩
theorem PF.gn(p:PF kp kr st nm P h){i:Nat}{x:PN}(hx:P.N[i]? = some x):∃u,dK h (nm i) (.row [.i6 x.kind,u,po nm x.fw,.i6 x.fwA,.i6 x.mt,.i6 x.mtA,.iM (bH nm) x.more,.i6 x.moA,po nm x.cp,.i6 x.cpA,.bool x.ch,.i6 x.chA] 103):=(p.node i x hx).imp fun u h=>⟨h⟩
theorem py(p:PF kp kr st nm P h)(n:Nat){i r:Nat}(J:qM P.N P.gen n i=some r):aO prog 66 [.ptr kp 0 0,pt nm i] ⟨h,nx⟩ (fun u σ'=>u=pt nm r/\σ'=⟨h,nx⟩):=by
 haveI:=p.gp
 refine dF 23 p9 ?_;refine goN ?_;refine gL (fun m tm σ=>∃i,qM P.N P.gen m i=some r/\tm=fr 23 [(0,.ptr kp 0 0),(1,pt nm i)]/\σ=⟨h,nx⟩) (fun _ _=>False) n ⟨i,J,rfl,rfl⟩ (fun _ _ h=>h.elim) ?_ (zF _);rintro(_ |m) _ _ ⟨i,J,rfl,rfl⟩;cases J;obtain⟨x,hx,J⟩:=aB J;obtain⟨u,hu⟩:=p.gn hx
 haveI:=hu
 refine goN ?_;apply aL;refine goN ?_;refine dE [] ?_;refine c8 ?_;cases hb:x.fwA != P.gen with
 |true=>rw[hb]at J;obtain rfl:=sI J;refine gZ rfl (KE hb rfl) oY ?_;refine c8 ?_;refine aZ ⟨by kernel_rfl,trivial,?_⟩;refine goN ?_;refine cU rfl (fun h1=>?_) (fun h1=>by cases h1);refine goN ?_;exact rY rfl rfl rfl (zF _) ⟨rfl,rfl⟩
 |false=>rw[hb]at J;obtain⟨q,hq,J⟩:=aB J;refine gZ rfl (KE (v:=pt nm q) hb (by rw[hq];rfl)) oY ?_;refine c8 ?_;refine aZ ⟨by kernel_rfl,trivial,?_⟩;refine goN ?_;refine cU rfl (fun h1=>by cases h1) (fun h1=>?_);refine goN ?_;exact⟨m,_,_,zN _,⟨q,J,rfl,rfl⟩,zF _,Gh.sub (by((repeat refine⟨rfl,?_⟩);exact trivial))⟩
end
def fC(k:Int)(l:List eE):PN:=⟨k,l,none,0,0,0,[],0,none,0,false,0⟩
section
variable{nm nm':Nat->Nat}{n:Nat}
theorem VY(h:∀k,k<n->nm' k=nm k){l:List eE}(hl:∀a∈l,a.to<n):l.map (bH nm')=l.map (bH nm):=List.map_congr_left fun a ha=>by simp only[bH,pt,h _ (hl a ha)]
theorem wj(h:∀k,k<n->nm' k=nm k){l:List Nat}(hl:∀a∈l,a<n):l.map (cD nm')=l.map (cD nm):=List.map_congr_left fun a ha=>by simp only[cD,pt,h _ (hl a ha)]
theorem VC(h:∀k,k<n->nm' k=nm k):∀{o:Option Nat},EL n o->po nm' o=po nm o
 |none,_=>rfl|some i,hi=>by simp only[po,pt,h i hi]
theorem wl(h:∀k,k<n->nm' k=nm k){x:PN}(w:gJ n x):jJ nm' x=jJ nm x:=by
 simp only[jJ,U.iM];rw[VY h w.arcs,VY h w.more,VC h w.fw,VC h w.cp]
theorem EL.le{m:Nat}(h:n<=m):∀{o:Option Nat},EL n o->EL m o
 |none,_=>trivial|some i,hi=>Nat.lt_of_lt_of_le hi h
theorem gJ.le{m:Nat}(h:n<=m){x:PN}(w:gJ n x):gJ m x:=⟨fun a ha=>Nat.lt_of_lt_of_le (w.arcs a ha) h,w.fw.le h,fun a ha=>Nat.lt_of_lt_of_le (w.more a ha) h,w.cp.le h⟩
end
section
variable{kp kr st:Nat}{nm:Nat->Nat}{P:PP}{h:List (Nat×B)}{nx:Nat}
theorem PH.kpn(p:PH kp kr st nm P h){i:Nat}(hi:i<P.N.length):nm i≠kp:=fun e=>by
 have:=p.node i _ (List.getElem?_eq_getElem hi);rw[e,p.pool]at this;simp at this
theorem PH.krn(p:PH kp kr st nm P h){i:Nat}(hi:i<P.N.length):nm i≠kr:=fun e=>by
 have:=p.node i _ (List.getElem?_eq_getElem hi);rw[e,p.roots]at this;cases this
theorem PH.krp(p:PH kp kr st nm P h):kr≠kp:=fun e=>by
 have:=p.roots;rw[e,p.pool]at this;cases this
theorem PH.setP(p:PH kp kr st nm P h)(s g:Int){H:List (Nat×B)}(h1:gt H kp=some (.row (lR kr st { P with size:=s,gen:=g }) 83))(h2:∀k b,gt h k=some b->k≠kp->gt H k=some b):PH kp kr st nm { P with size:=s,gen:=g } H :=
 ⟨h1,h2 _ _ p.roots p.krp,fun i x hx=>h2 _ _ (p.node i x hx) (p.kpn (zG.1 hx).1),p.inj,p.wf,p.rt⟩
def nG(nm:Nat->Nat)(n K:Nat):Nat->Nat:=fun k=>if k=n then K else nm k
theorem o4{n:Nat}:∀k,k<n->nG nm n K k=nm k:=fun k hk=>by rw[nG,if_neg (by omega)]
theorem KN{n:Nat}:nG nm n K n=K:=by rw[nG,if_pos rfl]
end
structure PQ(kp kr st:Nat)(nm:Nat->Nat)(P:PP)(c:Nat)(h:List (Nat×B)):Prop where
 pool:gt h kp=some (.row (lR kr st P) 83)
 roots:gt h kr=some (.vec (P.roots.map (cD nm)).flatten 92 1 st)
 node:∀i x,P.N[i]? = some x->i<c->gt h (nm i)=some (.row (jJ nm x) 103)
 pend:∀i x,P.N[i]? = some x->c<=i->gt h (nm i)=some (.row (lE nm x .nils) 103)/\x.arcs=[]
 inj:∀i j,i<P.N.length->j<P.N.length->nm i=nm j->i=j
 wf:∀x∈P.N,gJ P.N.length x
 rt:∀r∈P.roots,r<P.N.length
section
variable{kp kr st c:Nat}{nm:Nat->Nat}{P:PP}{h:List (Nat×B)}{nx:Nat}
theorem PH.pq(p:PH kp kr st nm P h):PQ kp kr st nm P P.N.length h:=⟨p.pool,p.roots,fun i x hx _=>p.node i x hx,fun i x hx hc=>absurd (zG.1 hx).1 (by omega),p.inj,p.wf,p.rt⟩
theorem PQ.ph(p:PQ kp kr st nm P c h)(hc:P.N.length<=c):PH kp kr st nm P h:=⟨p.pool,p.roots,fun i x hx=>p.node i x hx (by have:=(zG.1 hx).1;omega),p.inj,p.wf,p.rt⟩
theorem PQ.row(p:PQ kp kr st nm P c h){i:Nat}{x:PN}(hx:P.N[i]? = some x):∃u,gt h (nm i)=some (.row (lE nm x u) 103):=by
 rcases Nat.lt_or_ge i c with hi |hi;exact⟨_,p.node i x hx hi⟩;exact⟨_,(p.pend i x hx hi).1⟩
variable{i:Nat}
theorem PQ.rowL(p:PQ kp kr st nm P c h)(hi:i<P.N.length):∃q,gt h (nm i)=some (.row q 103):=by
 obtain⟨u,hu⟩:=p.row (List.getElem?_eq_getElem hi);exact⟨_,hu⟩
theorem PQ.pf(p:PQ kp kr st nm P c h):PF kp kr st nm P h:=⟨p.pool,fun i x hx=>p.row hx⟩
variable{H:List (Nat×B)}
theorem PQ.more(p:PQ kp kr st nm P c h)(h2:∀k b,gt h k=some b->gt H k=some b):PQ kp kr st nm P c H :=
 ⟨h2 _ _ p.pool,h2 _ _ p.roots,fun i x hx hc=>h2 _ _ (p.node i x hx hc),fun i x hx hc=>⟨h2 _ _ (p.pend i x hx hc).1,(p.pend i x hx hc).2⟩,p.inj,p.wf,p.rt⟩
theorem PQ.kpn(p:PQ kp kr st nm P c h)(hi:i<P.N.length):nm i≠kp:=fun e=>by
 obtain⟨q,hq⟩:=p.rowL hi;rw[e,p.pool]at hq;simp at hq
theorem PQ.krn(p:PQ kp kr st nm P c h)(hi:i<P.N.length):nm i≠kr:=fun e=>by
 obtain⟨q,hq⟩:=p.rowL hi;rw[e,p.roots]at hq;cases hq
theorem PQ.krp(p:PQ kp kr st nm P c h):kr≠kp:=fun e=>by
 have:=p.roots;rw[e,p.pool]at this;cases this
theorem PQ.lt(p:PQ kp kr st nm P c h)(hw:jA ⟨h,nx⟩)(hi:i<P.N.length):nm i<nx:=by
 obtain⟨q,hq⟩:=p.rowL hi;exact(hw _ _ hq).1
theorem PQ.setP(p:PQ kp kr st nm P c h)(s:Int):PQ kp kr st nm { P with size:=s } c (ug h kp (.row (lR kr st { P with size:=s }) 83)):=by
 have h2:∀k,k≠kp->gt (ug h kp (.row (lR kr st { P with size:=s }) 83)) k=gt h k:=fun k hk=>by rw[bL,if_neg (Ne.symm hk)]
 refine⟨by rw[bL,if_pos rfl,p.pool];rfl,by rw[h2 _ p.krp];exact p.roots,fun i x hx hc=>?_,fun i x hx hc=>?_,p.inj,p.wf,p.rt⟩;rw[h2 _ (p.kpn (zG.1 hx).1)];exact p.node i x hx hc;rw[h2 _ (p.kpn (zG.1 hx).1)];exact p.pend i x hx hc
theorem PQ.upd(p:PQ kp kr st nm P c h){c':Nat}{x y:PN}(hx:P.N[i]? = some x)(hi:i<c')(hc:∀j,j≠i->(j<c↔j<c'))(hy:gJ P.N.length y)(h1:gt H (nm i)=some (.row (jJ nm y) 103))(h2:∀k b,gt h k=some b->k≠nm i->gt H k=some b):PQ kp kr st nm { P with N:=P.N.set i y } c' H:=by
 have hil:i<P.N.length:=(zG.1 hx).1;have key:∀j z,(P.N.set i y)[j]? = some z->j≠i->P.N[j]? = some z/\nm j≠nm i:=fun j z hz hj=>by rw[List.getElem?_set,if_neg (Ne.symm hj)]at hz;exact⟨hz,fun e=>hj (p.inj _ _ (zG.1 hz).1 hil e)⟩
 refine⟨h2 _ _ p.pool (Ne.symm (p.kpn hil)),h2 _ _ p.roots (Ne.symm (p.krn hil)),fun j z hz hj=>?_,fun j z hz hj=>?_,fun a b ha hb=>p.inj a b (by simpa using ha) (by simpa using hb),fun z hz=>?_,fun r hr=>by simpa using p.rt r hr⟩;by_cases e:j=i;subst e;have hz:(P.N.set j y)[j]? = some z:=hz;rw[List.getElem?_set,if_pos rfl,if_pos hil]at hz;cases hz;exact h1;obtain⟨k1,k2⟩:=key j z hz e;exact h2 _ _ (p.node j z k1 ((hc j e).2 hj)) k2;have e:j≠i:=by omega
 obtain⟨k1,k2⟩:=key j z hz e;have h3:=p.pend j z k1 (by have:=hc j e;omega);exact⟨h2 _ _ h3.1 k2,h3.2⟩;have hlen:(P.N.set i y).length=P.N.length:=by simp
 show gJ (P.N.set i y).length z;rw[hlen];rcases List.mem_or_eq_of_mem_set hz with hz |rfl;exact p.wf z hz;exact hy
theorem ai{nm':Nat->Nat}{n:Nat}(h:∀k,k<n->nm' k=nm k){x:PN}(w:gJ n x)(u:U):lE nm' x u=lE nm x u:=by
 simp only[lE,U.iM];rw[VY h w.more,VC h w.fw,VC h w.cp]
theorem PQ.add(p:PQ kp kr st nm P c h)(hw:jA ⟨h,nx⟩)(hc:c<=P.N.length)(k:Int)(h1:gt H nx=some (.row (lE (nG nm P.N.length nx) (fC k []) .nils) 103))(h2:∀k b,gt h k=some b->gt H k=some b):PQ kp kr st (nG nm P.N.length nx) { P with N:=P.N++[fC k []] } c H:=by
 have hlt:∀i,i<P.N.length->nm i<nx:=fun i hi=>p.lt hw hi;have hlen:(P.N++[fC k []]).length=P.N.length+1:=by simp
 have key:∀i x,(P.N++[fC k []])[i]? = some x->(i<P.N.length/\P.N[i]? = some x)\/(i=P.N.length/\x=fC k []):=fun i x hx=>by
  rcases Nat.lt_or_ge i P.N.length with hi |hi;rw[List.getElem?_append_left hi]at hx;exact .inl ⟨hi,hx⟩;have hil:=(zG.1 hx).1;have:i=P.N.length:=by omega
  subst this;rw[List.getElem?_append_right (zF _)]at hx;simp at hx;exact .inr ⟨rfl,hx.symm⟩
 refine⟨h2 _ _ p.pool,?_,fun i x hx hi=>?_,fun i x hx hi=>?_,fun i j hi hj e=>?_,fun x hx=>?_,fun r hr=>?_⟩;rw[h2 _ _ p.roots];show some (B.vec (P.roots.map _).flatten _ _ _)=some (B.vec (P.roots.map _).flatten _ _ _);rw[wj (nm:=nm) (o4 (nm:=nm)) p.rt];rcases key i x hx with⟨h3,h4⟩|⟨rfl,rfl⟩;rw[o4 i h3,h2 _ _ (p.node i x h4 hi),wl o4 (p.wf x (zX h4))];omega;rcases key i x hx with⟨h3,h4⟩|⟨rfl,rfl⟩;rw[o4 i h3,h2 _ _ (p.pend i x h4 hi).1,ai o4 (p.wf x (zX h4))];exact⟨rfl,(p.pend i x h4 hi).2⟩;rw[KN];exact⟨h1,rfl⟩;have hi:i<(P.N++[fC k []]).length:=hi;have hj:j<(P.N++[fC k []]).length:=hj;rw[hlen]at hi hj;rcases Nat.lt_succ_iff_lt_or_eq.1 hi with hi |rfl<;>rcases Nat.lt_succ_iff_lt_or_eq.1 hj with hj |rfl;rw[o4 i hi,o4 j hj]at e;exact p.inj i j hi hj e;rw[o4 i hi,KN]at e;have:=hlt i hi;omega;rw[o4 j hj,KN]at e;have:=hlt j hj;omega;rfl;show gJ (P.N++[fC k []]).length x;rw[hlen];rcases yD.1 hx with hx |hx;exact(p.wf x hx).le (Nat.le_succ _);simp at hx;subst hx;exact⟨nofun,trivial,nofun,trivial⟩;show r<(P.N++[fC k []]).length;rw[hlen];exact Nat.lt_succ_of_lt (p.rt r hr)
end
end Go.Proofs
namespace Go.Proofs
open Go Go.Rx Go.Vx Tryz
set_option maxRecDepth 20000
set_option maxHeartbeats 4000000
set_option synthInstance.maxSize 4000
set_option synthInstance.maxHeartbeats 200000
def XY(g:Int):List Nat->List PN->Int->Option (List PN×Int)
 |[],N,s=>some (N,s)|p::l,N,s=>a8 N[p]? fun x=>cond (xF g x)
   (XY g l ((N++[fC (jP g x) []]).set p { x with cp:=some N.length,cpA:=g }) (IntKind.i64.wrap (s+1)))
   (XY g l (N.set p { x with cp:=some p,cpA:=g }) s)
def xE(g:Int)(x:PN):Option Nat:=cond (x.cpA != g) none x.cp
def DW(N:List PN)(g:Int)(n:Nat):List eE->List eE->Option (List eE)
 |[],d=>some d|a::l,d=>a8 (qM N g n a.to) fun r=>a8 N[r]? fun y=>a8 (xE g y) fun q=>aH (d.length<=1000000) (DW N g n l (d++[⟨a.f,q⟩]))
def XX(g:Int)(n:Nat):List Nat->List PN->Nat->Option (List PN)
 |[],N,c=>aH (c=N.length) (some N)|p::l,N,c=>a8 N[p]? fun x=>a8 (xE g x) fun q=>cond (Nat.beq q p) (XX g n l N c)
   (a8 N[q]? fun y=>aH (q=c/\p<c/\(cG g x).length<=1000000) (a8 (DW N g n (cG g x) []) fun d=>a8 (LW d) fun d'=>XX g n l (N.set q { y with arcs:=d' }) (c+1)))
def Bl(g:Int)(n:Nat)(N:List PN)(s:Int)(i:Nat):Option (Nat×List PN×Int):=
 a8 (xD N g n n 0 [i]) fun l=>a8 (Kd g n l N) fun N1=>a8 (XY g l N1 s) fun r=>a8 (XX g n l r.1 N.length) fun N3=>a8 N3[i]? fun x=>a8 (xE g x) fun q=>some (q,N3,r.2)
section
variable{kp kr st c:Nat}{nm:Nat->Nat}{P:PP}{h:List (Nat×B)}{nx:Nat}
variable{i:Nat}
variable{x:PN}
theorem pj(p:PF kp kr st nm P h)(hx:P.N[i]? = some x):aO prog 70 [.ptr kp 0 0,pt nm i] ⟨h,nx⟩ (fun u σ'=>u=.i6 (jP P.gen x)/\σ'=⟨h,nx⟩):=by
 haveI:=p.gp
 obtain⟨u,hu⟩:=p.gn hx
 haveI:=hu
 refine dF 25 oZ ?_;refine goN ?_;refine dE [] ?_;refine c8 ?_;refine gZ rfl (fun s=>ZG s x.mt x.mtA P.gen) yY ?_;refine c8 ?_;refine aZ ⟨by kernel_rfl,trivial,?_⟩;refine goN ?_;refine cU rfl (fun h1=>?_) (fun h1=>?_);refine goN ?_;have h2:(x.mtA != P.gen)=false:=by simpa using h1
 exact rY rfl rfl rfl (zF _) ⟨by rw[jP,h2];rfl,rfl⟩;refine goN ?_;have h2:(x.mtA != P.gen)=true:=by simpa using h1
 exact rY rfl rfl rfl (zF _) ⟨by rw[jP,h2];rfl,rfl⟩
theorem bm(p:PQ kp kr st nm P c h)(hx:P.N[i]? = some x)(hi:i<c)(hl:(cG P.gen x).length<=1000000):aO prog 72 [.ptr kp 0 0,pt nm i] ⟨h,nx⟩ (fun u σ'=>u=.iM (bH nm) (cG P.gen x)/\σ'=⟨h,nx⟩):=by
 refine aO.wf fun hw _=>?_;have hbl:=QU (nm:=nm) (n:=nx) _ fun a ha=>p.lt hw (US (g:=P.gen) (p.wf x (zX hx)) a ha);rw[cG,zU]at hl
 haveI:=p.pf.gp
 haveI:dK h (nm i) (.row [.i6 x.kind,.iM (bH nm) x.arcs,po nm x.fw,.i6 x.fwA,.i6 x.mt,.i6 x.mtA,.iM (bH nm) x.more,.i6 x.moA,po nm x.cp,.i6 x.cpA,.bool x.ch,.i6 x.chA] 103):=⟨p.node i x hx hi⟩
 refine dF 26 uB ?_;refine goN ?_;refine dE [] ?_;refine c8 ?_;refine gZ rfl (fun s=>E9 s nm x.more x.moA P.gen) pB ?_;refine c8 ?_;refine aZ ⟨by kernel_rfl,trivial,?_⟩;refine goN ?_;refine i7 rfl (eG rfl sS rfl).2 (Oz h nx nm x.arcs (by omega)) rfl rfl ?_;rintro _ _ ⟨rfl,rfl⟩;refine goN ?_;refine RS.w rfl (oAq (c:=bH nm) (xs:=x.arcs) (ys:=nJ P.gen x) rfl rfl rfl rfl rfl rfl rfl rfl ⟨by omega,by omega⟩) ?_;refine goN ?_;refine⟨.inr rfl,_,dO rfl dX,_,⟨h,nx⟩,zF _,Bi (c:=bH nm) (xs:=cG P.gen x) (e:=107) (sz:=2) (K:=nx) (st:=1) hw (zF _) (by simp[aK,cG]) (fun k hk=>fY hk) (Nat.le_succ _) (tm':=[.iM (bH nm) (cG P.gen x)]) ?_ (by simp only[aE,aJ,and_true];exact hbl) (zF _),rfl,rfl⟩;exact congrArg (fun u=>[u]) (CR (c:=bH nm) (sz:=2) (fun _=>rfl) (cG P.gen x) nx 2 107 1)
structure kI(kp kr st:Nat)(nm:Nat->Nat)(P:PP)(h:List (Nat×B))(nx:Nat)(nm1:Nat->Nat)(N:List PN)(s:Int)(c:Nat)(H:List (Nat×B))(M:Nat):Prop where
 ph:PQ kp kr st nm1 { P with N:=N,size:=s } c H
 nmE:∀k,k<P.N.length->nm1 k=nm k
 new:∀k,P.N.length<=k->k<N.length->nx<=nm1 k
 fr:∀k,k<nx->k≠kp->(∀i,i<P.N.length->nm i≠k)->gt H k=gt h k
 le:nx<=M
 len:P.N.length<=N.length
 cl:P.N.length<=c
theorem VD{g:Int}{q:Nat}(h:xE g x=some q):(x.cpA != g)=false/\x.cp=some q:=by
 unfold xE at h;rcases hb:x.cpA != g with _|_;rw[hb]at h;exact⟨rfl,h⟩;rw[hb]at h;cases h
theorem Pl{N:List PN}{g:Int}{n:Nat}:∀{l:List eE}{o o2:List Nat},UG N g n l o=some o2->(∀k∈o,k<N.length)->∀k∈o2,k<N.length
 |[],o,o2,h,ho=>by obtain rfl:=sI h;exact ho
 |a::l,o,o2,h,ho=>by
  obtain⟨q,hq,h⟩:=aB h;cases hc:o.contains q with
  |true=>rw[hc]at h;exact Pl h ho|false=>
   rw[hc]at h;obtain⟨_,h⟩:=bU h;refine Pl h fun k hk=>?_;rcases yD.1 hk with hk |hk
   exact ho k hk;simp at hk;subst hk;exact Dt hq
theorem Xp{N:List PN}{g:Int}{n:Nat}:∀{m i:Nat}{o o2:List Nat},xD N g n m i o=some o2->(∀k∈o,k<N.length)->∀k∈o2,k<N.length
 |0,i,o,o2,h,ho=>by cases h
 |m+1,i,o,o2,h,ho=>by
  change cond (decide (i<o.length)) _ _=some o2 at h;cases hb:decide (i<o.length)with
  |false=>rw[hb]at h;obtain rfl:=sI h;exact ho
  |true=>rw[hb]at h;obtain⟨p,_,h⟩:=aB h;obtain⟨x,_,h⟩:=aB h;obtain⟨_,h⟩:=bU h;obtain⟨o1,h1,h⟩:=aB h;exact Xp h (Pl h1 ho)
theorem Nk{N:List PN}{g:Int}{n m:Nat}(hN:∀x∈N,gJ m x):∀{l d d':List eE},DW N g n l d=some d'->(∀a∈d,a.to<m)->∀a∈d',a.to<m
 |[],d,d',h,hd=>by obtain rfl:=sI h;exact hd
 |a::l,d,d',h,hd=>by
  obtain⟨r,_,h⟩:=aB h;obtain⟨y,hy,h⟩:=aB h;obtain⟨q,hq,h⟩:=aB h;obtain⟨_,h⟩:=bU h;refine Nk hN h fun b hb=>?_;rcases yD.1 hb with hb |hb
  exact hd b hb;simp at hb;subst hb;have:=(hN y (zX hy)).cp;rw[(VD hq).2]at this;exact this
theorem Ny(p:PH kp kr st nm P h)(n:Nat)(hi:i<P.N.length){r:Nat×List PN×Int}(J:Bl P.gen n P.N P.size i=some r):
  aO prog 46 [.ptr kp 0 0,pt nm i] ⟨h,nx⟩ (fun u σ'=>∃H M nm1,u=pt nm1 r.1/\σ'=⟨H,M⟩/\kI kp kr st nm P h nx nm1 r.2.1 r.2.2 r.2.1.length H M/\r.1<r.2.1.length):=by
 refine aO.wf fun oU _=>?_;obtain⟨l,h1,J⟩:=aB J;obtain⟨N1,h2,J⟩:=aB J;obtain⟨r1,h3,J⟩:=aB J;obtain⟨N3,h4,J⟩:=aB J;obtain⟨x3,h5,J⟩:=aB J;obtain⟨q3,h6,J⟩:=aB J;obtain rfl:=sI J;have hl:∀i∈l,i<P.N.length:=Xp h1 (by simpa using hi);obtain⟨hll,_⟩:=bU h2;refine dF 146 Ad ?_;refine goN ?_;refine aI rfl (ur p n hi h1) ZW ?_;refine goN ?_;refine i7 rfl (eG rfl ZV rfl).2 (ln p n hl h2) rfl rfl ?_;rintro _ _ ⟨H1,M1,rfl,rfl,j7,hlen1,oV,oX⟩;refine goN ?_;have c1:kI kp kr st nm P h nx nm N1 P.size P.N.length H1 M1:=⟨by have:=j7.pq;rw[show({ P with N:=N1 }:PP).N.length=P.N.length from hlen1]at this;exact this,fun _ _=>rfl,fun k a b=>by omega,fun k a _ b=>oX k a b,oV,by omega,zF _⟩;refine gL (fun m tm σ=>∃(t:Nat)(nm1:Nat->Nat)(N:List PN)(s:Int)(H:List (Nat×B))(M:Nat),m=l.length-t/\t<=l.length/\XY P.gen (l.drop t) N s=some r1/\tm=fr 146 [(0,.ptr kp 0 0),(1,pt nm i),(5,.iM (cD nm) l),(27,.iM (cD nm) l),(28,.i6 l.length),(29,.i6 t)]/\σ=⟨H,M⟩/\kI kp kr st nm P h nx nm1 N s P.N.length H M)
  (fun tm σ=>∃(nm1:Nat->Nat)(H:List (Nat×B))(M:Nat),tm=fr 146 [(0,.ptr kp 0 0),(1,pt nm i),(5,.iM (cD nm) l)]/\σ=⟨H,M⟩/\kI kp kr st nm P h nx nm1 r1.1 r1.2 P.N.length H M) l.length
  ⟨0,nm,N1,P.size,H1,M1,rfl,Nat.zero_le _,h3,rfl,rfl,c1⟩ ?_ ?_ oV
 ·rintro _ _ ⟨nm1,H,M,rfl,rfl,hm⟩;refine goN ?_;refine gL (fun m tm σ=>∃(t:Nat)(N:List PN)(c:Nat)(H:List (Nat×B))(M:Nat),m=l.length-t/\t<=l.length/\XX P.gen n (l.drop t) N c=some N3/\tm=fr 146 [(0,.ptr kp 0 0),(1,pt nm i),(69,.iM (cD nm) l),(70,.i6 l.length),(71,.i6 t)]/\σ=⟨H,M⟩/\kI kp kr st nm P h nx nm1 N r1.2 c H M)
   (fun tm σ=>∃(H:List (Nat×B))(M:Nat),tm=fr 146 [(0,.ptr kp 0 0),(1,pt nm i)]/\σ=⟨H,M⟩/\kI kp kr st nm P h nx nm1 N3 r1.2 N3.length H M) l.length
   ⟨0,r1.1,P.N.length,H,M,rfl,Nat.zero_le _,h4,rfl,rfl,hm⟩ ?_ ?_ hm.le
  rintro _ _ ⟨H,M,rfl,rfl,hm⟩;obtain⟨hza,hzp⟩:=VD h6;have hil:i<N3.length:=(zG.1 h5).1;have hxn:=hm.ph.node i x3 h5 hil
  haveI:dK H (nm1 i) (.row [.i6 x3.kind,.iM (bH nm1) x3.arcs,po nm1 x3.fw,.i6 x3.fwA,.i6 x3.mt,.i6 x3.mtA,.iM (bH nm1) x3.more,.i6 x3.moA,po nm1 x3.cp,.i6 x3.cpA,.bool x3.ch,.i6 x3.chA] 103):=⟨hxn⟩
  haveI:=hm.ph.pf.gp
  rw[show pt nm i=pt nm1 i by rw[pt,pt,hm.nmE i hi]];refine goN ?_;refine dE [] ?_;refine c8 ?_;refine gZ rfl (KE (v:=pt nm1 q3) hza (by rw[hzp];rfl)) oY ?_;refine c8 ?_;refine aZ ⟨by kernel_rfl,trivial,?_⟩;refine goN ?_;refine rY rfl rfl rfl hm.le ⟨H,M,nm1,rfl,rfl,hm,?_⟩;have:=(hm.ph.wf x3 (zX h5)).cp;rw[hzp]at this;exact this;rintro _ _ _ ⟨t,N,c,H,M,rfl,ht,hpi,rfl,rfl,hm⟩;refine goN ?_;refine cU rfl (fun h7=>?_) (fun h7=>?_)
  ·have htl:t<l.length:=by simpa using h7
   obtain⟨q,hq⟩:∃a,l[t]? = some a:=⟨_,List.getElem?_eq_getElem htl⟩;have hid:aC l (t:Int)=some q:=by rw[aC,if_pos ⟨by omega,by omega⟩];simpa using hq
   have hdr:l.drop t=q::l.drop (t+1):=by rw[List.drop_eq_getElem_cons htl];rw[List.getElem?_eq_getElem htl]at hq;cases hq;rfl
   have hwr:IntKind.i64.wrap ((t:Int)+1)=((t+1:Nat):Int):=by rw[kR (by omega) (by omega)];rfl
   rw[hdr]at hpi;obtain⟨x,hx,hpi⟩:=aB hpi;obtain⟨q2,Sr,hpi⟩:=aB hpi;obtain⟨hca,hcp⟩:=VD Sr;have hql:=hl q (zX hq);have hqc:q<c:=Nat.lt_of_lt_of_le hql hm.cl;have hpq:cD nm q=cD nm1 q:=by simp only[cD,pt,hm.nmE q hql]
   have hxn:=hm.ph.node q x hx hqc;have hwx:gJ N.length x:=hm.ph.wf x (zX hx);have hq2l:q2<N.length:=by have:=hwx.cp;rw[hcp]at this;exact this
   have hqN:q<N.length:=(zG.1 hx).1;obtain⟨w1,hw1r⟩:=hm.ph.rowL hqN;obtain⟨w2,hw2r⟩:=hm.ph.rowL hq2l
   haveI:dK H (nm1 q) (.row [.i6 x.kind,.iM (bH nm1) x.arcs,po nm1 x.fw,.i6 x.fwA,.i6 x.mt,.i6 x.mtA,.iM (bH nm1) x.more,.i6 x.moA,po nm1 x.cp,.i6 x.cpA,.bool x.ch,.i6 x.chA] 103):=⟨hxn⟩
   haveI:=hm.ph.pf.gp
   refine goN ?_;apply aL;refine goN ?_;refine aP hid ?_;rw[hpq];refine goN ?_;refine dE [] ?_;refine c8 ?_;refine gZ rfl (KE (v:=pt nm1 q2) hca (by rw[hcp];rfl)) oY ?_;refine c8 ?_;refine aZ ⟨by kernel_rfl,trivial,?_⟩;refine goN ?_;refine sV rfl (dM.peq tb_ok rfl (.inl rfl) eA.h (bQ iG.h) (cB rfl) (cB rfl) hw2r hw1r) ?_;rintro _ _ ⟨rfl,rfl⟩;have hbeq:Nat.beq (nm1 q2) (nm1 q)=Nat.beq q2 q:=by rw[beq_eq,beq_eq];by_cases e:q2=q;simp[e];have:nm1 q2≠nm1 q:=fun h=>e (hm.ph.inj q2 q hq2l hqN h);simp[e,this]
   rw[if_pos rfl,hbeq];refine goN ?_;refine cU rfl (fun h8=>?_) (fun h8=>?_)
   ·rw[h8]at hpi;refine goN ?_;refine⟨l.length-(t+1),_,_,by omega,⟨t+1,_,_,_,M,rfl,htl,hpi,rfl,rfl,hm⟩,hm.le,Gh.sub ?_⟩;rw[<-hwr];(repeat refine⟨rfl,?_⟩);exact trivial
   rw[h8]at hpi;obtain⟨y,hy,hpi⟩:=aB hpi;obtain⟨⟨rfl,_,hal⟩,hpi⟩:=bU hpi;obtain⟨d,hd,hpi⟩:=aB hpi;obtain⟨d',hd',hpi⟩:=aB hpi;obtain⟨hyn,hya⟩:=hm.ph.pend q2 y hy (zF _);refine goN ?_;refine aI rfl (bm hm.ph hx hqc hal) uB ?_;refine goN ?_;refine WPU.wf fun dZ hbt=>?_;refine cR (vP (nm1 q2) 1 107 2 (by decide) hm.le hyn rfl) (Nat.le_succ_of_le hm.le) ?_;have hkp:kp<M:=(dZ _ _ hm.ph.pool).1;have hyM:nm1 q2<M:=(dZ _ _ hyn).1;have hkq:nm1 q2≠kp:=hm.ph.kpn hq2l;refine gL (fun m tm σ=>∃(j:Nat)(d1:List eE)(s:Nat)(H':List (Nat×B))(M':Nat),m=(cG P.gen x).length-j/\j<=(cG P.gen x).length/\DW N P.gen n ((cG P.gen x).drop j) d1=some d/\tm=fr 146 [(0,.ptr kp 0 0),(1,pt nm i),(13,pt nm1 q2),(69,.iM (cD nm) l),(70,.i6 l.length),(71,.i6 t),(92,.iM (bH nm1) (cG P.gen x)),(93,.i6 (cG P.gen x).length),(94,.i6 j)]/\σ=⟨H',M'⟩/\M<M'/\gt H' M=some (.bv (bH nm1) d1 107 2 s)/\gt H' (nm1 q2)=some (.row (lE nm1 y (.vl M s 0 d1.length)) 103)/\∀k,k<M->k≠nm1 q2->gt H' k=gt H k)
    (fun tm σ=>∃(s:Nat)(H':List (Nat×B))(M':Nat),tm=fr 146 [(0,.ptr kp 0 0),(1,pt nm i),(13,pt nm1 q2),(69,.iM (cD nm) l),(70,.i6 l.length),(71,.i6 t)]/\σ=⟨H',M'⟩/\M<M'/\gt H' M=some (.bv (bH nm1) d 107 2 s)/\gt H' (nm1 q2)=some (.row (lE nm1 y (.vl M s 0 d.length)) 103)/\∀k,k<M->k≠nm1 q2->gt H' k=gt H k) (cG P.gen x).length
    ⟨0,[],0,_,M+1,rfl,Nat.zero_le _,hd,rfl,rfl,zN _,by rw[bL,if_neg (by omega)];simp[newU,aK],by rw[bL,if_pos rfl];simp only[newU];rw[aK,if_neg (by omega),hyn];rfl,fun k hk m4=>by rw[bL,if_neg (Ne.symm m4)];simp only[newU];rw[aK,if_neg (by omega)]⟩ ?_ ?_ (Nat.le_succ_of_le hm.le)
   ·rintro _ _ ⟨s,H',M',rfl,rfl,hMM,hv,hyr,hfr⟩
    haveI:dK H' (nm1 q2) (.row [.i6 y.kind,.vl M s 0 d.length,po nm1 y.fw,.i6 y.fwA,.i6 y.mt,.i6 y.mtA,.iM (bH nm1) y.more,.i6 y.moA,po nm1 y.cp,.i6 y.cpA,.bool y.ch,.i6 y.chA] 103):=⟨hyr⟩
    refine goN ?_;refine i7 rfl (eG rfl ZU rfl).2 (JU (nm:=nm1) hd' hv) rfl rfl ?_;rintro _ _ ⟨H2,rfl,rfl,hv2,E4⟩;refine goN ?_;have hdl:d.length=d'.length:=by obtain⟨_,_,rfl⟩:=Qa hd';exact(QM _ d).length_eq.symm
    have sL:∀k,k<N.length->nm1 k<M:=fun k hk=>hm.ph.lt dZ hk;have hwy:gJ N.length y:=hm.ph.wf y (zX hy);have gtfz:∀k,k<M->k≠nm1 q2->gt (fzH M (.bv (bH nm1) d' 107 2 s) 2 H2) k=gt H k:=fun k hk m4=>by rw[wO,if_neg (by omega),E4 k (by omega)];show Option.map _ (gt H' k)=_;rw[hfr k hk m4];rcases hq:gt H k with _|b';rfl;simp only[zM];rw[QG _ _ (dZ k b' hq).2]
    have vG:kI kp kr st nm P h nx nm1 (N.set q2 { y with arcs:=d' }) r1.2 (q2+1) (fzH M (.bv (bH nm1) d' 107 2 s) 2 H2) M':=by refine⟨hm.ph.upd hy (zN _) (fun j hj=>by omega) ⟨fun a ha=>?_,hwy.fw,hwy.more,hwy.cp⟩ ?_ fun k b hb hk=>by rw[gtfz k (dZ k b hb).1 hk];exact hb,hm.nmE,fun k a b=>hm.new k a (by simpa using b),fun k a b e=>?_,by have:=hm.le;omega,by simpa using hm.len,Nat.le_succ_of_le hm.cl⟩;exact Nk hm.ph.wf hd nofun a ((Zi hd' a).1 ha);rw[wO,if_neg (by omega),E4 _ (by omega)];show Option.map _ (gt H' (nm1 q2))=_;rw[hyr];have e1:=CR (c:=bH nm1) (sz:=2) (fun _=>rfl) d' M 2 107 s;rw[<-hdl]at e1;simp only[zM,fzB,lE,wU,D3,CX,CW,FQ,CY _ _ _ (Q7 sL hwy.fw),CY _ _ _ (Q7 sL hwy.cp)];rw[e1];rfl;rw[gtfz k (by have:=hm.le;omega) fun e2=>by have:=hm.new q2 hm.cl hq2l;omega];exact hm.fr k a b e
    refine⟨l.length-(t+1),_,_,by omega,⟨t+1,_,q2+1,_,M',rfl,htl,hpi,rfl,rfl,vG⟩,by have:=hm.le;show nx<=M';omega,Gh.trans (Gh.sub ?_) (Gh.fz (σ:=⟨H2,M'⟩) M (.bv (bH nm1) d' 107 2 s) 2 hv2 nofun (qR _ _ _ (V5 ?_)) rfl)⟩
    ·rw[<-hwr];(repeat refine⟨rfl,?_⟩);exact trivial
    simp only[BelS,aJ,and_true,true_and];refine⟨hkp,?_,?_⟩;rw[<-hm.nmE i hi];exact sL i (Nat.lt_of_lt_of_le hi hm.len);rw[QV];intro c hc;obtain⟨a,ha,rfl⟩:=List.mem_map.1 hc;simp only[cD,pt,aE,aJ,and_true];rw[<-hm.nmE a (hl a ha)];exact sL a (Nat.lt_of_lt_of_le (hl a ha) hm.len)
   rintro _ _ _ ⟨j,d1,s,H',M',rfl,hj,hpc,rfl,rfl,hMM,hv,hyr,hfr⟩;refine WPU.wf fun kT oq=>?_
   haveI:SuC M' (M'+1):=⟨rfl⟩
   haveI:SuC (M'+1) (M'+2):=⟨rfl⟩
   have hpf:PF kp kr st nm1 { P with N:=N,size:=r1.2 } H':=⟨by rw[hfr kp hkp (Ne.symm hkq)];exact hm.ph.pool,fun k z hz=>by
    by_cases e:k=q2;subst e;have:y=z:=by rw[show N[k]? = some z from hz]at hy;cases hy;rfl
    subst this;exact⟨_,hyr⟩;have hkl:k<N.length:=(zG.1 hz).1;rw[hfr _ (hm.ph.lt dZ hkl) fun e2=>e (hm.ph.inj _ _ hkl hq2l e2)];exact hm.ph.row hz⟩
   refine goN ?_;refine cU rfl (fun h9=>?_) (fun h9=>?_)
   ·have hjl:j<(cG P.gen x).length:=by simpa using h9
    obtain⟨a,ha⟩:∃a,(cG P.gen x)[j]? = some a:=⟨_,List.getElem?_eq_getElem hjl⟩;have rC:aC (cG P.gen x) (j:Int)=some a:=by rw[aC,if_pos ⟨by omega,by omega⟩];simpa using ha
    have y6:(cG P.gen x).drop j=a::(cG P.gen x).drop (j+1):=by rw[List.drop_eq_getElem_cons hjl];rw[List.getElem?_eq_getElem hjl]at ha;cases ha;rfl
    have qY:IntKind.i64.wrap ((j:Int)+1)=((j+1:Nat):Int):=by rw[kR (by omega) (by omega)];rfl
    rw[y6]at hpc;obtain⟨r,hr,hpc⟩:=aB hpc;obtain⟨z,hz,hpc⟩:=aB hpc;obtain⟨q4,oi,hpc⟩:=aB hpc;obtain⟨hdl,hpc⟩:=bU hpc;obtain⟨hza,hzp⟩:=VD oi;have ND:PF kp kr st nm1 { P with N:=N,size:=r1.2 } ((M',.row (bH nm1 a) 107)::H'):=⟨by rw[fY (by omega)];exact hpf.pool,fun k z hz=>by obtain⟨u,hu⟩:=hpf.node k z hz;exact⟨u,by rw[fY (kT _ _ hu).1];exact hu⟩⟩
    haveI:=ND.gp
    obtain⟨u5,og⟩:=ND.gn hz
    haveI:=og
    refine goN ?_;apply aL;refine goN ?_;refine aP rC ?_;refine goN ?_;refine dE [] ?_;refine c8 ?_;refine RD.call rfl (eG rfl p9 rfl).2 (py ND n hr) rfl rfl ?_;refine c8 ?_;refine gZ rfl (KE (v:=pt nm1 q4) hza (by rw[hzp];rfl)) oY ?_;refine c8 ?_;refine aZ ⟨by kernel_rfl,trivial,?_⟩;have ob:nm1 q2<M':=by omega
    haveI:Nq M' (nm1 q2):=⟨by rw[beq_eq];simp;omega⟩
    haveI:Nq (M'+1) (nm1 q2):=⟨by rw[beq_eq];simp;omega⟩
    haveI:Nq (M'+1) M':=⟨by rw[beq_eq];simp⟩
    haveI:dK H' (nm1 q2) (.row [.i6 y.kind,.vl M s 0 d1.length,po nm1 y.fw,.i6 y.fwA,.i6 y.mt,.i6 y.mtA,.iM (bH nm1) y.more,.i6 y.moA,po nm1 y.cp,.i6 y.cpA,.bool y.ch,.i6 y.chA] 103):=⟨hyr⟩
    refine goN ?_;refine dE [(0,9),(0,10),(1,9),(2,9),(3,9),(4,9)] ?_;refine c8 ?_;refine dT ?_;have nN:gt ((M'+1,.row [.i6 a.f,pt nm1 q4] 107)::(M',.row (bH nm1 a) 107)::H') M=some (.vec (d1.map (bH nm1)).flatten 107 2 s):=by rw[aK,if_neg (by omega),aK,if_neg (by omega)];exact hv
    refine RD.act rfl (m8 rfl rfl rfl rfl (tK (bH nm1) [⟨a.f,q4⟩] sZ.h sZ.h sJ.h rfl (fun _=>rfl) nN (vA (bH nm1) [⟨a.f,q4⟩] (q:=[.i6 a.f,pt nm1 q4]) (by simp[rowOf,aK]) rfl rfl rfl) ⟨by simp;omega,by simp;omega⟩)) rfl rfl ?_
    let V:B:=.vec (List.map (bH nm1) (d1++[⟨a.f,q4⟩])).flatten 107 2 (s+1)
    let T:List (Nat×B):=(M'+1,.row [.i6 a.f,pt nm1 q4] 107)::(M',.row (bH nm1 a) 107)::H'
    haveI:dK (ug T M V) (nm1 q2) (.row [.i6 y.kind,.vl M s 0 d1.length,po nm1 y.fw,.i6 y.fwA,.i6 y.mt,.i6 y.mtA,.iM (bH nm1) y.more,.i6 y.moA,po nm1 y.cp,.i6 y.cpA,.bool y.ch,.i6 y.chA] 103):=⟨by rw[bL,if_neg (by omega)];simp only[T];rw[aK,if_neg (by omega),aK,if_neg (by omega)];exact hyr⟩
    refine c8 ?_;refine pI ?_;refine aZ ⟨by kernel_rfl,⟨opm,opm,opm,opm,opm,opm,trivial⟩,?_⟩;refine goN ?_;refine⟨(cG P.gen x).length-(j+1),_,_,by omega,⟨j+1,d1++[⟨a.f,q4⟩],s+1,_,M'+2,rfl,hjl,hpc,rfl,rfl,by omega,?_,?_,fun k hk m4=>?_⟩,by have:=hm.le;show nx<=M'+2;omega,Gh.sub ?_⟩;rw[bL,if_neg (by omega),bL,if_pos rfl];show Option.map _ (gt ((M'+1,_)::(M',_)::H') M)=_;rw[nN];rfl;rw[bL,if_pos rfl,bL,if_neg (by omega)];show Option.map _ (gt ((M'+1,_)::(M',_)::H') (nm1 q2))=_;rw[aK,if_neg (by omega),aK,if_neg (by omega),hyr];rfl;rw[bL,if_neg (Ne.symm m4),bL,if_neg (by omega)];show gt ((M'+1,_)::(M',_)::H') k=_;rw[aK,if_neg (by omega),aK,if_neg (by omega)];exact hfr k hk m4
    ·rw[<-qY];(repeat refine⟨rfl,?_⟩);exact trivial
   ·refine goN ?_;have hjl:j=(cG P.gen x).length:=by
     have:¬ (j:Int)<(cG P.gen x).length:=by simpa using h9
     omega
    subst hjl;rw[List.drop_length]at hpc;obtain rfl:=sI hpc;exact⟨_,_,⟨s,H',M',rfl,rfl,hMM,hv,hyr,hfr⟩,by have:=hm.le;show nx<=M';omega,Gh.sub (by((repeat refine⟨rfl,?_⟩);exact trivial))⟩
  ·refine goN ?_;have htl:t=l.length:=by
    have:¬ (t:Int)<l.length:=by simpa using h7
    omega
   subst htl;rw[List.drop_length]at hpi;obtain⟨hc,hpi⟩:=bU hpi;obtain rfl:=sI hpi;subst hc;exact⟨_,_,⟨H,M,rfl,rfl,hm⟩,hm.le,Gh.sub (by((repeat refine⟨rfl,?_⟩);exact trivial))⟩
 rintro _ _ _ ⟨t,nm1,N,s,H,M,rfl,ht,hpi,rfl,rfl,hm⟩;refine goN ?_;refine cU rfl (fun h7=>?_) (fun h7=>?_)
 ·have htl:t<l.length:=by simpa using h7
  obtain⟨q,hq⟩:∃a,l[t]? = some a:=⟨_,List.getElem?_eq_getElem htl⟩;have hid:aC l (t:Int)=some q:=by rw[aC,if_pos ⟨by omega,by omega⟩];simpa using hq
  have hdr:l.drop t=q::l.drop (t+1):=by rw[List.drop_eq_getElem_cons htl];rw[List.getElem?_eq_getElem htl]at hq;cases hq;rfl
  have hwr:IntKind.i64.wrap ((t:Int)+1)=((t+1:Nat):Int):=by rw[kR (by omega) (by omega)];rfl
  rw[hdr]at hpi;obtain⟨x,hx,hpi⟩:=aB hpi;have hql:=hl q (zX hq);have hpq:cD nm q=cD nm1 q:=by simp only[cD,pt,hm.nmE q hql]
  have hxn:=hm.ph.node q x hx hql
  haveI:dK H (nm1 q) (.row [.i6 x.kind,.iM (bH nm1) x.arcs,po nm1 x.fw,.i6 x.fwA,.i6 x.mt,.i6 x.mtA,.iM (bH nm1) x.more,.i6 x.moA,po nm1 x.cp,.i6 x.cpA,.bool x.ch,.i6 x.chA] 103):=⟨hxn⟩
  have hnq:nm1 q≠kp:=hm.ph.kpn (zG.1 hx).1
  haveI:Nq (nm1 q) kp:=⟨by rw[beq_eq];simpa using hnq⟩
  haveI:Nq kp (nm1 q):=⟨by rw[beq_eq];simpa using hnq.symm⟩
  haveI:=hm.ph.pf.gp
  refine goN ?_;apply aL;refine goN ?_;refine aP hid ?_;rw[hpq];refine goN ?_;refine dE [] ?_;refine c8 ?_;refine gZ rfl (fun s=>NO s x.ch x.chA P.gen) EC ?_;refine c8 ?_;refine aZ ⟨by kernel_rfl,trivial,?_⟩;refine goN ?_;refine cU rfl (fun h8=>?_) (fun h8=>?_)
  ·rw[show xF P.gen x=true from h8]at hpi;refine WPU.wf fun dZ hbt=>?_;have hwx:gJ N.length x:=hm.ph.wf x (zX hx)
   haveI:SuC M (M+1):=⟨rfl⟩
   have hkp:kp<M:=(dZ _ _ hm.ph.pool).1;have hqM:nm1 q<M:=(dZ _ _ hxn).1
   haveI:Nq M kp:=⟨by rw[beq_eq];simp;omega⟩
   haveI:Nq M (nm1 q):=⟨by rw[beq_eq];simp;omega⟩
   refine goN ?_;refine aI rfl (pj hm.ph.pf hx) oZ ?_;refine goN ?_
   let s':=IntKind.i64.wrap (s+1)
   let R0:B:=.row [.i6 (jP P.gen x),.nils,.nilp,.i6 0,.i6 0,.i6 0,.nils,.i6 0,.nilp,.i6 0,.bool false,.i6 0] 103
   let R1:B:=.row (lR kr st { P with N:=N,size:=s' }) 83
   let x':PN:={ x with cp:=some N.length,cpA:=P.gen }
   change RU _ _ _ _ _ (Sg.mk ((M,R0)::ug H kp R1) (M+1)) _
   haveI:dK (ug H kp R1) kp (.row [.iM iK P.H.Types,.iM kS P.H.Feats,.vl kr st 0 P.roots.length,.i6 s',.i6 P.gen] 83):=⟨by rw[bL,if_pos rfl,hm.ph.pool];rfl⟩
   haveI:dK (ug H kp R1) (nm1 q) (.row [.i6 x.kind,.iM (bH nm1) x.arcs,po nm1 x.fw,.i6 x.fwA,.i6 x.mt,.i6 x.mtA,.iM (bH nm1) x.more,.i6 x.moA,po nm1 x.cp,.i6 x.cpA,.bool x.ch,.i6 x.chA] 103):=⟨by rw[bL,if_neg (Ne.symm hnq)];exact hxn⟩
   refine goN ?_;have vG:kI kp kr st nm P h nx (nG nm1 N.length M) ((N++[fC (jP P.gen x) []]).set q x') s' P.N.length ((M,.row (lE (nG nm1 N.length M) (fC (jP P.gen x) []) .nils) 103)::ug (ug H kp R1) (nm1 q) (.row (jJ (nG nm1 N.length M) x') 103)) (M+1):=by
    have oT:(N++[fC (jP P.gen x) []])[q]? = some x:=by rw[List.getElem?_append_left (zG.1 hx).1];exact hx
    have Sq:q<N.length:=(zG.1 hx).1;have q1:=hm.ph.add (H:=(M,.row (lE (nG nm1 N.length M) (fC (jP P.gen x) []) .nils) 103)::H) dZ hm.len (jP P.gen x) (by simp[aK]) fun k b hb=>by rw[fY (dZ k b hb).1];exact hb
    have q2:=q1.setP s';have e0:nG nm1 N.length M q=nm1 q:=o4 q Sq;have q3:=q2.upd (i:=q) (c':=P.N.length) (y:=x') (H:=(M,.row (lE (nG nm1 N.length M) (fC (jP P.gen x) []) .nils) 103)::ug (ug H kp R1) (nm1 q) (.row (jJ (nG nm1 N.length M) x') 103)) oT hql (fun _ _=>Iff.rfl) ⟨fun a ha=>?_,?_,fun a ha=>?_,?_⟩ ?_ ?_;refine⟨q3,fun k hk=>by rw[o4 k (Nat.lt_of_lt_of_le hk hm.len)];exact hm.nmE k hk,fun k ha hb=>?_,fun k ha hb hc=>?_,Nat.le_succ_of_le hm.le,by simp;exact Nat.le_succ_of_le hm.len,zF _⟩;rw[List.length_set,zU]at hb;rcases Nat.lt_or_ge k N.length with h9 |h9;rw[o4 k h9];exact hm.new k ha h9;have:k=N.length:=by simp at hb;omega
    subst this;rw[KN];exact hm.le;rw[aK,if_neg (by have:=hm.le;omega),bL,if_neg fun e=>hc q hql (by rw[<-hm.nmE q hql];exact e),bL,if_neg (Ne.symm hb)];exact hm.fr k ha hb hc;show a.to<(N++[fC (jP P.gen x) []]).length;simp;exact Nat.lt_succ_of_lt (hwx.arcs a ha);show EL (N++[fC (jP P.gen x) []]).length x.fw;exact hwx.fw.le (by simp);show a.to<(N++[fC (jP P.gen x) []]).length;simp;exact Nat.lt_succ_of_lt (hwx.more a ha);show N.length<(N++[fC (jP P.gen x) []]).length;simp;rw[e0,aK,if_neg (by omega),bL,if_pos rfl,bL,if_neg (Ne.symm hnq),hxn];rfl;intro k b hb hk;rw[e0]at hk;by_cases e1:M=k;subst e1;rw[bL,if_neg (by omega),aK,if_pos rfl]at hb;rw[aK,if_pos rfl];exact hb;rw[aK,if_neg e1,bL,if_neg (Ne.symm hk),bL];rw[bL]at hb;have e3:=aK M (.row (lE (nG nm1 N.length M) (fC (jP P.gen x) []) .nils) 103) H k;rw[if_neg e1]at e3;rw[e3,aK,if_neg (by omega:¬ M=kp)]at hb;exact hb
   refine⟨l.length-(t+1),_,_,by omega,⟨t+1,_,_,_,_,M+1,rfl,htl,hpi,rfl,rfl,vG⟩,vG.le,Gh.trans (Gh.sub (l':=[(0,.ptr kp 0 0),(1,pt nm i),(5,.iM (cD nm) l),(27,.iM (cD nm) l),(28,.i6 l.length),(29,.i6 ((t+1:Nat):Int))]) ?_) ?_⟩
   ·rw[<-hwr];(repeat refine⟨rfl,?_⟩);exact trivial
   have e2:jJ (nG nm1 N.length M) x'=[.i6 x.kind,.iM (bH nm1) x.arcs,po nm1 x.fw,.i6 x.fwA,.i6 x.mt,.i6 x.mtA,.iM (bH nm1) x.more,.i6 x.moA,.ptr M 0 0,.i6 P.gen,.bool x.ch,.i6 x.chA]:=by simp only[jJ,U.iM,x'];rw[VY o4 hwx.arcs,VY o4 hwx.more,VC o4 hwx.fw];simp only[po,pt,KN]
   rw[e2];have hgM:∀T:List (Nat×B),gt ((M,R0)::T) M=some R0:=fun T=>by simp[aK]
   have hug:∀(T:List (Nat×B))(b:B),ug ((M,R0)::T) M b=(M,b)::T:=fun T b=>by simp[ug,beq_eq]
   refine(Gh.rowW (σ:=⟨_,M+1⟩) (K:=M) (hgM _) (q':=lE (nG nm1 N.length M) (fC (jP P.gen x) []) .nils) rfl ?_).trans (Gh.eqv rfl ?_);exact .cons (.refl _) (.cons (.refl _) (.cons (.refl _) (.cons (.refl _) (.cons (.refl _) (.cons (.refl _) (.cons (.nil false) (jU.refl _)))))));exact congrArg (fun T=>(⟨T,M+1⟩:Sg)) (hug _ _)
  ·rw[show xF P.gen x=false from h8]at hpi;refine goN ?_;have hwx:gJ N.length x:=hm.ph.wf x (zX hx);have vG:kI kp kr st nm P h nx nm1 (N.set q { x with cp:=some q,cpA:=P.gen }) s P.N.length (ug H (nm1 q) (.row (jJ nm1 { x with cp:=some q,cpA:=P.gen }) 103)) M:=by refine⟨hm.ph.upd hx hql (fun _ _=>Iff.rfl) ⟨hwx.arcs,hwx.fw,hwx.more,Nat.lt_of_lt_of_le hql hm.len⟩ (by rw[bL,if_pos rfl,hxn];rfl) fun k b hb hk=>by rw[bL,if_neg (Ne.symm hk)];exact hb,hm.nmE,fun k a b=>hm.new k a (by simpa using b),fun k a b d=>?_,hm.le,by simpa using hm.len,zF _⟩;rw[bL,if_neg fun e=>d q hql (by rw[<-hm.nmE q hql];exact e)];exact hm.fr k a b d
   refine⟨l.length-(t+1),_,_,by omega,⟨t+1,_,_,_,_,M,rfl,htl,hpi,rfl,rfl,vG⟩,vG.le,Gh.sub ?_⟩;rw[<-hwr];(repeat refine⟨rfl,?_⟩);exact trivial
 ·refine goN ?_;have htl:t=l.length:=by
   have:¬ (t:Int)<l.length:=by simpa using h7
   omega
  subst htl;rw[List.drop_length]at hpi;obtain rfl:=sI hpi;exact⟨_,_,⟨nm1,H,M,rfl,rfl,hm⟩,hm.le,Gh.sub (by((repeat refine⟨rfl,?_⟩);exact trivial))⟩
end
end Go.Proofs
namespace Go.Vx
open Go Go.Rx
variable{σ:Sg}
theorem Gh.rnG{n0 N:Nat}{tm tm':List U}{h':List (Nat×B)}(f:Nat->Nat)(hlo:∀k,k<n0->f k=k)(h0:n0<=N)(key:∀k b,gt h' k=some b->k<N/\BelB N b/\gt σ.h (f k)=some (rB f b))(inj:∀k k' b b',gt h' k=some b->gt h' k'=some b'->f k=f k'->k=k')(hl:dC f tm'=tm)(hb:aE N tm'):Gh n0 tm σ tm' ⟨h',N⟩:=fun F x tv hx hr hf he=>by
 subst hx
 let y:Cx:=⟨fun k=>x.ρ (f k),⟨h',N⟩,x.s⟩
 have hU:FL N f x y:=⟨fun k st off v hk h=>by
   simp only[aA,Ref]at h ⊢;refine⟨h.1,hk,fun b hb=>?_⟩;have:=h.2.2 _ (key k b hb).2.2
   rwa [FC]at this,fun k off m c v hk h=>by
   simp only[aA,Ref]at h ⊢;refine⟨h.1,hk,fun b hb=>?_⟩;have:=h.2.2 _ (key k b hb).2.2
   rwa [FC]at this,fun k st off m v hk h=>by
   simp only[aA]at h ⊢;refine⟨h.1,hk,fun b hb=>?_⟩;have h3:=h.2.2 _ (key k b hb).2.2;rw[FC]at h3;refine⟨h3.1,fun e=>?_⟩;obtain⟨l,e',sz,h4,h5⟩:=h3.2 e;cases b with
   |vec l' e2 s2 q_=>simp only[rB,B.vec.injEq]at h4;exact⟨l',e2,s2,by rw[h4.2.2.2],by rw[h4.2.2.1];exact h5⟩|row=>simp[rB]at h4|map=>simp[rB]at h4,fun k v hk h=>by
   simp only[aA,Ref]at h ⊢;refine⟨h.1,hk,fun b hb=>?_⟩;have:=h.2.2 _ (key k b hb).2.2
   rwa [FC]at this,fun _ _ _ h=>h⟩
 have hback:∀u,aJ n0 u->rU f u=u:=fun u hbu=>by
  have:=Dd (π:=id) (κ:=f) (n:=n0) (fun k hk=>hlo k hk) u hbu
  rwa [TY]at this
 refine⟨y,fun m w hf=>bA.refl hf,rfl,⟨fun k b hb=>?_,fun k k' b b' i hb hb' h1 h2=>?_,hr.bd⟩,fun i b J=>?_,?_,fun u v hbu hv=>?_⟩;obtain⟨hkl,hbb,hg⟩:=key k b hb;obtain⟨g1,g2⟩:=hr.ok _ _ hg;exact⟨hkl,iZ.unleaf hU hbb rfl (fun _ _ _ h=>h) g2⟩;exact inj k k' b b' hb hb' (hr.inj _ _ _ _ i (key k b hb).2.2 (key k' b' hb').2.2 h1 h2);obtain⟨h1,h2⟩:=hf i b J;exact⟨h1,fun k c hc=>h2 _ _ (key k c hc).2.2⟩;exact aQ.unleaf hU hb (by rw[hl];exact he);exact aA.unleaf hU u v (aJ.le h0 u hbu) (by rw[hback u hbu];exact hv)
variable{R:U->Sg->Prop}
theorem aO.gh{P:Program}{f:FuncId}{args:List U}{R':U->Sg->Prop}(h:aO P f args σ R)(hr:∀u σ',R u σ'->jA σ'->σ.nx<=σ'.nx->∃u' aN,Gh σ.nx [u] σ' [u'] aN/\σ.nx<=aN.nx/\R' u' aN):aO P f args σ R':=fun F x vs m w cargs hx hh hfr he hfit hargs=>
 (h F x vs m w cargs hx hh hfr he hfit hargs).mono fun e w₁ ⟨y,aF,u,v,cv,h1,h2,h3,h4,h5,h6,h7,h8,h9⟩=>by obtain⟨u',aN,g1,g2,g3⟩:=hr _ _ h2 h5.wf (by rw[<-hx];exact h9);obtain⟨z,k1,k2,k3,k4,k5,k6⟩:=g1 F y [v] rfl h5 h6 ⟨⟨h7,trivial⟩,rfl⟩;have hadv:=k1 aF w₁ h3.fits;obtain⟨v2,sy,e1,r1,r2⟩:=k5.inv;cases e1;refine⟨z,aF,u',v,cv,h1,by rw[k2];exact g3,h3.trans hadv,?_,k3,k4,r1,?_,by rw[k2,hx];exact g2⟩;exact h4.ext (aG.refl _ _) hadv.nx;rw[hx]at h8 ⊢;exact h8.trans k6
variable{n:Nat}
variable{f:Nat->Nat}
theorem Uz(h:∀k,k<n->f k=k)(u:U)(hb:aJ n u):rU f u=u:=by
 have:=Dd (π:=id) (κ:=f) (n:=n) h u hb
 rwa [TY]at this
theorem Nd(h:∀k,k<n->f k=k)(l:List U)(hb:aE n l):dC f l=l:=by
 have:=FR (π:=id) (κ:=f) (n:=n) h l hb
 rwa [C9]at this
theorem Xj(h:∀k,k<n->f k=k)(l:List (List U))(hb:fW n l):mL f l=l:=by
 have:=On (π:=id) (κ:=f) (n:=n) h l hb
 rwa [JZ]at this
theorem Va(h:∀k,k<n->f k=k)(b:B)(hb:BelB n b):rB f b=b:=by
 cases b with
 |row l e=>simp only[rB];rw[Nd h l hb]|vec l e s st=>simp only[rB];rw[Nd h l hb]
 |map es cl=>simp only[rB,B.map.injEq,and_true];refine(List.map_congr_left (g:=id) fun e he=>?_).trans (by simp);have h1:=hb e he;simp only[rM,id];rw[Uz h _ h1.1,Uz h _ h1.2]
section
variable{T:Tb}{n:Nat}{l:List (Nat×U)}{rs:List ResultVar}
theorem Bp{a:Tmp}{t:List ResultVar}{jD σ2:Sg}{u w:U}(ht:rs=.tmp a::t)(h:aY n l (.tmp a)=some u)(h0:t=[])(hN:jD.nx<=σ2.nx)(hg:Gh jD.nx [u] σ [w] σ2)(hR:R w σ2):
  (Exit.ret=.normal\/Exit.ret=.ret)/\∃l',gD T σ (fr n l) rs=some l'/\∃u' aN,jD.nx<=aN.nx/\Gh jD.nx [i9 l'] σ [u'] aN/\R u' aN:=by
 subst ht;subst h0;exact⟨.inr rfl,_,dO h dX,w,σ2,hN,hg,hR⟩
theorem GI{a b:Tmp}{t:List ResultVar}{jD σ2:Sg}{u v w:U}(ht:rs=.tmp a :: .tmp b::t)(h:aY n l (.tmp a)=some u)(h':aY n l (.tmp b)=some v)(h0:t=[])(hN:jD.nx<=σ2.nx)(hg:Gh jD.nx [.tup [u,v]] σ [w] σ2)(hR:R w σ2):
  (Exit.ret=.normal\/Exit.ret=.ret)/\∃l',gD T σ (fr n l) rs=some l'/\∃u' aN,jD.nx<=aN.nx/\Gh jD.nx [i9 l'] σ [u'] aN/\R u' aN:=by
 subst ht;subst h0;exact⟨.inr rfl,_,dO h (dO h' dX),w,σ2,hN,hg,hR⟩
end
theorem dM.wf{C:PG}{σ:Sg}{tm:List U}{o:Oper}{R:U->Sg->Prop}(h:jA σ->aE σ.nx tm->dM C σ tm o R):dM C σ tm o R:=fun F x tv m w a next Q hxσ st hG hn ro hro=>h (hxσ ▸ st.h.wf) (hxσ ▸ st.e.bel) F x tv m w a next Q hxσ st hG hn ro hro
theorem dM.bsf{C:PG}{T:Tb}(hT:eZ C.prog T){h:List (Nat×B)}{nx:Nat}{l:List (Nat×U)}{o:Oper}{t e:TypeId}{k sz b:Nat}{z:Value}{zu cs:List U}{rs:List (List U)}{ps:Array (Nat×Operand)}{qs:List (Nat×U)}{d:Tmp}(ho:o.op=.buildSlice t k ps)(hd:T.und t=some (.slice e))(hi:T.inf e=some (sz,b,z))(hx:rV n l ps.toList=some qs)(h1:Nat.ble (k*sz) 16777216=true)(h2:Nat.ble k 16777216=true)(h3:Nat.beq z.cells.toList.length sz=true)(hz:jF z.cells.toList=some zu)(hf:lH (fun i=>some (i*sz,sz)) (lX zu k) qs=some cs)(hk:okL cs=true)(hl:cs.length=k*sz)(hr:bC sz k cs=rs)(he:o.dst=some d)(hdn:Nat.blt d n=true)(hb:aE 0 cs):
  dM C ⟨h,nx⟩ (fr n l) o (fun u σ'=>u=.isl false rs/\σ'=⟨h,nx+1⟩):=dM.wf fun hw _=>by
 subst hr;refine dM.fz hT (s1:=⟨(nx,.row cs e)::h,nx+1⟩) (u1:=.sl nx 0 k k) (by rw[ho];exact wN hd hi hx h1 h2 h3 hz hf hk) ?_ (zF _) he hdn;have hlow:∀k,gt (fzH nx (.row cs e) sz ((nx,.row cs e)::h)) k=gt h k:=fun k=>by rw[wO];by_cases e1:k=nx;rw[if_pos e1];subst e1;rcases hq:gt h k with _|b;rfl;have:k<k:=(hw k b hq).1;omega;rw[if_neg e1,aK,if_neg (Ne.symm e1)];rcases hq:gt h k with _|b;rfl;simp only[zM];rw[QG _ _ (hw k b hq).2]
 have e2:fF nx (.row cs e) sz [.sl nx 0 k k]=[.isl false (bC sz k cs)]:=by
  have h5:Nat.beq nx nx=true:=by simp
  have h6:0+k*sz<=cs.length:=by omega
  simp only[fF,Vx.fz,h5,zC,h6,if_true,List.drop_zero]
 exact(Gh.fz (σ:=⟨(nx,.row cs e)::h,nx+1⟩) nx (.row cs e) sz (by simp[aK]) nofun e2 rfl).trans (Gh.same (σ:=⟨_,nx+1⟩) h fun k=>(hlow k).symm)
end Go.Vx
namespace Go.Proofs
open Go Go.Rx Go.Vx Tryz
set_option maxRecDepth 20000
set_option maxHeartbeats 4000000
set_option synthInstance.maxSize 4000
set_option synthInstance.maxHeartbeats 200000
def vD(nm:Nat->Nat):List PN->Nat->List (Nat×B)
 |[],_=>[]|x::N,i=>(nm i,.row (jJ nm x) 103)::vD nm N (i+1)
def cH(kp kr st:Nat)(nm:Nat->Nat)(P:PP)(h:List (Nat×B)):List (Nat×B):=(kp,.row (lR kr st P) 83)::(kr,.bv (cD nm) P.roots 92 1 st)::(vD nm P.N 0++h)
def gH(nm:Nat->Nat)(n nx:Nat):Nat->Nat:=fun i=>if i<n then nm i else nx+(i-n)
variable{n:Nat}
theorem qP{nm:Nat->Nat}{nx:Nat}:∀k,k<n->gH nm n nx k=nm k:=fun k hk=>by rw[gH,if_pos hk]
theorem Vv{nm:Nat->Nat}{h:List (Nat×B)}:∀{N:List PN}{s k:Nat}{b:B},gt (vD nm N s++h) k=some b->(∃i x,N[i]? = some x/\nm (s+i)=k/\b=.row (jJ nm x) 103)\/((∀i,i<N.length->nm (s+i)≠k)/\gt h k=some b)
 |[],s,k,b,hg=>.inr ⟨fun i hi=>by simp at hi,hg⟩|x::N,s,k,b,hg=>by
  simp only[vD,List.cons_append]at hg;rw[aK]at hg;by_cases e:nm s=k;rw[if_pos e]at hg;cases hg;exact .inl ⟨0,x,rfl,e,rfl⟩;rw[if_neg e]at hg;rcases Vv hg with⟨i,y,h1,h2,h3⟩|⟨h1,h2⟩;exact .inl ⟨i+1,y,h1,by rw[<-h2];congr 1;omega,h3⟩;refine .inr ⟨fun i hi=>?_,h2⟩;cases i with
  |zero=>exact e|succ i=>have:=h1 i (by simpa using hi);rwa [show s+1+i=s+(i+1) by omega]at this
theorem zq{nm:Nat->Nat}{h:List (Nat×B)}:∀{N:List PN}{s i:Nat}{x:PN},(∀i j,i<N.length->j<N.length->nm (s+i)=nm (s+j)->i=j)->N[i]? = some x->gt (vD nm N s++h) (nm (s+i))=some (.row (jJ nm x) 103)
 |[],s,i,x,_,hx=>by simp at hx
 |y::N,s,0,x,hi,hx=>by simp at hx;subst hx;simp only[vD,List.cons_append,Nat.add_zero];rw[aK,if_pos rfl]
 |y::N,s,i+1,x,hi,hx=>by
  have hx:N[i]? = some x:=by simpa using hx
  have hil:i<N.length:=(zG.1 hx).1;have h1:=zq (h:=h) (s:=s+1) (fun a b ha hb e=>by have:=hi (a+1) (b+1) (by simpa using ha) (by simpa using hb) (by rw[show s+(a+1)=s+1+a by omega,show s+(b+1)=s+1+b by omega];exact e);omega) hx;simp only[vD,List.cons_append];rw[aK,if_neg fun e=>?_,show s+(i+1)=s+1+i by omega];exact h1;have:=hi 0 (i+1) (by simp) (by simpa using hil) e;omega
theorem zp{nm:Nat->Nat}{h:List (Nat×B)}{k:Nat}:∀{N:List PN}{s:Nat},(∀i,i<N.length->nm (s+i)≠k)->gt (vD nm N s++h) k=gt h k
 |[],s,_=>rfl|x::N,s,hn=>by
  simp only[vD,List.cons_append];rw[aK,if_neg (show ¬ nm s=k from hn 0 (by simp)),zp fun i hi=>?_];have:=hn (i+1) (by simpa using hi)
  rwa [show s+(i+1)=s+1+i by omega]at this
section
variable{kp kr st:Nat}{nm:Nat->Nat}{P:PP}{h:List (Nat×B)}{nx:Nat}
theorem I7(hkp:kp≠kr)(hp:∀i,i<P.N.length->nm i≠kp)(hr:∀i,i<P.N.length->nm i≠kr)(inj:∀i j,i<P.N.length->j<P.N.length->nm i=nm j->i=j)(wf:∀x∈P.N,gJ P.N.length x)(rt:∀r∈P.roots,r<P.N.length):PH kp kr st nm P (cH kp kr st nm P h):=by
 refine⟨by rw[cH,aK,if_pos rfl],by rw[cH,aK,if_neg hkp,aK,if_pos rfl],fun i x hx=>?_,inj,wf,rt⟩;have hi:=(zG.1 hx).1;rw[cH,aK,if_neg (Ne.symm (hp i hi)),aK,if_neg (Ne.symm (hr i hi))];have:=zq (h:=h) (s:=0) (N:=P.N) (nm:=nm) (fun a b ha hb e=>inj a b ha hb (by simpa using e)) hx;simpa using this
theorem Ce{k:Nat}(h1:k≠kp)(h2:k≠kr)(h3:∀i,i<P.N.length->nm i≠k):gt (cH kp kr st nm P h) k=gt h k:=by
 rw[cH,aK,if_neg (Ne.symm h1),aK,if_neg (Ne.symm h2)];exact zp (s:=0) fun i hi=>by simpa using h3 i hi
theorem Oo(f:Nat->Nat)(nm nm':Nat->Nat):∀(l:List eE),(∀a∈l,f (nm' a.to)=nm a.to)->mL f (l.map (bH nm'))=l.map (bH nm)
 |[],_=>rfl|a::l,hf=>by simp only[zQ,mL,Oo f nm nm' l fun b hb=>hf b (by simp[hb]),bH,pt,dC,rU,hf a (by simp)]
theorem F6(f:Nat->Nat)(nm nm':Nat->Nat)(hf:∀i,i<n->f (nm' i)=nm i):∀{o:Option Nat},EL n o->rU f (po nm' o)=po nm o
 |none,_=>rfl|some i,hi=>by simp only[po,pt,rU,hf i hi]
theorem yu(f:Nat->Nat)(nm nm':Nat->Nat)(hf:∀i,i<n->f (nm' i)=nm i){x:PN}(w:gJ n x):dC f (jJ nm' x)=jJ nm x:=by
 simp only[jJ,dC,rU,U.iM,Oo f nm nm' _ fun a ha=>hf _ (w.arcs a ha),Oo f nm nm' _ fun a ha=>hf _ (w.more a ha),F6 f nm nm' hf w.fw,F6 f nm nm' hf w.cp]
theorem Xm(f:Nat->Nat):∀a b:List U,dC f (a++b)=dC f a++dC f b
 |[],b=>rfl|u::a,b=>by simp only[List.cons_append,dC,Xm f a b]
theorem Xk(f:Nat->Nat)(nm nm':Nat->Nat):∀(l:List Nat),(∀a∈l,f (nm' a)=nm a)->dC f (l.map (cD nm')).flatten=(l.map (cD nm)).flatten
 |[],_=>rfl|a::l,hf=>by simp only[zQ,List.flatten_cons,Xm,Xk f nm nm' l fun b hb=>hf b (by simp[hb]),cD,pt,dC,rU,hf a (by simp)]
variable{M:Nat}
theorem bj{nm:Nat->Nat}(hn:∀k,k<n->nm k<M){x:PN}(w:gJ n x):aE M (jJ nm x):=by
 simp only[jJ,aE,aJ,and_true,true_and];exact⟨QU _ fun a ha=>hn _ (w.arcs a ha),Q7 hn w.fw,QU _ fun a ha=>hn _ (w.more a ha),Q7 hn w.cp⟩
variable{st':Nat}
variable{P1:PP}
theorem canon{nm1:Nat->Nat}{H:List (Nat×B)}{tm tm':List U}(p:PH kp kr st nm P h)(hw:jA ⟨h,nx⟩)(p1:PH kp kr st' nm1 P1 H)(hlen:P.N.length<=P1.N.length)(nmE:∀k,k<P.N.length->nm1 k=nm k)(new:∀k,P.N.length<=k->k<P1.N.length->nx<=nm1 k)(fr:∀k,k<nx->k≠kp->k≠kr->(∀i,i<P.N.length->nm i≠k)->gt H k=gt h k)
  (ht:dC (fun k=>if k<nx then k else nm1 (P.N.length+(k-nx))) tm'=tm) (hb:aE (nx+(P1.N.length-P.N.length)) tm'):
  Gh nx tm ⟨H,M⟩ tm' ⟨cH kp kr st' (gH nm P.N.length nx) P1 h,nx+(P1.N.length-P.N.length)⟩:=by
 let f:Nat->Nat:=fun k=>if k<nx then k else nm1 (P.N.length+(k-nx))
 have hkp:kp<nx:=(hw _ _ p.pool).1;have hkr:kr<nx:=(hw _ _ p.roots).1;have hni:∀i,i<P.N.length->nm i<nx:=fun i hi=>p.lt hw hi;have hf:∀i,i<P1.N.length->f (gH nm P.N.length nx i)=nm1 i:=fun i hi=>by
  show(if _ then _ else _)=_;rcases Nat.lt_or_ge i P.N.length with h1 |h1;rw[qP i h1,if_pos (hni i h1),nmE i h1];have e0:gH nm P.N.length nx i=nx+(i-P.N.length):=by rw[gH,if_neg (by omega)]
  rw[e0,if_neg (by omega)];congr 1;omega
 have hN:∀i,i<P1.N.length->gH nm P.N.length nx i<nx+(P1.N.length-P.N.length):=fun i hi=>by rcases Nat.lt_or_ge i P.N.length with h1 |h1;rw[qP i h1];have:=hni i h1;omega;rw[gH,if_neg (by omega)];omega
 have hfix:∀k,k<nx->f k=k:=fun k hk=>by show(if _ then _ else _)=_;rw[if_pos hk]
 have hcase:∀k b,gt (cH kp kr st' (gH nm P.N.length nx) P1 h) k=some b->(k=kp/\b=.row (lR kr st' P1) 83)\/(k=kr/\b=.bv (cD (gH nm P.N.length nx)) P1.roots 92 1 st')\/(∃i x,P1.N[i]? = some x/\gH nm P.N.length nx i=k/\b=.row (jJ (gH nm P.N.length nx) x) 103)\/(k≠kp/\k≠kr/\(∀i,i<P.N.length->nm i≠k)/\gt h k=some b):=fun k b hg=>by rw[cH,aK]at hg;by_cases e1:kp=k;rw[if_pos e1]at hg;cases hg;exact .inl ⟨e1.symm,rfl⟩;rw[if_neg e1,aK]at hg;by_cases e2:kr=k;rw[if_pos e2]at hg;cases hg;exact .inr (.inl ⟨e2.symm,rfl⟩);rw[if_neg e2]at hg;rcases Vv hg with⟨i,x,h1,h2,h3⟩|⟨h1,h2⟩;exact .inr (.inr (.inl ⟨i,x,h1,by simpa using h2,h3⟩));refine .inr (.inr (.inr ⟨Ne.symm e1,Ne.symm e2,fun i hi=>?_,h2⟩));have:=h1 i (by omega);rw[Nat.zero_add,qP i hi]at this;exact this
 refine Gh.rnG f (fun k hk=>by show(if _ then _ else _)=_;rw[if_pos hk]) (Nat.le_add_right _ _) (fun k b hg=>?_) (fun k k' b b' hg hg' e=>?_) ht hb;rcases hcase k b hg with⟨rfl,rfl⟩|⟨rfl,rfl⟩|⟨i,x,hx,rfl,rfl⟩|⟨h1,h2,h3,h4⟩;refine⟨by omega,?_,?_⟩;simp only[BelB,lR,aE,aJ,and_true,true_and];exact⟨o5 _ (fun q=>W8 _ q) _,o5 _ (fun q=>Gl _ q) _,by omega⟩;have e:f k=k:=by show(if _ then _ else _)=_;rw[if_pos hkp]
 have e2:f kr=kr:=by show(if _ then _ else _)=_;rw[if_pos hkr]
 rw[e,p1.pool];simp only[rB,lR,dC,rU,U.iM,e2];rw[Xj hfix _ (o5 _ (fun q=>W8 nx q) _),Xj hfix _ (o5 _ (fun q=>Gl nx q) _)];refine⟨by omega,?_,?_⟩;show aE _ (P1.roots.map _).flatten;rw[sF];intro u hu;obtain⟨c,hc,hu⟩:=List.mem_flatten.1 hu;obtain⟨r,hr,rfl⟩:=List.mem_map.1 hc;simp only[cD,List.mem_singleton]at hu;subst hu;exact hN r (p1.rt r hr);have e2:f k=k:=by show(if _ then _ else _)=_;rw[if_pos hkr]
 rw[e2,p1.roots];simp only[rB,B.bv];rw[Xk f nm1 _ P1.roots fun a ha=>hf a (p1.rt a ha)];have hi:=(zG.1 hx).1;have hwx:=p1.wf x (zX hx);refine⟨hN i hi,bj hN hwx,?_⟩;rw[hf i hi,p1.node i x hx];simp only[rB];rw[yu f nm1 _ hf hwx];obtain⟨h5,h6⟩:=hw k b h4;refine⟨by show k<_;have:k<nx:=h5;omega,QI (Nat.le_add_right _ _) h6,?_⟩;have e:f k=k:=by show(if _ then _ else _)=_;rw[if_pos h5]
 rw[e];show gt H k=_;rw[fr k h5 h1 h2 h3,h4,Va hfix b h6];have key:∀k b,gt (cH kp kr st' (gH nm P.N.length nx) P1 h) k=some b->(k<nx/\f k=k)\/∃i,i<P1.N.length/\P.N.length<=i/\gH nm P.N.length nx i=k:=fun k b hg=>by rcases hcase k b hg with⟨rfl,rfl⟩|⟨rfl,rfl⟩|⟨i,x,hx,rfl,rfl⟩|⟨h1,h2,h3,h4⟩;exact .inl ⟨hkp,by show(if _ then _ else _)=_;rw[if_pos hkp]⟩;exact .inl ⟨hkr,by show(if _ then _ else _)=_;rw[if_pos hkr]⟩;have hi:=(zG.1 hx).1;rcases Nat.lt_or_ge i P.N.length with h7 |h7;rw[qP i h7];exact .inl ⟨hni i h7,by show(if _ then _ else _)=_;rw[if_pos (hni i h7)]⟩;exact .inr ⟨i,hi,h7,rfl⟩;have h5:=(hw k b h4).1;exact .inl ⟨h5,by show(if _ then _ else _)=_;rw[if_pos h5]⟩
 rcases key k b hg with⟨h1,h2⟩|⟨i,h1,h2,rfl⟩<;>rcases key k' b' hg' with⟨h3,h4⟩|⟨j,h3,h4,rfl⟩;rw[h2,h4]at e;exact e;rw[h2,hf j h3]at e;have:=new j h4 h3;omega;rw[h4,hf i h1]at e;have:=new i h2 h1;omega;rw[hf i h1,hf j h3]at e;rw[p1.inj i j h1 h3 e]
theorem zi{nm':Nat->Nat}{n:Nat}(hn:∀k,k<n->nm' k=nm k):∀{N:List PN}{s:Nat},s+N.length<=n->(∀x∈N,gJ n x)->vD nm' N s=vD nm N s
 |[],_,_,_=>rfl|x::N,s,hs,hw=>by simp only[vD];rw[hn s (by simp at hs;omega),wl hn (hw x (by simp)),zi hn (by simp at hs;omega) fun y hy=>hw y (by simp[hy])]
theorem qn{nm':Nat->Nat}(hn:∀k,k<P1.N.length->nm' k=nm k)(hw:∀x∈P1.N,gJ P1.N.length x)(hr:∀r∈P1.roots,r<P1.N.length):cH kp kr st' nm' P1 h=cH kp kr st' nm P1 h:=by
 simp only[cH,B.bv];rw[zi hn (by omega) hw,wj hn hr]
theorem Mq{H:List (Nat×B)}{tm:List U}(p:PH kp kr st nm P h)(hw:jA ⟨h,nx⟩)(p1:PH kp kr st' nm P1 H)(hlen:P1.N.length=P.N.length)(fr:∀k,k<nx->k≠kp->k≠kr->(∀i,i<P.N.length->nm i≠k)->gt H k=gt h k)(hb:aE nx tm):
  Gh nx tm ⟨H,M⟩ tm ⟨cH kp kr st' nm P1 h,nx⟩:=by
 have h1:=canon (M:=M) (tm:=tm) (tm':=tm) p hw p1 (Nat.le_of_eq hlen.symm) (fun _ _=>rfl) (fun k a b=>by omega) fr (Nd (n:=nx) (fun k hk=>by rw[if_pos hk]) tm hb) (by rw[hlen,Nat.sub_self];exact hb);rw[hlen,Nat.sub_self,Nat.add_zero,qn (nm:=nm) (fun k hk=>qP k (by omega)) p1.wf p1.rt]at h1;exact h1
theorem qm(p:PH kp kr st nm P h)(hw:jA ⟨h,nx⟩)(SQ:∀x∈P1.N,gJ P1.N.length x)(rt1:∀r∈P1.roots,r<P1.N.length):PH kp kr st' (gH nm P.N.length nx) P1 (cH kp kr st' (gH nm P.N.length nx) P1 h):=by
 have hkp:kp<nx:=(hw _ _ p.pool).1;have hkr:kr<nx:=(hw _ _ p.roots).1;have hni:∀i,i<P.N.length->nm i<nx:=fun i hi=>p.lt hw hi;have hc:∀i,(i<P.N.length/\gH nm P.N.length nx i=nm i)\/(P.N.length<=i/\gH nm P.N.length nx i=nx+(i-P.N.length)):=fun i=>by rcases Nat.lt_or_ge i P.N.length with h1 |h1;exact .inl ⟨h1,qP i h1⟩;exact .inr ⟨h1,by rw[gH,if_neg (by omega)]⟩
 refine I7 (Ne.symm p.krp) (fun i _=>?_) (fun i _=>?_) (fun i j _ _ e=>?_) SQ rt1;rcases hc i with⟨h1,h2⟩|⟨h1,h2⟩;rw[h2];exact p.kpn h1;omega;rcases hc i with⟨h1,h2⟩|⟨h1,h2⟩;rw[h2];exact p.krn h1;omega;rcases hc i with⟨h1,h2⟩|⟨h1,h2⟩<;>rcases hc j with⟨h3,h4⟩|⟨h3,h4⟩;rw[h2,h4]at e;exact p.inj i j h1 h3 e;have:=hni i h1;omega;have:=hni j h3;omega;omega
theorem wh(p:PH kp kr st nm P h)(hlen:P1.N.length=P.N.length)(SQ:∀x∈P1.N,gJ P1.N.length x)(rt1:∀r∈P1.roots,r<P1.N.length):PH kp kr st' nm P1 (cH kp kr st' nm P1 h):=
 I7 (Ne.symm p.krp) (fun i hi=>p.kpn (by omega)) (fun i hi=>p.krn (by omega)) (fun i j hi hj e=>p.inj i j (by omega) (by omega) e) SQ rt1
end
end Go.Proofs
namespace Go.Proofs
open Go Go.Rx Go.Vx Tryz
set_option maxRecDepth 20000
def Wf(N:List PN):Prop:=∀x∈N,gJ N.length x
structure Sm(N N':List PN):Prop where
 len:N'.length=N.length
 st:∀(i:Nat)(x:PN),N[i]? = some x->∃x':PN,N'[i]? = some x'/\x'.kind=x.kind/\x'.arcs=x.arcs
theorem Sm.refl(N:List PN):Sm N N:=⟨rfl,fun i x h=>⟨x,h,rfl,rfl⟩⟩
theorem Sm.trans{N N' N'':List PN}(h:Sm N N')(h':Sm N' N''):Sm N N'':=⟨h'.len.trans h.len,fun i x hx=>by
 obtain⟨y,h1,h2,h3⟩:=h.st i x hx;obtain⟨z,h4,h5,h6⟩:=h'.st i y h1;exact⟨z,h4,h5.trans h2,h6.trans h3⟩⟩
theorem Sm.set{N:List PN}{i:Nat}{x:PN}(y:PN)(hx:N[i]? = some x)(h1:y.kind=x.kind)(h2:y.arcs=x.arcs):Sm N (N.set i y):=⟨by simp,fun j z hz=>by
 rw[List.getElem?_set];by_cases e:i=j;subst e;rw[hx]at hz;cases hz;exact⟨y,by rw[if_pos rfl,if_pos (zG.1 hx).1],h1,h2⟩;exact⟨z,by rw[if_neg e];exact hz,rfl,rfl⟩⟩
theorem Wf.set{N:List PN}(h:Wf N){i:Nat}{y:PN}(hy:gJ N.length y):Wf (N.set i y):=fun x hx=>by
 rw[List.length_set];rcases List.mem_or_eq_of_mem_set hx with hx |rfl;exact h x hx;exact hy
variable{N:List PN}
variable{i:Nat}
theorem Wf.at(h:Wf N){x:PN}(hx:N[i]? = some x):gJ N.length x:=h x (zX hx)
theorem wP{x:PN}(h:N[i]? = some x):i<N.length:=(zG.1 h).1
theorem Ly{g:Int}{p:Nat}{mine:List eE}:∀{ys:List eE}{W:List (Nat×Nat)}{N:List PN}{s:List (Nat×Nat)×List PN},SA g p mine ys W N=some s->(∀a∈ys,a.to<N.length)->Sm N s.2/\(Wf N->Wf s.2)
 |[],W,N,s,h,_=>by obtain rfl:=sI h;exact⟨Sm.refl _,id⟩
 |y::ys,W,N,s,h,ha=>by
  rw[SA]at h;cases hb:decide (AS (fun z=>z.f==y.f) mine>=0)with
  |true=>rw[hb]at h;obtain⟨z,_,h⟩:=aB h;obtain⟨_,h⟩:=bU h;exact Ly h fun a h=>ha a (by simp[h])
  |false=>
   rw[hb]at h;obtain⟨x,hx,h⟩:=aB h;obtain⟨_,h⟩:=bU h;have h1:Sm N (N.set p { x with more:=nJ g x++[y],moA:=g }):=Sm.set _ hx rfl rfl;obtain⟨h2,h3⟩:=Ly h fun a h=>by rw[h1.len];exact ha a (by simp[h])
   refine⟨h1.trans h2,fun w=>h3 (w.set ?_)⟩;have hw:=w.at hx;refine⟨hw.arcs,hw.fw,fun a h=>?_,hw.cp⟩;rcases yD.1 h with h |h;exact Ws hw a h;simp at h;subst h;exact ha a (by simp)
theorem Dg{H:dY}{g:Int}{n:Nat}:∀{m:Nat}{W:List (Nat×Nat)}{N:List PN}{r:Bool×List PN},IK H g n m W N=some r->Wf N->Sm N r.2/\Wf r.2
 |0,_,_,_,h,_=>by cases h
 |m+1,[],N,r,h,w=>by obtain rfl:=sI h;exact⟨Sm.refl _,w⟩
 |m+1,a::W,N,r,h,w=>by
  obtain⟨p,hp,h⟩:=aB h;obtain⟨q,hq,h⟩:=aB h;cases hb:Nat.beq p q with
  |true=>rw[hb]at h;exact Dg h w|false=>
   rw[hb]at h;obtain⟨x,hx,h⟩:=aB h;obtain⟨y,hy,h⟩:=aB h;obtain⟨r1,hr1,h⟩:=aB h;cases hc : !r1.2 with
   |true=>rw[hc]at h;obtain rfl:=sI h;exact⟨Sm.refl _,w⟩
   |false=>rw[hc]at h;obtain⟨_,h⟩:=bU h;obtain⟨s,hs,h⟩:=aB h;obtain⟨x1,NA,h⟩:=aB h;obtain⟨y1,N9,h⟩:=aB h;obtain⟨k1,k2⟩:=Ly hs (US (w.at hy));have w1:=k2 w;have hwx:=w1.at NA;have s2:Sm s.2 (s.2.set p { x1 with mt:=r1.1,mtA:=g }):=Sm.set _ NA rfl rfl;have w2:Wf (s.2.set p { x1 with mt:=r1.1,mtA:=g }):=w1.set ⟨hwx.arcs,hwx.fw,hwx.more,hwx.cp⟩;have hwy:=w2.at N9;have s3:Sm (s.2.set p { x1 with mt:=r1.1,mtA:=g }) ((s.2.set p { x1 with mt:=r1.1,mtA:=g }).set q { y1 with fw:=some p,fwA:=g }):=Sm.set _ N9 rfl rfl;have w3:Wf ((s.2.set p { x1 with mt:=r1.1,mtA:=g }).set q { y1 with fw:=some p,fwA:=g }):=w2.set ⟨hwy.arcs,by show p<_;rw[s2.len,k1.len];exact wP hx,hwy.more,hwy.cp⟩;obtain⟨k3,k4⟩:=Dg h w3;exact⟨k1.trans (s2.trans (s3.trans k3)),k4⟩
theorem Ve{g:Int}{n:Nat}:∀{l:List Nat}{N N':List PN},XW g n l N=some N'->Wf N->Sm N N'/\Wf N'
 |[],N,N',h,w=>by obtain rfl:=sI h;exact⟨Sm.refl _,w⟩
 |p::l,N,N',h,w=>by obtain⟨x,hx,h⟩:=aB h;rcases hb:Bo N g n x.arcs with _|_;rw[hb]at h;cases h;rw[hb]at h;obtain⟨_,h⟩:=bU h;have hwx:=w.at hx;obtain⟨k1,k2⟩:=Ve h (w.set ⟨hwx.arcs,hwx.fw,hwx.more,hwx.cp⟩);exact⟨(Sm.set _ hx (by rfl) (by rfl)).trans k1,k2⟩
theorem Dh{g:Int}:∀{l:List Nat}{ag:Bool}{N:List PN}{r:Bool×List PN},EP g l ag N=some r->Wf N->Sm N r.2/\Wf r.2
 |[],ag,N,r,h,w=>by obtain rfl:=sI h;exact⟨Sm.refl _,w⟩
 |p::l,ag,N,r,h,w=>by
  obtain⟨x,hx,h⟩:=aB h;cases hb:xF g x with
  |true=>rw[hb]at h;exact Dh h w|false=>rw[hb]at h;obtain⟨_,h⟩:=bU h;obtain⟨c,hc,h⟩:=aB h;rcases c with _|_;exact Dh h w;have hwx:=w.at hx;obtain⟨k1,k2⟩:=Dh h (w.set ⟨hwx.arcs,hwx.fw,hwx.more,hwx.cp⟩);exact⟨(Sm.set _ hx (by rfl) (by rfl)).trans k1,k2⟩
theorem Vd{g:Int}{l:List Nat}:∀{m:Nat}{N N':List PN},XV g l m N=some N'->Wf N->Sm N N'/\Wf N'
 |0,_,_,h,_=>by cases h
 |m+1,N,N',h,w=>by
  obtain⟨r,hr,h⟩:=aB h;obtain⟨k1,k2⟩:=Dh hr w;cases hb:r.1 with
  |true=>rw[hb]at h;obtain⟨k3,k4⟩:=Vd h k2;exact⟨k1.trans k3,k4⟩
  |false=>rw[hb]at h;obtain rfl:=sI h;exact⟨k1,k2⟩
theorem sc{g:Int}{n:Nat}{l:List Nat}{N':List PN}(h:Kd g n l N=some N')(w:Wf N):Sm N N'/\Wf N':=by
 obtain⟨_,h⟩:=bU h;obtain⟨N1,h1,h⟩:=aB h;obtain⟨k1,k2⟩:=Ve h1 w;obtain⟨k3,k4⟩:=Vd h k2;exact⟨k1.trans k3,k4⟩
structure Ex(n:Nat)(N N':List PN):Prop where
 len:N.length<=N'.length
 st:∀(i:Nat)(x:PN),i<n->N[i]? = some x->∃x':PN,N'[i]? = some x'/\x'.kind=x.kind/\x'.arcs=x.arcs
theorem Ex.refl(n:Nat)(N:List PN):Ex n N N:=⟨zF _,fun i x _ h=>⟨x,h,rfl,rfl⟩⟩
theorem Ex.trans{n:Nat}{N N' N'':List PN}(h:Ex n N N')(h':Ex n N' N''):Ex n N N'':=⟨Nat.le_trans h.len h'.len,fun i x hi hx=>by
 obtain⟨y,h1,h2,h3⟩:=h.st i x hi hx;obtain⟨z,h4,h5,h6⟩:=h'.st i y hi h1;exact⟨z,h4,h5.trans h2,h6.trans h3⟩⟩
theorem Sm.ex{N':List PN}(h:Sm N N')(n:Nat):Ex n N N':=⟨by rw[h.len];exact zF _,fun i x _ hx=>h.st i x hx⟩
theorem Wf.add(w:Wf N)(k:Int):Wf (N++[fC k []]):=fun x hx=>by
 have hl:(N++[fC k []]).length=N.length+1:=by simp
 rw[hl];rcases yD.1 hx with hx |hx;exact(w x hx).le (Nat.le_succ _);simp at hx;subst hx;exact⟨nofun,trivial,nofun,trivial⟩
theorem Ma{g:Int}{n:Nat}:∀{l:List Nat}{N:List PN}{s:Int}{r:List PN×Int},XY g l N s=some r->Wf N->Ex n N r.1/\Wf r.1
 |[],N,s,r,h,w=>by obtain rfl:=sI h;exact⟨Ex.refl _ _,w⟩
 |p::l,N,s,r,h,w=>by
  obtain⟨x,hx,h⟩:=aB h;have hp:=wP hx;have hwx:=w.at hx;cases hb:xF g x with
  |false=>rw[hb]at h;obtain⟨k1,k2⟩:=Ma (n:=n) h (w.set ⟨hwx.arcs,hwx.fw,hwx.more,hp⟩);exact⟨((Sm.set _ hx (by rfl) (by rfl)).ex n).trans k1,k2⟩
  |true=>
   rw[hb]at h;have oT:(N++[fC (jP g x) []])[p]? = some x:=by rw[List.getElem?_append_left hp];exact hx
   have w2:=w.add (jP g x);have NB:=w2.at oT;obtain⟨k1,k2⟩:=Ma (n:=n) h (w2.set ⟨NB.arcs,NB.fw,NB.more,by show N.length<_;simp⟩);refine⟨Ex.trans ⟨by simp,fun i z _ hz=>⟨z,by rw[List.getElem?_append_left (wP hz)];exact hz,rfl,rfl⟩⟩ (((Sm.set _ oT (by rfl) (by rfl)).ex n).trans k1),k2⟩
theorem Lz{g:Int}{n m:Nat}:∀{l:List Nat}{N:List PN}{c:Nat}{N':List PN},XX g n l N c=some N'->m<=c->Wf N->Ex m N N'/\Wf N'/\N'.length=N.length
 |[],N,c,N',h,_,w=>by obtain⟨_,h⟩:=bU h;obtain rfl:=sI h;exact⟨Ex.refl _ _,w,rfl⟩
 |p::l,N,c,N',h,hc,w=>by
  obtain⟨x,hx,h⟩:=aB h;obtain⟨q,hq,h⟩:=aB h;cases hb:Nat.beq q p with
  |true=>rw[hb]at h;exact Lz h hc w|false=>rw[hb]at h;obtain⟨y,hy,h⟩:=aB h;obtain⟨⟨rfl,_,_⟩,h⟩:=bU h;obtain⟨d,hd,h⟩:=aB h;obtain⟨d',hd',h⟩:=aB h;have hwy:=w.at hy;obtain⟨k1,k2,k3⟩:=Lz (m:=m) h (Nat.le_succ_of_le hc) (w.set ⟨fun a ha=>Nk w hd nofun a ((Zi hd' a).1 ha),hwy.fw,hwy.more,hwy.cp⟩);refine⟨Ex.trans ⟨by simp,fun i z hi hz=>⟨z,?_,rfl,rfl⟩⟩ k1,k2,by rw[k3];simp⟩;rw[List.getElem?_set,if_neg (by omega)];exact hz
theorem Zk{g:Int}{n:Nat}{s:Int}{r:Nat×List PN×Int}(h:Bl g n N s i=some r)(w:Wf N):Ex N.length N r.2.1/\Wf r.2.1/\r.1<r.2.1.length:=by
 obtain⟨l,_,h⟩:=aB h;obtain⟨N1,h1,h⟩:=aB h;obtain⟨r1,h2,h⟩:=aB h;obtain⟨N3,h3,h⟩:=aB h;obtain⟨x,h4,h⟩:=aB h;obtain⟨q,h5,h⟩:=aB h;obtain rfl:=sI h;obtain⟨a1,a2⟩:=sc h1 w;obtain⟨b1,b2⟩:=Ma (n:=N.length) h2 a2;obtain⟨c1,c2,_⟩:=Lz h3 (zF _) b2;refine⟨(a1.ex _).trans (b1.trans c1),c2,?_⟩;have:=(c2.at h4).cp;rw[(VD h5).2]at this;exact this
end Go.Proofs
namespace Go.Proofs
open Go Go.Rx Go.Vx Tryz
set_option maxRecDepth 20000
set_option maxHeartbeats 4000000
set_option synthInstance.maxSize 4000
set_option synthInstance.maxHeartbeats 200000
def EQ(n:Nat)(P:PP)(a b:Int):Option (Option Nat×PP):=
 cond (decide (a<0)) (some (none,P)) (cond (decide (b<0)) (some (none,P)) (cond (decide (a>=(P.roots.length:Int))) (some (none,P)) (cond (decide (b>=(P.roots.length:Int))) (some (none,P)) (a8 (aC P.roots a) fun ra=>a8 (aC P.roots b) fun rb=>a8 (IK P.H (IntKind.i64.wrap (P.gen+1)) n n [(ra,rb)] P.N) fun r=>cond (!r.1) (some (none,{ P with N:=r.2,gen:=IntKind.i64.wrap (P.gen+1) })) (a8 (qM r.2 (IntKind.i64.wrap (P.gen+1)) n ra) fun q=>some (some q,{ P with N:=r.2,gen:=IntKind.i64.wrap (P.gen+1) }))))))
section
variable{kp kr st:Nat}{nm:Nat->Nat}{P:PP}{h:List (Nat×B)}{nx:Nat}
theorem PH.gr(p:PH kp kr st nm P h):dK h kr (.vec (P.roots.map (cD nm)).flatten 92 1 st):=⟨p.roots⟩
theorem yi(p:PH kp kr st nm P h)(n:Nat){a b:Nat}{r:Bool×List PN}(J:IK P.H P.gen n n [(a,b)] P.N=some r):
  aO prog 65 [.ptr kp 0 0,pt nm a,pt nm b] ⟨h,nx⟩ (fun u σ'=>u=.bool r.1/\σ'=⟨cH kp kr st nm { P with N:=r.2 } h,nx⟩):=
 aO.wf fun hw _=>(J0 p n J).gh fun u σ' ⟨H,N,h1,h2,h3,h4,h5,h6⟩ _ _=>by subst h1;subst h2;exact⟨_,_,Mq p hw h3 h4 (fun k k1 k2 k3 k4=>h6 k k1 k4) (by simp[aE,aJ]),zF _,rfl,rfl⟩
theorem gl(p:PH kp kr st nm P h)(n:Nat){i:Nat}(hi:i<P.N.length){r:Nat×List PN×Int}(J:Bl P.gen n P.N P.size i=some r):
  aO prog 46 [.ptr kp 0 0,pt nm i] ⟨h,nx⟩ (fun u σ'=>u=pt (gH nm P.N.length nx) r.1/\σ'=⟨cH kp kr st (gH nm P.N.length nx) { P with N:=r.2.1,size:=r.2.2 } h,nx+(r.2.1.length-P.N.length)⟩):=
 aO.wf fun hw _=>(Ny p n hi J).gh fun u σ' ⟨H,M,nm1,h1,h2,h3,h4⟩ _ _=>by
  subst h1;subst h2;have e:(fun k=>if k<nx then k else nm1 (P.N.length+(k-nx))) (gH nm P.N.length nx r.1)=nm1 r.1:=by
   show(if _ then _ else _)=_;rcases Nat.lt_or_ge r.1 P.N.length with h5 |h5;rw[qP _ h5,if_pos (p.lt hw h5),h3.nmE _ h5];have e0:gH nm P.N.length nx r.1=nx+(r.1-P.N.length):=by rw[gH,if_neg (by omega)]
   rw[e0,if_neg (by omega)];congr 1;omega
  refine⟨pt (gH nm P.N.length nx) r.1,_,canon p hw (h3.ph.ph (zF _)) h3.len h3.nmE h3.new (fun k k1 k2 k3 k4=>h3.fr k k1 k2 k4) ?_ ?_,Nat.le_add_right _ _,rfl,rfl⟩;exact congrArg (fun z=>[U.ptr z 0 0]) e;simp only[pt,aE,aJ,and_true];show _<nx+(r.2.1.length-P.N.length);rcases Nat.lt_or_ge r.1 P.N.length with h5 |h5;rw[qP _ h5];have:=p.lt hw h5;omega;rw[gH,if_neg (by omega)];omega
variable{a:Int}
variable{b:Int}
theorem Zr(p:PH kp kr st nm P h)(n:Nat){r:Option Nat×PP}(J:EQ n P a b=some r):
  aO prog 45 [.ptr kp 0 0,.i6 a,.i6 b] ⟨h,nx⟩ (fun u σ'=>∃H M,u=.tup [po nm r.1,.bool r.1.isSome]/\σ'=⟨H,M⟩/\PH kp kr st nm r.2 H/\r.2.N.length=P.N.length/\nx<=M/\∀k,k<nx->k≠kp->(∀i,i<P.N.length->nm i≠k)->gt H k=gt h k):=by
 haveI:=p.gp
 haveI:=p.gr
 refine EI 65 O0 ?_;refine goN ?_;unfold EQ at J;cases h1:decide (a<0)with
 |true=>rw[h1]at J;obtain rfl:=sI J;refine goN ?_;refine cU rfl (fun _=>?_) (fun h=>by cases h);refine goN ?_;exact PC rfl rfl rfl rfl (zF _) ⟨h,nx,rfl,rfl,p,rfl,zF _,fun _ _ _ _=>rfl⟩
 |false=>
 rw[h1]at J;cases h2:decide (b<0)with
 |true=>rw[h2]at J;obtain rfl:=sI J;refine goN ?_;refine cU rfl (fun _=>?_) (fun h=>by cases h);refine goN ?_;exact PC rfl rfl rfl rfl (zF _) ⟨h,nx,rfl,rfl,p,rfl,zF _,fun _ _ _ _=>rfl⟩
 |false=>
 rw[h2]at J;cases h3:decide (a>=(P.roots.length:Int))with
 |true=>rw[h3]at J;obtain rfl:=sI J;refine goN ?_;refine cU rfl (fun _=>?_) (fun h=>by cases h);refine goN ?_;exact PC rfl rfl rfl rfl (zF _) ⟨h,nx,rfl,rfl,p,rfl,zF _,fun _ _ _ _=>rfl⟩
 |false=>
 rw[h3]at J;cases h4:decide (b>=(P.roots.length:Int))with
 |true=>rw[h4]at J;obtain rfl:=sI J;refine goN ?_;refine cU rfl (fun _=>?_) (fun h=>absurd (h4.symm.trans h) nofun);refine goN ?_;exact PC rfl rfl rfl rfl (zF _) ⟨h,nx,rfl,rfl,p,rfl,zF _,fun _ _ _ _=>rfl⟩
 |false=>
 rw[h4]at J;obtain⟨ra,hra,J⟩:=aB J;obtain⟨rb,hrb,J⟩:=aB J;obtain⟨r1,hr1,J⟩:=aB J;refine goN ?_;refine cU rfl (fun h=>absurd (h4.symm.trans h) nofun) (fun _=>?_);refine goN ?_;have p2:PH kp kr st nm { P with gen:=IntKind.i64.wrap (P.gen+1) } (ug h kp (.row (lR kr st { P with gen:=IntKind.i64.wrap (P.gen+1) }) 83)):=p.setP P.size _ (by rw[bL,if_pos rfl,p.pool];rfl) fun k b hb hk=>by rw[bL,if_neg (Ne.symm hk)];exact hb
 haveI:=p2.gp
 haveI:=p2.gr
 have E4:∀k,k≠kp->gt (ug h kp (.row (lR kr st { P with gen:=IntKind.i64.wrap (P.gen+1) }) 83)) k=gt h k:=fun k hk=>by rw[bL,if_neg (Ne.symm hk)]
 change WPU _ _ _ _ (Sg.mk (ug h kp (.row (lR kr st { P with gen:=IntKind.i64.wrap (P.gen+1) }) 83)) nx) _;have hv:iU (Sg.mk (ug h kp (.row (lR kr st { P with gen:=IntKind.i64.wrap (P.gen+1) }) 83)) nx) kr st=some ((P.roots.map (cD nm)).flatten,92,1):=by simp[iU,p2.roots,B.bv]
 refine dE [] ?_;refine c8 ?_;refine bB rfl (eJ rfl rfl (lG (cD nm) eB.h (bQ eU.h) (by decide) (fun _=>rfl) hv hra)) ?_;refine bB rfl (qQ (cD nm) (pt nm) eA.h rfl (fun _=>rfl) rfl p2.roots hra) ?_;refine c8 ?_;refine bB rfl (eJ rfl rfl (lG (cD nm) eB.h (bQ eU.h) (by decide) (fun _=>rfl) hv hrb)) ?_;refine bB rfl (qQ (cD nm) (pt nm) eA.h rfl (fun _=>rfl) rfl p2.roots hrb) (II rfl (eG rfl ZX rfl).2 (yi p2 n hr1) rfl rfl ?_);have hsm:=Dg hr1 p2.wf;have p3:PH kp kr st nm { P with N:=r1.2,gen:=IntKind.i64.wrap (P.gen+1) } (cH kp kr st nm { P with N:=r1.2,gen:=IntKind.i64.wrap (P.gen+1) } (ug h kp (.row (lR kr st { P with gen:=IntKind.i64.wrap (P.gen+1) }) 83))):=wh p2 hsm.1.len hsm.2 (fun r hr=>by show r<r1.2.length;rw[hsm.1.len];exact p.rt r hr);have ZC:∀k,k<nx->k≠kp->(∀i,i<P.N.length->nm i≠k)->gt (cH kp kr st nm { P with N:=r1.2,gen:=IntKind.i64.wrap (P.gen+1) } (ug h kp (.row (lR kr st { P with gen:=IntKind.i64.wrap (P.gen+1) }) 83))) k=gt h k:=fun k _ k2 k3=>by by_cases e:k=kr;subst e;rw[p3.roots,p.roots];rw[Ce k2 e fun i hi=>k3 i (by have:=hsm.1.len;show i<P.N.length;exact this ▸ hi),E4 k k2]
 refine c8 ?_;refine aZ ⟨by kernel_rfl,trivial,?_⟩;refine goN ?_;refine cU rfl (fun h5=>?_) (fun h5=>?_);rw[h5]at J;obtain rfl:=sI J;refine goN ?_;exact PC rfl rfl rfl rfl (zF _) ⟨_,nx,rfl,rfl,p3,hsm.1.len,zF _,ZC⟩;rw[h5]at J;obtain⟨q,hq,J⟩:=aB J;obtain rfl:=sI J;have oe:iU (Sg.mk (cH kp kr st nm { P with N:=r1.2,gen:=IntKind.i64.wrap (P.gen+1) } (ug h kp (.row (lR kr st { P with gen:=IntKind.i64.wrap (P.gen+1) }) 83))) nx) kr st=some ((P.roots.map (cD nm)).flatten,92,1):=by simp[iU,p3.roots,B.bv]
 haveI:=p3.gp
 haveI:=p3.gr
 refine goN ?_;refine RS.w rfl (eJ rfl rfl (lG (cD nm) eB.h (bQ eU.h) (by decide) (fun _=>rfl) oe hra)) ?_;refine RS.w rfl (qQ (cD nm) (pt nm) eA.h rfl (fun _=>rfl) rfl p3.roots hra) (aI rfl (BE p3 n hq) p9 ?_);refine goN ?_;exact PC rfl rfl rfl rfl (zF _) ⟨_,nx,rfl,rfl,p3,hsm.1.len,zF _,ZC⟩
def rW(n:Nat)(P:PP)(a b:Int):Option (Bool×PP):=a8 (EQ n P a b) fun r=>some (r.1.isSome,r.2)
theorem Ni{n:Nat}{P:PP}{r:Option Nat×PP}(h:EQ n P a b=some r)(w:Wf P.N):Sm P.N r.2.N/\Wf r.2.N/\r.2.H=P.H/\r.2.roots=P.roots/\r.2.size=P.size/\∀q,r.1=some q->q<r.2.N.length:=by
 unfold EQ at h;have key:∀{c:Bool}{z:Option (Option Nat×PP)},cond c (some (none,P)) z=some r->(r=(none,P))\/z=some r:=fun{c z} h=>by rcases c with _|_;exact .inr h;exact .inl (sI h).symm
 have triv:r=(none,P)->Sm P.N r.2.N/\Wf r.2.N/\r.2.H=P.H/\r.2.roots=P.roots/\r.2.size=P.size/\∀q,r.1=some q->q<r.2.N.length:=fun e=>by subst e;exact⟨Sm.refl _,w,rfl,rfl,rfl,nofun⟩
 rcases key h with e |h;exact triv e;rcases key h with e |h;exact triv e;rcases key h with e |h;exact triv e;rcases key h with e |h;exact triv e;obtain⟨ra,_,h⟩:=aB h;obtain⟨rb,_,h⟩:=aB h;obtain⟨r1,h1,h⟩:=aB h;obtain⟨k1,k2⟩:=Dg h1 w;cases hb : !r1.1 with
 |true=>rw[hb]at h;obtain rfl:=sI h;exact⟨k1,k2,rfl,rfl,rfl,nofun⟩
 |false=>rw[hb]at h;obtain⟨q,hq,h⟩:=aB h;obtain rfl:=sI h;refine⟨k1,k2,rfl,rfl,rfl,fun q' e=>?_⟩;cases e;exact Dt hq
theorem yk(p:PH kp kr st nm P h)(n:Nat){r:Bool×PP}(J:rW n P a b=some r):
  aO prog 22 [.ptr kp 0 0,.i6 a,.i6 b] ⟨h,nx⟩ (fun u σ'=>u=.bool r.1/\σ'=⟨cH kp kr st nm r.2 h,nx⟩):=by
 refine aO.wf fun hw _=>?_;obtain⟨r1,h1,h2⟩:=aB J;obtain rfl:=sI h2;have hc:aO prog 22 [.ptr kp 0 0,.i6 a,.i6 b] ⟨h,nx⟩ (fun u σ'=>∃H M,u=.bool r1.1.isSome/\σ'=⟨H,M⟩/\PH kp kr st nm r1.2 H/\r1.2.N.length=P.N.length/\nx<=M/\∀k,k<nx->k≠kp->(∀i,i<P.N.length->nm i≠k)->gt H k=gt h k):=by refine EI 17 uC ?_;refine goN ?_;refine i7 rfl (eG rfl O0 rfl).2 (Zr p n h1) rfl rfl ?_;rintro _ _ ⟨H,M,rfl,rfl,h3,h4,h5,h6⟩;refine goN ?_;exact rY rfl rfl rfl h5 ⟨H,M,rfl,rfl,h3,h4,h5,h6⟩
 exact hc.gh fun u σ' ⟨H,M,e1,e2,h3,h4,h5,h6⟩ _ _=>by subst e1;subst e2;exact⟨_,_,Mq p hw h3 h4 (fun k k1 k2 k3 k4=>h6 k k1 k2 k4) (by simp[aE,aJ]),zF _,rfl,rfl⟩
theorem yn(p:PH kp kr st nm P h):aO prog 16 [.ptr kp 0 0] ⟨h,nx⟩ (fun u σ'=>u=.i6 P.size/\σ'=⟨h,nx⟩):=by
 haveI:=p.gp
 refine gY 7 EG ?_;refine goN ?_;exact rY rfl rfl rfl (zF _) ⟨rfl,rfl⟩
def rZ(n:Nat)(P:PP)(a b:Int):Option ((Int×Bool)×PP):=
 a8 (EQ n P a b) fun r=>match r.1 with
  |none=>some ((0,false),r.2)|some root=>a8 (Bl r.2.gen n r.2.N r.2.size root) fun c=>aH (r.2.roots.length<=1000000) (some ((r.2.roots.length,true),{ r.2 with N:=c.2.1,size:=c.2.2,roots:=r.2.roots++[c.1] }))
theorem uf(p:PH kp kr st nm P h)(n:Nat){r:(Int×Bool)×PP}(J:rZ n P a b=some r):
  aO prog 21 [.ptr kp 0 0,.i6 a,.i6 b] ⟨h,nx⟩ (fun u σ'=>∃st',u=.tup [.i6 r.1.1,.bool r.1.2]/\σ'=⟨cH kp kr st' (gH nm P.N.length nx) r.2 h,nx+(r.2.N.length-P.N.length)⟩):=by
 refine aO.wf fun hw _=>?_;obtain⟨r1,h1,h2⟩:=aB J;obtain⟨s1,s2,s3,s4,s5,s6⟩:=Ni h1 p.wf;refine EI 37 uD ?_;refine goN ?_;refine i7 rfl (eG rfl O0 rfl).2 (Zr p n h1) rfl rfl ?_;rintro _ _ ⟨H,M,rfl,rfl,h3,h4,h5,h6⟩;cases hr:r1.1 with
 |none=>rw[hr]at h2;obtain rfl:=sI h2;refine goN ?_;refine cU rfl (fun _=>?_) (fun h=>by cases h);refine goN ?_;refine GI (σ2:=⟨cH kp kr st nm r1.2 h,nx⟩) rfl rfl rfl rfl (zF _) (Mq p hw h3 h4 (fun k k1 k2 k3 k4=>h6 k k1 k2 k4) (by simp[aE,aJ])) ⟨st,rfl,?_⟩;show Sg.mk _ _=Sg.mk _ _;rw[qn (nm:=nm) (fun k hk=>qP k (by rw[<-s1.len];exact hk)) s2 (fun r hr=>by rw[s4]at hr;rw[s1.len];exact p.rt r hr),s1.len,Nat.sub_self,Nat.add_zero]
 |some root=>
  rw[hr]at h2;obtain⟨c,hc,h2⟩:=aB h2;obtain⟨hrl,h2⟩:=bU h2;obtain rfl:=sI h2;refine goN ?_;refine cU rfl (fun h=>by cases h) (fun _=>?_);refine WPU.wf fun SG _=>?_
  haveI:=h3.gp
  haveI:=h3.gr
  refine goN ?_;refine dE [(0,7),(0,8),(0,9),(1,7),(1,8),(2,7),(2,8),(3,7),(3,8),(4,7),(4,8)] ?_;refine c8 ?_;refine II rfl (eG rfl Ad rfl).2 (gl h3 n (s6 root hr) hc) rfl rfl ?_;obtain⟨e1,e2,e3⟩:=Zk hc s2
  let fJ:=gH nm r1.2.N.length M
  let M2:=M+(c.2.1.length-r1.2.N.length)
  let P2:PP:={ r1.2 with N:=c.2.1,size:=c.2.2 }
  have p4:PH kp kr st fJ P2 (cH kp kr st fJ P2 H):=qm h3 SG e2 fun r hr=>Nat.lt_of_lt_of_le (h3.rt r hr) e1.len;have hkp:kp<M2:=Nat.lt_of_lt_of_le (show kp<M from(SG _ _ h3.pool).1) (Nat.le_add_right _ _);have hkr:kr<M2:=Nat.lt_of_lt_of_le (show kr<M from(SG _ _ h3.roots).1) (Nat.le_add_right _ _)
  haveI:=p4.gp
  haveI:=p4.gr
  haveI:Nq M2 kp:=⟨by rw[beq_eq];simp;omega⟩
  haveI:Nq M2 kr:=⟨by rw[beq_eq];simp;omega⟩
  haveI:SuC M2 (M2+1):=⟨rfl⟩
  change RH _ _ _ _ _ (Sg.mk (cH kp kr st fJ P2 H) M2) _ _;refine dT ?_;have nN:gt ((M2,.row [pt fJ c.1] 92)::cH kp kr st fJ P2 H) kr=some (.vec (r1.2.roots.map (cD fJ)).flatten 92 1 st):=by rw[aK,if_neg (by omega)];exact p4.roots
  have hro:rowOf (Sg.mk ((M2,.row [pt fJ c.1] 92)::cH kp kr st fJ P2 H) (M2+1)) M2=some [pt fJ c.1]:=by simp[rowOf,aK]
  refine RD.act rfl (m8 rfl rfl rfl rfl (tK (cD fJ) [c.1] eB.h eB.h eU.h rfl (fun _=>rfl) nN (vA (cD fJ) [c.1] (q:=[pt fJ c.1]) hro rfl rfl rfl) ⟨by simp;omega,by simp;omega⟩)) rfl rfl ?_;have hgp:dK (ug ((M2,.row [pt fJ c.1] 92)::cH kp kr st fJ P2 H) kr (.vec (List.map (cD fJ) (r1.2.roots++[c.1])).flatten 92 1 (st+1))) kp (.row [.iM iK P2.H.Types,.iM kS P2.H.Feats,.vl kr st 0 P2.roots.length,.i6 P2.size,.i6 P2.gen] 83):=⟨by rw[bL,if_neg p4.krp,aK,if_neg (by omega)];exact p4.pool⟩
  haveI:=hgp
  refine c8 ?_;refine pI ?_;refine aZ ⟨by kernel_rfl,⟨opm,opm,opm,opm,opm,opm,opm,opm,opm,opm,opm,trivial⟩,?_⟩
  let V:B:=.vec (List.map (cD fJ) (r1.2.roots++[c.1])).flatten 92 1 (st+1)
  let P3:PP:={ r1.2 with N:=c.2.1,size:=c.2.2,roots:=r1.2.roots++[c.1] }
  let T:List (Nat×B):=(M2,.row [pt fJ c.1] 92)::cH kp kr st fJ P2 H
  let T2:List (Nat×B):=ug (ug T kr V) kp (.row (lR kr (st+1) P3) 83)
  have hT:∀k,k≠kp->k≠kr->k<M2->gt T2 k=gt (cH kp kr st fJ P2 H) k:=fun k k1 k2 k3=>by simp only[T2,T];rw[bL,if_neg (Ne.symm k1),bL,if_neg (Ne.symm k2),aK,if_neg (by omega)]
  have p5:PH kp kr (st+1) fJ P3 T2:=by
   refine⟨?_,?_,fun i x hx=>?_,p4.inj,p4.wf,fun r hr=>?_⟩;simp only[T2];rw[bL,if_pos rfl,hgp.h];rfl;simp only[T2];rw[bL,if_neg (Ne.symm p4.krp),bL,if_pos rfl];simp only[T];rw[nN];rfl;have hi:=wP hx;have h7:fJ i<M2:=by rcases Nat.lt_or_ge i r1.2.N.length with h8 |h8;simp only[fJ];rw[qP i h8];have:=h3.lt SG h8;omega;simp only[fJ];rw[gH,if_neg (by omega)];have:i<c.2.1.length:=hi;omega
   rw[hT _ (p4.kpn hi) (p4.krn hi) h7];exact p4.node i x hx;rcases yD.1 hr with hr |hr;exact p4.rt r hr;simp at hr;subst hr;exact e3
  change WPU _ _ _ _ (Sg.mk T2 (M2+1)) _
  haveI:=p5.gp
  haveI:=p5.gr
  refine goN ?_;have hwr:IntKind.i64.wrap (((r1.2.roots++[c.1]).length:Int)-1)=r1.2.roots.length:=by rw[zU,kR (by simp) (by simp;omega)];simp
  have hM:nx<=M:=h5;have hnm:∀k,r1.2.N.length<=k->fJ k=M+(k-r1.2.N.length):=fun k hk=>by simp only[fJ];rw[gH,if_neg (by omega)]
  have hle:P.N.length<=P3.N.length:=by rw[<-h4];exact e1.len
  refine GI rfl rfl rfl rfl (Nat.le_add_right _ _) (canon (P1:=P3) (nm1:=fJ) (tm':=[.tup [.i6 r1.2.roots.length,.bool true]]) p hw p5 hle (fun k hk=>?_) (fun k a b=>?_) (fun k k1 k2 k3 k4=>?_) ?_ (by simp[aE,aJ])) ⟨st+1,rfl,rfl⟩;exact qP k (by rw[h4];exact hk);rw[hnm k (by rw[h4];exact a)];show nx<=_;omega;have ny:k<nx:=k1;rw[hT k k2 k3 (by show k<M+_;omega),Ce k2 k3 fun i hi e=>?_];exact h6 k k1 k2 k4;rcases Nat.lt_or_ge i r1.2.N.length with h8 |h8;simp only[fJ]at e;rw[qP i h8]at e;exact k4 i (by rw[<-h4];exact h8) e;rw[hnm i h8]at e;omega;simp only[dC,rU];rw[<-hwr]
end
def GH(q:Nat):List Nat->Nat->Option Nat
 |[],_=>none|k::out,s=>cond (Nat.beq k q) (some s) (GH q out (s+1))
def B2(F:List bS)(k:Nat)(l:List bE):List bS:=match F[k]? with
 |some x=>F.set k ⟨x.Typex,l⟩|none=>F
def KA(g:Nat->List Nat×List bS->Option (Nat×List Nat×List bS)):List eE->List Nat×List bS->List bE->Option (List bE×List Nat×List bS)
 |[],s,acc=>some (acc,s)|a::l,s,acc=>aH (acc.length<=1000000) (a8 (g a.to s) fun r=>KA g l r.2 (acc++[⟨a.f,r.1⟩]))
def rR(N:List PN):Nat->Nat->List Nat×List bS->Option (Nat×List Nat×List bS)
 |0,_,_=>none|m+1,p,s=>match GH p s.1 0 with
  |some k=>some (k,s)|none=>a8 N[p]? fun x=>aH (s.2.length<=1000000/\x.arcs.length<=1000000) (a8 (KA (rR N m) x.arcs (s.1++[p],s.2++[⟨x.kind,[]⟩]) []) fun r=>some (s.2.length,r.2.1,B2 r.2.2 s.2.length r.1))
def vI(nm:Nat->Nat)(s:Nat)(out:List Nat):List (Nat×U×Nat):=(out.zipIdx s).map fun p=>(nm p.1,.i6 (p.2:Nat),p.2)
theorem mb(nm:Nat->Nat)(s:Nat)(out:List Nat)(q:Nat):vI nm s (out++[q])=vI nm s out++[(nm q,.i6 ((s+out.length:Nat):Int),s+out.length)]:=by
 simp[vI,List.zipIdx_append]
theorem Di{nm:Nat->Nat}{n:Nat}(hi:∀i j,i<n->j<n->nm i=nm j->i=j){q:Nat}(hq:q<n):∀(out:List Nat)(s:Nat),(∀k∈out,k<n)->o7 (nm q) (vI nm s out)=(GH q out s).map fun k=>.i6 (k:Nat)
 |[],s,_=>rfl|k::out,s,h=>by have ih:=Di hi hq out (s+1) fun k hk=>h k (by simp[hk]);simp only[vI,List.zipIdx_cons,zQ,o7,GH]at ih ⊢;rw[ih];by_cases e:k=q;subst e;simp[beq_eq];have:nm k≠nm q:=fun h2=>e (hi k q (h k (by simp)) hq h2);simp[beq_eq,this,e]
theorem Nw{nm:Nat->Nat}{h:List (Nat×B)}{n:Nat}(hr:∀i,i<n->isRow h (nm i)):∀(out:List Nat)(s:Nat),(∀k∈out,k<n)->∀e∈vI nm s out,isRow h e.1:=fun out s ho e he=>by
 simp only[vI,List.mem_map]at he;obtain⟨p,hp,rfl⟩:=he;exact hr _ (ho _ (List.fst_mem_of_mem_zipIdx hp))
structure VI(nm:Nat->Nat)(N:List PN)(K6 Km K7 Kv K8:Nat)(s:List Nat×List bS)(h:List (Nat×B)):Prop where
 k6:gt h K6=some (.row [.map Km] 108)
 km:gt h Km=some (.map ((vI nm 0 s.1).map pE) s.1.length)
 k7:gt h K7=some (.row [.vl Kv s.2.length 0 s.2.length] 39)
 kv:gt h Kv=some (.bv bM s.2 79 2 s.2.length)
 k8:gt h K8=some (.row [.fn (.func 43) [] [.ptr K6 0 0,.ptr K7 0 0,.ptr K8 0 0]] 109)
 nd:∀(i:Nat)(x:PN),N[i]? = some x->gt h (nm i)=some (.row (jJ nm x) 103)
 inj:∀i j,i<N.length->j<N.length->nm i=nm j->i=j
 lt:∀p∈s.1,p<N.length
 eq:s.1.length=s.2.length
def vH(nm:Nat->Nat)(Km K7 Kv:Nat)(s:List Nat×List bS)(h:List (Nat×B)):List (Nat×B):=
 (Km,.map ((vI nm 0 s.1).map pE) s.1.length)::(K7,.row [.vl Kv s.2.length 0 s.2.length] 39)::(Kv,.bv bM s.2 79 2 s.2.length)::h
section
variable{nm:Nat->Nat}{N:List PN}{K6 Km K7 Kv K8:Nat}{s s':List Nat×List bS}{h:List (Nat×B)}{nx:Nat}
theorem VI.ne(v:VI nm N K6 Km K7 Kv K8 s h):Km≠K7/\Km≠Kv/\K7≠Kv/\K6≠Km/\K6≠K7/\K6≠Kv/\K8≠Km/\K8≠K7/\K8≠Kv/\∀i,i<N.length->nm i≠Km/\nm i≠K7/\nm i≠Kv:=by
 refine⟨fun e=>?_,fun e=>?_,fun e=>?_,fun e=>?_,fun e=>?_,fun e=>?_,fun e=>?_,fun e=>?_,fun e=>?_,fun i hi=>?_⟩;have:=v.km;rw[e,v.k7]at this;cases this;have:=v.km;rw[e,v.kv]at this;cases this;have:=v.k7;rw[e,v.kv]at this;cases this;have:=v.k6;rw[e,v.km]at this;cases this;have:=v.k6;rw[e,v.k7]at this;simp at this;have:=v.k6;rw[e,v.kv]at this;cases this;have:=v.k8;rw[e,v.km]at this;cases this;have:=v.k8;rw[e,v.k7]at this;simp at this;have:=v.k8;rw[e,v.kv]at this;cases this;have hn:=v.nd i _ (List.getElem?_eq_getElem hi);refine⟨fun e=>?_,fun e=>?_,fun e=>?_⟩;rw[e,v.km]at hn;cases hn;rw[e,v.k7]at hn;simp at hn;rw[e,v.kv]at hn;cases hn
theorem P9{k:Nat}(h1:k≠Km)(h2:k≠K7)(h3:k≠Kv):gt (vH nm Km K7 Kv s h) k=gt h k:=by
 rw[vH,aK,if_neg (Ne.symm h1),aK,if_neg (Ne.symm h2),aK,if_neg (Ne.symm h3)]
variable{H:List (Nat×B)}
theorem VI.to(v:VI nm N K6 Km K7 Kv K8 s h)(hs:∀k,k≠Km->k≠K7->k≠Kv->∀b,gt h k=some b->gt H k=some b)(m1:gt H Km=some (.map ((vI nm 0 s'.1).map pE) s'.1.length))(m2:gt H K7=some (.row [.vl Kv s'.2.length 0 s'.2.length] 39))(m3:gt H Kv=some (.bv bM s'.2 79 2 s'.2.length))(lt:∀p∈s'.1,p<N.length)(eq:s'.1.length=s'.2.length):VI nm N K6 Km K7 Kv K8 s' H:=by
 obtain⟨n1,n2,n3,n4,n5,n6,n7,n8,n9,SC⟩:=v.ne;exact⟨hs _ n4 n5 n6 _ v.k6,m1,m2,m3,hs _ n7 n8 n9 _ v.k8,fun i x hx=>hs _ (SC i (wP hx)).1 (SC i (wP hx)).2.1 (SC i (wP hx)).2.2 _ (v.nd i x hx),v.inj,lt,eq⟩
theorem VI.vh(v:VI nm N K6 Km K7 Kv K8 s h)(lt:∀p∈s'.1,p<N.length)(eq:s'.1.length=s'.2.length):VI nm N K6 Km K7 Kv K8 s' (vH nm Km K7 Kv s' h):=by
 obtain⟨n1,n2,n3,n4,n5,n6,n7,n8,n9,SC⟩:=v.ne;refine v.to (fun k k1 k2 k3 b hb=>by rw[P9 k1 k2 k3];exact hb) ?_ ?_ ?_ lt eq;rw[vH,aK,if_pos rfl];rw[vH,aK,if_neg n1,aK,if_pos rfl];rw[vH,aK,if_neg n2,aK,if_neg n3,aK,if_pos rfl]
theorem VI.row(v:VI nm N K6 Km K7 Kv K8 s h):∀i,i<N.length->isRow h (nm i):=fun i hi=>⟨_,_,v.nd i _ (List.getElem?_eq_getElem hi)⟩
theorem EX(v:VI nm N K6 Km K7 Kv K8 s h)(hw:jA ⟨h,nx⟩){M:Nat}{tm:List U}(hM:nx<=M)(v':VI nm N K6 Km K7 Kv K8 s' H)(hs:∀k,k<nx->k≠Km->k≠K7->k≠Kv->gt H k=gt h k)(hb:aE nx tm):Gh nx tm ⟨H,M⟩ tm ⟨vH nm Km K7 Kv s' h,nx⟩:=by
 have hkm:Km<nx:=(hw _ _ v.km).1;have kl:K7<nx:=(hw _ _ v.k7).1;have hkv:Kv<nx:=(hw _ _ v.kv).1;have hni:∀i,i<N.length->nm i<nx:=fun i hi=>(hw _ _ (v.nd i _ (List.getElem?_eq_getElem hi))).1;refine Gh.rnG id (fun _ _=>rfl) (zF _) (fun k b hg=>?_) (fun k k' b b' _ _ e=>e) (C9 tm) hb;have key:k<nx/\BelB nx b/\gt H k=some b:=by rw[vH,aK]at hg;by_cases e1:Km=k;rw[if_pos e1]at hg;cases hg;subst e1;refine⟨hkm,fun e he=>?_,v'.km⟩;obtain⟨q,hq,rfl⟩:=List.mem_map.1 he;obtain⟨p,hp,rfl⟩:=List.mem_map.1 hq;exact⟨hni _ (v'.lt _ (List.fst_mem_of_mem_zipIdx hp)),trivial⟩;rw[if_neg e1,aK]at hg;by_cases e2:K7=k;rw[if_pos e2]at hg;cases hg;subst e2;exact⟨kl,⟨hkv,trivial⟩,v'.k7⟩;rw[if_neg e2,aK]at hg;by_cases e3:Kv=k;rw[if_pos e3]at hg;cases hg;subst e3;exact⟨hkv,QT nx (fun x=>qU nx x) _,v'.kv⟩;rw[if_neg e3]at hg;obtain⟨h1,h2⟩:=hw k b hg;exact⟨h1,h2,by rw[hs k h1 (Ne.symm e1) (Ne.symm e2) (Ne.symm e3)];exact hg⟩
 refine⟨key.1,key.2.1,?_⟩;rw[Va (f:=id) (n:=nx) (fun _ _=>rfl) b key.2.1];exact key.2.2
theorem La(v:VI nm N K6 Km K7 Kv K8 s h)(hw:jA ⟨h,nx⟩)(v':VI nm N K6 Km K7 Kv K8 s' H)(hs:∀k,k<nx->k≠Km->k≠K7->k≠Kv->gt H k=gt h k):∀k b,k<nx->gt H k=some b->BelB nx b:=fun k b hk hb=>by
 have hkv:Kv<nx:=(hw _ _ v.kv).1;by_cases e1:k=Km;rw[e1,v'.km]at hb;cases hb;intro e he;obtain⟨q,hq,rfl⟩:=List.mem_map.1 he;obtain⟨p,hp,rfl⟩:=List.mem_map.1 hq;exact⟨(hw _ _ (v.nd _ _ (List.getElem?_eq_getElem (v'.lt _ (List.fst_mem_of_mem_zipIdx hp))))).1,trivial⟩;by_cases e2:k=K7;rw[e2,v'.k7]at hb;cases hb;exact⟨hkv,trivial⟩;by_cases e3:k=Kv;rw[e3,v'.kv]at hb;cases hb;exact QT nx (fun x=>qU nx x) _;rw[hs k hk e1 e2 e3]at hb;exact(hw k b hb).2
theorem pa(v:VI nm N K6 Km K7 Kv K8 s h)(hw:jA ⟨h,nx⟩)(v':VI nm N K6 Km K7 Kv K8 s' H)(hs:∀k,k<nx->k≠Km->k≠K7->k≠Kv->gt H k=gt h k){Ka sz:Nat}{b:B}(hK:nx<=Ka):∀k,k<nx->gt (fzH Ka b sz H) k=gt H k:=fun k hk=>by
 rw[wO,if_neg (by omega)];rcases hq:gt H k with _|b';rfl;simp only[zM];rw[QG _ _ (QI hK (La v hw v' hs k b' hk hq))]
theorem VI.low(v:VI nm N K6 Km K7 Kv K8 s h)(hw:jA ⟨h,nx⟩){H':List (Nat×B)}(v':VI nm N K6 Km K7 Kv K8 s' H)(he:∀k,k<nx->gt H' k=gt H k):VI nm N K6 Km K7 Kv K8 s' H':=by
 have lt:∀{k b},gt h k=some b->k<nx:=fun{k b} hk=>(hw k b hk).1;exact⟨by rw[he _ (lt v.k6)];exact v'.k6,by rw[he _ (lt v.km)];exact v'.km,by rw[he _ (lt v.k7)];exact v'.k7,by rw[he _ (lt v.kv)];exact v'.kv,by rw[he _ (lt v.k8)];exact v'.k8,fun i x hx=>by rw[he _ (lt (v.nd i x hx))];exact v'.nd i x hx,v'.inj,v'.lt,v'.eq⟩
theorem Ef(F:List bS)(k:Nat)(l:List bE):(B2 F k l).length=F.length:=by
 unfold B2;split<;>simp
def Um(N:List PN)(s s':List Nat×List bS):Prop:=(∀q∈s'.1,q<N.length)/\s'.1.length=s'.2.length/\s.2.length<=s'.2.length
theorem Zh{N:List PN}{g:Nat->List Nat×List bS->Option (Nat×List Nat×List bS)}(hg:∀p s r,g p s=some r->p<N.length->(∀q∈s.1,q<N.length)->s.1.length=s.2.length->Um N s r.2):∀(l:List eE)(s:List Nat×List bS)(acc:List bE)(r:List bE×List Nat×List bS),KA g l s acc=some r->(∀a∈l,a.to<N.length)->(∀q∈s.1,q<N.length)->s.1.length=s.2.length->Um N s r.2
 |[],s,acc,r,h,_,h1,h2=>by obtain rfl:=sI h;exact⟨h1,h2,zF _⟩
 |a::l,s,acc,r,h,hl,h1,h2=>by obtain⟨_,h⟩:=bU h;obtain⟨r1,hr1,h⟩:=aB h;obtain⟨k1,k2,k3⟩:=hg _ _ _ hr1 (hl a (by simp)) h1 h2;obtain⟨k4,k5,k6⟩:=Zh hg l _ _ _ h (fun b hb=>hl b (by simp[hb])) k1 k2;exact⟨k4,k5,Nat.le_trans k3 k6⟩
theorem Nh{N:List PN}(wf:∀x∈N,gJ N.length x):∀(m p:Nat)(s:List Nat×List bS)(r:Nat×List Nat×List bS),rR N m p s=some r->p<N.length->(∀q∈s.1,q<N.length)->s.1.length=s.2.length->Um N s r.2
 |0,_,_,_,h,_,_,_=>by cases h
 |m+1,p,s,r,h,hp,h1,h2=>by
  cases hn:GH p s.1 0 with
  |some k=>rw[rR,hn]at h;obtain rfl:=sI h;exact⟨h1,h2,zF _⟩
  |none=>rw[rR,hn]at h;obtain⟨x,hx,h⟩:=aB h;obtain⟨_,h⟩:=bU h;obtain⟨rA,hA,h⟩:=aB h;obtain rfl:=sI h;obtain⟨k1,k2,k3⟩:=Zh (Nh wf m) _ _ _ _ hA (wf x (zX hx)).arcs (fun q hq=>by rcases yD.1 hq with hq |hq;exact h1 q hq;simp at hq;subst hq;exact hp) (by simp[h2]);refine⟨k1,by simp only[Ef];exact k2,?_⟩;simp only[Ef];simp at k3;omega
theorem Yn:∀(m:Nat){s:List Nat×List bS}{h:List (Nat×B)}{nx p:Nat}{r:Nat×List Nat×List bS},VI nm N K6 Km K7 Kv K8 s h->(∀x∈N,gJ N.length x)->p<N.length->rR N m p s=some r->
  aO prog 43 [pt nm p,.ptr K6 0 0,.ptr K7 0 0,.ptr K8 0 0] ⟨h,nx⟩ (fun u σ'=>u=.i6 (r.1:Nat)/\σ'=⟨vH nm Km K7 Kv r.2 h,nx⟩)
 |0,_,_,_,_,_,_,_,_,J=>by cases J
 |m+1,s,h,nx,p,r,v,wf,hp,J=>by
  haveI:dK h K6 (.row [.map Km] 108):=⟨v.k6⟩
  cases hn:GH p s.1 0 with
  |some k=>rw[rR,hn]at J;obtain rfl:=sI J;refine aO.wf fun hw _=>?_;refine Au 63 ED ?_;refine goN ?_;refine sV rfl (dM.plook tb_ok (zu:=.i6 0) rfl vZ.h eA.h (bQ iG.h) mB.h rfl (cB rfl) (cB rfl) v.km (v.row p hp) (Nw v.row s.1 0 v.lt)) ?_;rintro _ _ ⟨rfl,rfl⟩;rw[Di v.inj hp s.1 0 v.lt,hn];refine goN ?_;refine cU rfl (fun h1=>?_) (fun h1=>by cases h1);refine goN ?_;exact Bp (w:=.i6 (k:Nat)) (σ2:=⟨vH nm Km K7 Kv s h,nx⟩) rfl rfl rfl (zF _) (EX v hw (zF _) v (fun _ _ _ _ _=>rfl) (by simp[aE,aJ])) ⟨rfl,rfl⟩
  |none=>
   rw[rR,hn]at J;obtain⟨x,hx,J⟩:=aB J;obtain⟨⟨C4,GX⟩,J⟩:=bU J;obtain⟨rA,hA,J⟩:=aB J;obtain rfl:=sI J;have hwx:=wf x (zX hx);have:aO prog 43 [pt nm p,.ptr K6 0 0,.ptr K7 0 0,.ptr K8 0 0] ⟨h,nx⟩ (fun u σ'=>u=.i6 (s.2.length:Nat)/\σ'=⟨vH nm Km K7 Kv (rA.2.1,B2 rA.2.2 s.2.length rA.1) h,nx⟩):=by
    refine aO.wf fun hw _=>?_;obtain⟨n1,n2,n3,n4,n5,n6,n7,n8,n9,SC⟩:=v.ne;have hkm:Km<nx:=(hw _ _ v.km).1;have kl:K7<nx:=(hw _ _ v.k7).1;have hkv:Kv<nx:=(hw _ _ v.kv).1;have v_:K8<nx:=(hw _ _ v.k8).1;have hnp:nm p<nx:=(hw _ _ (v.nd p x hx)).1
    haveI:dK h K7 (.row [.vl Kv s.2.length 0 s.2.length] 39):=⟨v.k7⟩
    haveI:dK h Kv (.vec (s.2.map bM).flatten 79 2 s.2.length):=⟨v.kv⟩
    refine Au 63 ED ?_;refine goN ?_;refine sV rfl (dM.plook tb_ok (zu:=.i6 0) rfl vZ.h eA.h (bQ iG.h) mB.h rfl (cB rfl) (cB rfl) v.km (v.row p hp) (Nw v.row s.1 0 v.lt)) ?_;rintro _ _ ⟨rfl,rfl⟩;rw[Di v.inj hp s.1 0 v.lt,hn];refine goN ?_;refine cU rfl (fun h1=>by cases h1) (fun h1=>?_);refine goN ?_;refine RS.stepn rfl (dM.pins tb_ok (v:=.i6 (s.2.length:Nat)) (.inl rfl) vZ.h eA.h (bQ iG.h) (cB rfl) (cB rfl) (cB rfl) v.km (v.row p hp) (Nw v.row s.1 0 v.lt) (by rw[Di v.inj hp s.1 0 v.lt,hn];rfl)) ?_;rintro _ _ ⟨rfl,rfl⟩
    let Bm:B:=.map ((vI nm 0 s.1++[(nm p,U.i6 (s.2.length:Nat),s.1.length)]).map pE) (s.1.length+1)
    change RU _ _ _ _ _ (Sg.mk (ug h Km Bm) nx) _
    haveI:SuC nx (nx+1):=⟨rfl⟩
    haveI:dK (ug h Km Bm) K7 (.row [.vl Kv s.2.length 0 s.2.length] 39):=⟨by rw[bL,if_neg n1];exact v.k7⟩
    haveI:dK (ug h Km Bm) (nm p) (.row [.i6 x.kind,.iM (bH nm) x.arcs,po nm x.fw,.i6 x.fwA,.i6 x.mt,.i6 x.mtA,.iM (bH nm) x.more,.i6 x.moA,po nm x.cp,.i6 x.cpA,.bool x.ch,.i6 x.chA] 103):=⟨by rw[bL,if_neg (Ne.symm (SC p hp).1)];exact v.nd p x hx⟩
    haveI:Nq nx K7:=⟨by rw[beq_eq];simp;omega⟩
    refine goN ?_;refine dE [(0,7),(1,7)] ?_;refine c8 ?_;refine dT ?_;have nN:gt ((nx,.row [.i6 x.kind,.nils] 79)::ug h Km Bm) Kv=some (.vec (s.2.map bM).flatten 79 2 s.2.length):=by rw[aK,if_neg (by omega),bL,if_neg n2];exact v.kv
    have hro:rowOf (Sg.mk ((nx,.row [.i6 x.kind,.nils] 79)::ug h Km Bm) (nx+1)) nx=some [.i6 x.kind,.nils]:=by simp[rowOf,aK]
    refine RD.act rfl (m8 rfl rfl rfl rfl (tK bM [⟨x.kind,[]⟩] nC.h nC.h mA.h rfl (fun _=>rfl) nN (vA bM [⟨x.kind,[]⟩] (q:=[.i6 x.kind,.nils]) hro rfl rfl rfl) ⟨by simp;omega,by simp;omega⟩)) rfl rfl ?_
    haveI:dK (ug ((nx,.row [.i6 x.kind,.nils] 79)::ug h Km Bm) Kv (.vec (List.map bM (s.2++[⟨x.kind,[]⟩])).flatten 79 2 (s.2.length+1))) K7 (.row [.vl Kv s.2.length 0 s.2.length] 39):=⟨by rw[bL,if_neg (Ne.symm n3),aK,if_neg (by omega),bL,if_neg n1];exact v.k7⟩
    refine c8 ?_;refine pI ?_;refine aZ ⟨by kernel_rfl,⟨opm,opm,trivial⟩,?_⟩
    let s1:List Nat×List bS:=(s.1++[p],s.2++[⟨x.kind,[]⟩])
    let V1:B:=.vec (List.map bM (s.2++[⟨x.kind,[]⟩])).flatten 79 2 (s.2.length+1)
    let R1:B:=.row [.vl Kv (s.2.length+1) 0 (s.2++[(⟨x.kind,[]⟩:bS)]).length] 39
    let H1:List (Nat×B):=ug (ug ((nx,.row [.i6 x.kind,.nils] 79)::ug h Km Bm) Kv V1) K7 R1
    change tE _ _ _ _ (Sg.mk H1 (nx+1));have g7:gt (ug ((nx,.row [.i6 x.kind,.nils] 79)::ug h Km Bm) Kv V1) K7=some (.row [.vl Kv s.2.length 0 s.2.length] 39):=by rw[bL,if_neg (Ne.symm n3),aK,if_neg (by omega),bL,if_neg n1];exact v.k7
    have ky:∀k,k<nx->k≠Km->k≠K7->k≠Kv->gt H1 k=gt h k:=fun k k0 k1 k2 k3=>by simp only[H1];rw[bL,if_neg (Ne.symm k2),bL,if_neg (Ne.symm k3),aK,if_neg (by omega),bL,if_neg (Ne.symm k1)]
    have v1:VI nm N K6 Km K7 Kv K8 s1 H1:=by refine v.to (fun k k1 k2 k3 b hb=>by rw[ky k (hw k b hb).1 k1 k2 k3];exact hb) ?_ ?_ ?_ (fun q hq=>?_) (by simp[s1,v.eq]);simp only[H1];rw[bL,if_neg (Ne.symm n1),bL,if_neg (Ne.symm n2),aK,if_neg (by omega),bL,if_pos rfl,v.km];simp only[Bm,s1,zM,mb,v.eq,Nat.zero_add,zU,zO,zS];simp only[H1];rw[bL,if_pos rfl,g7];simp[R1,s1];simp only[H1];rw[bL,if_neg n3,bL,if_pos rfl,nN];simp[V1,s1,B.bv];rcases yD.1 hq with hq |hq;exact v.lt q hq;simp at hq;subst hq;exact hp
    haveI:dK H1 (nm p) (.row [.i6 x.kind,.iM (bH nm) x.arcs,po nm x.fw,.i6 x.fwA,.i6 x.mt,.i6 x.mtA,.iM (bH nm) x.more,.i6 x.moA,po nm x.cp,.i6 x.cpA,.bool x.ch,.i6 x.chA] 103):=⟨v1.nd p x hx⟩
    refine goN ?_;refine gV 9 105 2 (nx+2) ?_ (h0:=Nat.le_succ _);have vG:∀k,k<nx->gt ((nx+1,.vec [] 105 2 0)::H1) k=gt H1 k:=fun k hk=>by rw[aK,if_neg (by omega)]
    refine gL (fun m' tm σ=>∃(j st:Nat)(acc:List bE)(s2:List Nat×List bS)(H:List (Nat×B))(M:Nat),m'=x.arcs.length-j/\j<=x.arcs.length/\KA (rR N m) (x.arcs.drop j) s2 acc=some rA/\tm=fr 63 [(2,.ptr K7 0 0),(3,.ptr K8 0 0),(8,.i6 (s.2.length:Nat)),(9,.vl (nx+1) st 0 acc.length),(39,.iM (bH nm) x.arcs),(40,.i6 x.arcs.length),(41,.i6 j)]/\σ=⟨H,M⟩/\nx+1<M/\VI nm N K6 Km K7 Kv K8 s2 H/\s.2.length<s2.2.length/\gt H (nx+1)=some (.bv c6 acc 105 2 st)/\∀k,k<nx->k≠Km->k≠K7->k≠Kv->gt H k=gt h k)
     (fun tm σ=>∃(H:List (Nat×B))(M:Nat),tm=fr 63 [(2,.ptr K7 0 0),(8,.i6 (s.2.length:Nat)),(9,.iM c6 rA.1)]/\σ=⟨H,M⟩/\nx+1<M/\VI nm N K6 Km K7 Kv K8 rA.2 H/\s.2.length<rA.2.2.length/\∀k,k<nx->k≠Km->k≠K7->k≠Kv->gt H k=gt h k) x.arcs.length
     ⟨0,0,[],s1,_,nx+2,rfl,Nat.zero_le _,hA,rfl,rfl,zN _,v.low hw v1 vG,by simp[s1],by simp[aK],fun k k0 k1 k2 k3=>by rw[vG k k0];exact ky k k0 k1 k2 k3⟩ ?_ ?_ (by show nx<=nx+2;omega)
    rintro _ _ ⟨H,M,rfl,rfl,hM,v2,hlt,hfr⟩;have hKk:∃nd,rA.2.2[s.2.length]? = some nd:=⟨_,List.getElem?_eq_getElem hlt⟩;obtain⟨nd,hnd⟩:=hKk;have hset:B2 rA.2.2 s.2.length rA.1=rA.2.2.set s.2.length ⟨nd.Typex,rA.1⟩:=by unfold B2;rw[hnd]
    haveI:dK H K7 (.row [.vl Kv rA.2.2.length 0 rA.2.2.length] 39):=⟨v2.k7⟩
    have hv:iU (Sg.mk H M) Kv rA.2.2.length=some ((rA.2.2.map bM).flatten,79,2):=by simp[iU,v2.kv,B.bv]
    have hid:aC rA.2.2 ((s.2.length:Nat):Int)=some nd:=by rw[aC,if_pos ⟨by omega,by omega⟩];simpa using hnd
    refine goN ?_;refine RS.w rfl (eJ rfl rfl (lG bM nC.h (bQ mA.h) (by decide) (fun _=>rfl) hv hid)) ?_;refine RS.w rfl (qN vT.h rfl (bQ N7.h) rfl (PW v2.kv) rfl) ?_;have hidV:jM rA.2.2 0 rA.2.2.length ((s.2.length:Nat):Int)=some nd:=by rw[jM,if_pos ⟨by omega,by omega⟩];simpa using hnd
    refine RS.wn rfl (st_vf (σ:=⟨H,M⟩) (y:=(⟨nd.Typex,rA.1⟩:bS)) bM (bQ N7.h) (fun _=>rfl) rfl rfl rfl rfl rfl v2.kv hidV rfl rfl) ?_;refine goN ?_;have E1:∀k,k≠Kv->gt (ug H Kv (.vec ((rA.2.2.set (0+((s.2.length:Nat):Int).toNat) ⟨nd.Typex,rA.1⟩).map bM).flatten 79 2 rA.2.2.length)) k=gt H k:=fun k hk=>by rw[bL,if_neg (Ne.symm hk)]
    have v4:VI nm N K6 Km K7 Kv K8 (rA.2.1,B2 rA.2.2 s.2.length rA.1) (ug H Kv (.vec ((rA.2.2.set (0+((s.2.length:Nat):Int).toNat) ⟨nd.Typex,rA.1⟩).map bM).flatten 79 2 rA.2.2.length)):=by refine v2.to (fun k k1 k2 k3 b hb=>by rw[E1 k k3];exact hb) (by rw[E1 _ n2];exact v2.km) (by rw[E1 _ n3,v2.k7];simp only[Ef]) ?_ v2.lt (by simp only[Ef];exact v2.eq);rw[bL,if_pos rfl,v2.kv];simp[B.bv,hset]
    exact Bp (w:=.i6 (s.2.length:Nat)) (σ2:=⟨vH nm Km K7 Kv (rA.2.1,B2 rA.2.2 s.2.length rA.1) h,nx⟩) rfl rfl rfl (zF _) (EX v hw (by show nx<=M;omega) v4 (fun k k0 k1 k2 k3=>by rw[E1 k k3];exact hfr k k0 k1 k2 k3) (by simp[aE,aJ])) ⟨rfl,rfl⟩;rintro _ _ _ ⟨j,st,acc,s2,H,M,rfl,hj,hpv,rfl,rfl,hM,v2,hlt,hga,hfr⟩;refine WPU.wf fun kT _=>?_
    haveI:SuC M (M+1):=⟨rfl⟩
    refine goN ?_;refine cU rfl (fun h9=>?_) (fun h9=>?_)
    ·have hjl:j<x.arcs.length:=by simpa using h9
     obtain⟨a,ha⟩:∃a,x.arcs[j]? = some a:=⟨_,List.getElem?_eq_getElem hjl⟩;have rC:aC x.arcs (j:Int)=some a:=by rw[aC,if_pos ⟨by omega,by omega⟩];simpa using ha
     have y6:x.arcs.drop j=a::x.arcs.drop (j+1):=by rw[List.drop_eq_getElem_cons hjl];rw[List.getElem?_eq_getElem hjl]at ha;cases ha;rfl
     have qY:IntKind.i64.wrap ((j:Int)+1)=((j+1:Nat):Int):=by rw[kR (by omega) (by omega)];rfl
     rw[y6]at hpv;obtain⟨hal,hpv⟩:=bU hpv;obtain⟨r3,y3,hpv⟩:=aB hpv;have hto:=hwx.arcs a (zX ha);obtain⟨t1,t2,t3⟩:=Nh wf m _ _ _ y3 hto v2.lt v2.eq;have v3:VI nm N K6 Km K7 Kv K8 s2 ((M,.row (bH nm a) 107)::H):=v.low hw v2 fun k hk=>by rw[aK,if_neg (by omega)]
     haveI:dK ((M,.row (bH nm a) 107)::H) K8 (.row [.fn (.func 43) [] [.ptr K6 0 0,.ptr K7 0 0,.ptr K8 0 0]] 109):=⟨v3.k8⟩
     refine goN ?_;apply aL;refine goN ?_;refine aP rC ?_;refine goN ?_;refine dE [(0,6),(0,8),(1,6),(2,6)] ?_;refine c8 ?_;refine II rfl (wQ rfl rfl ED hb43 rfl (by simp)) (Yn m v3 wf hto y3) rfl rfl ?_;have hMk:M≠Km/\M≠K7/\M≠Kv:=⟨by omega,by omega,by omega⟩;have hNk:nx+1≠Km/\nx+1≠K7/\nx+1≠Kv:=⟨by omega,by omega,by omega⟩
     haveI:dK (vH nm Km K7 Kv r3.2 ((M,.row (bH nm a) 107)::H)) M (.row (bH nm a) 107):=⟨by rw[P9 hMk.1 hMk.2.1 hMk.2.2,aK,if_pos rfl]⟩
     haveI:SuC (M+1) (M+2):=⟨rfl⟩
     haveI:Nq (M+1) M:=⟨by rw[beq_eq];simp⟩
     refine c8 ?_;refine dT ?_;have ZB:gt ((M+1,.row [.i6 a.f,.i6 (r3.1:Nat)] 105)::vH nm Km K7 Kv r3.2 ((M,.row (bH nm a) 107)::H)) (nx+1)=some (.vec (acc.map c6).flatten 105 2 st):=by rw[aK,if_neg (by omega),P9 hNk.1 hNk.2.1 hNk.2.2,aK,if_neg (by omega)];exact hga
     have So:rowOf (Sg.mk ((M+1,.row [.i6 a.f,.i6 (r3.1:Nat)] 105)::vH nm Km K7 Kv r3.2 ((M,.row (bH nm a) 107)::H)) (M+2)) (M+1)=some [.i6 a.f,.i6 (r3.1:Nat)]:=by simp[rowOf,aK]
     refine RD.act rfl (m8 rfl rfl rfl rfl (tK c6 [⟨a.f,(r3.1:Nat)⟩] iJ.h iJ.h fT.h rfl (fun _=>rfl) ZB (vA c6 [⟨a.f,(r3.1:Nat)⟩] (q:=[.i6 a.f,.i6 (r3.1:Nat)]) So rfl rfl rfl) ⟨by simp;omega,by simp;omega⟩)) rfl rfl ?_;refine c8 ?_;refine aZ ⟨by kernel_rfl,⟨lJ rfl,lJ rfl,opm,opm,trivial⟩,?_⟩;refine goN ?_;have hlow:∀k,k<nx->gt (ug ((M+1,.row [.i6 a.f,.i6 (r3.1:Nat)] 105)::vH nm Km K7 Kv r3.2 ((M,.row (bH nm a) 107)::H)) (nx+1) (.vec ((acc++[(⟨a.f,(r3.1:Nat)⟩:bE)]).map c6).flatten 105 2 (st+1))) k=gt (vH nm Km K7 Kv r3.2 ((M,.row (bH nm a) 107)::H)) k:=fun k hk=>by rw[bL,if_neg (by omega),aK,if_neg (by omega)]
     refine⟨x.arcs.length-(j+1),_,_,by omega,⟨j+1,st+1,acc++[⟨a.f,(r3.1:Nat)⟩],r3.2,_,M+2,rfl,hjl,hpv,rfl,rfl,by omega,v.low hw (v3.vh t1 t2) hlow,by omega,?_,fun k k0 k1 k2 k3=>?_⟩,by show nx<=M+2;omega,Gh.sub ?_⟩;rw[bL,if_pos rfl,ZB];rfl;rw[hlow k k0,P9 k1 k2 k3,aK,if_neg (by omega)];exact hfr k k0 k1 k2 k3
     ·rw[<-qY];(repeat refine⟨rfl,?_⟩);exact trivial
    ·refine goN ?_;have hjl:j=x.arcs.length:=by
      have:¬ (j:Int)<x.arcs.length:=by simpa using h9
      omega
     subst hjl;rw[List.drop_length]at hpv;obtain rfl:=sI hpv;have hz:=pa v hw v2 hfr (Ka:=nx+1) (sz:=2) (b:=.bv c6 acc 105 2 st) (Nat.le_succ _);refine⟨_,⟨_,M⟩,⟨_,M,rfl,rfl,hM,v.low hw v2 hz,hlt,fun k k0 k1 k2 k3=>by rw[hz k k0];exact hfr k k0 k1 k2 k3⟩,by show nx<=M;omega,Gh.trans (Gh.sub (l':=[(2,.ptr K7 0 0),(8,.i6 (s.2.length:Nat)),(9,.vl (nx+1) st 0 acc.length)]) (by((repeat refine⟨rfl,?_⟩);exact trivial))) (Gh.fzS (σ:=⟨H,M⟩) (nx+1) (.bv c6 acc 105 2 st) 2 hga nofun ?_ rfl)⟩;have e1:=CR (c:=c6) (sz:=2) (fun _=>rfl) acc (nx+1) 2 105 st;simp only[Vx.fzS];rw[e1,CY _ _ _ (show aJ (nx+1) (.ptr K7 0 0) by show K7<nx+1;omega)];rfl
   exact this
end
theorem OF{h:List (Nat×B)}{N k:Nat}{l:List U}{e:TypeId}(hg:gt h k=some (.row l e)):cellsOf (Sg.mk h N) k 0=some l:=by simp[cellsOf,hg]
def rX(n:Nat)(P:PP)(k:Int):Option (GFS×Bool):=
 cond (decide (k<0)) (some (⟨[]⟩,false)) (cond (decide (k>=(P.roots.length:Int))) (some (⟨[]⟩,false)) (a8 (aC P.roots k) fun r=>a8 (rR P.N n r ([],[])) fun s=>some (⟨s.2.2⟩,true)))
section
variable{kp kr st:Nat}{nm:Nat->Nat}{P:PP}{h:List (Nat×B)}{nx:Nat}
theorem Na(p:PH kp kr st nm P h)(n:Nat){k:Int}{r:GFS×Bool}(J:rX n P k=some r):
  aO prog 19 [.ptr kp 0 0,.i6 k] ⟨h,nx⟩ (fun u σ'=>u=.tup [.agg (fV r.1),.bool r.2]/\σ'=⟨h,nx⟩):=by
 refine aO.wf fun hw _=>?_;have hkp:kp<nx:=(hw _ _ p.pool).1;have hkr:kr<nx:=(hw _ _ p.roots).1
 haveI:SuC nx (nx+1):=⟨rfl⟩
 haveI:SuC (nx+1) (nx+2):=⟨rfl⟩
 haveI:SuC (nx+2) (nx+3):=⟨rfl⟩
 haveI:SuC (nx+3) (nx+4):=⟨rfl⟩
 haveI:SuC (nx+4) (nx+5):=⟨rfl⟩
 have nq:∀{a b:Nat},b<a->Nq a b:=fun h=>⟨by rw[beq_eq];simp;omega⟩
 haveI:Nq nx kp:=nq hkp
 haveI:Nq nx kr:=nq hkr
 haveI:=p.gp
 haveI:=p.gr
 have early:∀{H:List (Nat×B)}{N:Nat},(∀k,k<nx->gt H k=gt h k)->nx<=N->Gh nx [.tup [.agg [.nils],.bool false]] ⟨H,N⟩ [.tup [.agg (fV ⟨[]⟩),.bool false]] ⟨h,nx⟩:=fun hs hN=>(Gh.wk (.cons (.tup (.cons (.agg (.cons (.nil false) .nil)) (.cons (.refl _) .nil))) .nil)).trans (Gh.back hw hs hN (by simp[fV,aE,aJ,fW]) (zF _));refine dF 33 yI ?_;refine goN ?_;unfold rX at J;cases h1:decide (k<0)with
 |true=>rw[h1]at J;obtain rfl:=sI J;refine goN ?_;refine cU rfl (fun _=>?_) (fun h=>by cases h);refine goN ?_;exact⟨.inr rfl,_,qL (pP nB.h rfl (bQ oR.h) rfl (OF (by rw[aK,if_pos rfl])) rfl) (dO rfl dX),_,⟨h,nx⟩,zF _,early (fun k hk=>by rw[aK,if_neg (by omega)]) (Nat.le_succ _),rfl,rfl⟩
 |false=>
 rw[h1]at J;cases h2:decide (k>=(P.roots.length:Int))with
 |true=>rw[h2]at J;obtain rfl:=sI J;refine goN ?_;refine cU rfl (fun _=>?_) (fun h=>absurd (h2.symm.trans h) nofun);refine goN ?_;exact⟨.inr rfl,_,qL (pP nB.h rfl (bQ oR.h) rfl (OF (by rw[aK,if_pos rfl])) rfl) (dO rfl dX),_,⟨h,nx⟩,zF _,early (fun k hk=>by rw[aK,if_neg (by omega)]) (Nat.le_succ _),rfl,rfl⟩
 |false=>
 rw[h2]at J;obtain⟨ro,hro,J⟩:=aB J;obtain⟨s,hs,J⟩:=aB J;obtain rfl:=sI J;refine goN ?_;refine cU rfl (fun h=>absurd (h2.symm.trans h) nofun) (fun _=>?_);refine goN ?_;refine RS.w rfl Xq ?_;refine goN ?_;refine RS.w rfl (Cj rfl rfl) ?_;refine rp ?_
 let F8:B:=.row [.fn (.func 43) [] [.ptr (nx+2) 0 0,.ptr (nx+3) 0 0,.ptr (nx+4) 0 0]] 109
 let H0:List (Nat×B):=(nx+4,F8)::(nx+3,.row [.nils] 39)::(nx+2,.row [.map (nx+1)] 108)::(nx+1,.map [] 0)::(nx,.row [.nils] 39)::h
 change WPU _ _ _ _ (Sg.mk H0 (nx+5)) _;have nN:gt H0 (nx+3)=some (.row [.nils] 39):=by simp[H0,aK]
 refine cR (vP (σ:=⟨H0,nx+5⟩) (nx+3) 0 79 2 (by decide) (by show nx<=nx+5;omega) nN rfl) (by show nx<=nx+6;omega) ?_
 let H1:List (Nat×B):=(nx+5,.vec [] 79 2 0)::(nx+4,F8)::(nx+3,.row [.vl (nx+5) 0 0 0] 39)::(nx+2,.row [.map (nx+1)] 108)::(nx+1,.map [] 0)::(nx,.row [.nils] 39)::h
 refine WPU.eqv rfl (σ':=⟨H1,nx+6⟩) (by simp[H0,H1,newU,ug,beq_eq]) ?_;have hlow:∀k,k<nx->gt H1 k=gt h k:=fun k hk=>by simp only[H1];rw[aK,if_neg (by omega),aK,if_neg (by omega),aK,if_neg (by omega),aK,if_neg (by omega),aK,if_neg (by omega),aK,if_neg (by omega)]
 have v:VI nm P.N (nx+2) (nx+1) (nx+3) (nx+5) (nx+4) ([],[]) H1:=⟨by simp[H1,aK],by simp[H1,aK,vI],by simp[H1,aK],by simp[H1,aK,B.bv],by simp[H1,aK,F8],fun i x hx=>by rw[hlow _ (p.lt hw (wP hx))];exact p.node i x hx,p.inj,nofun,rfl⟩
 haveI:dK H1 (nx+4) F8:=⟨v.k8⟩
 haveI:dK H1 kp (.row [.iM iK P.H.Types,.iM kS P.H.Feats,.vl kr st 0 P.roots.length,.i6 P.size,.i6 P.gen] 83):=⟨by rw[hlow kp hkp];exact p.pool⟩
 have hv:iU (Sg.mk H1 (nx+6)) kr st=some ((P.roots.map (cD nm)).flatten,92,1):=by simp only[iU,hlow kr hkr,p.roots,B.bv];simp
 have Sp:gt H1 kr=some (.vec (P.roots.map (cD nm)).flatten 92 1 st):=by rw[hlow kr hkr];exact p.roots
 obtain⟨t1,t2,t3⟩:=Nh p.wf n _ _ _ hs (p.rt ro (zX (QO hro).2.2)) nofun rfl;refine dE [] ?_;refine c8 ?_;refine bB rfl (eJ rfl rfl (lG (cD nm) eB.h (bQ eU.h) (by decide) (fun _=>rfl) hv hro)) ?_;refine bB rfl (qQ (cD nm) (pt nm) eA.h rfl (fun _=>rfl) rfl Sp hro) ?_;have hrol:=p.rt ro (zX (QO hro).2.2);refine II rfl (wQ rfl rfl ED hb43 rfl (by simp)) (Yn n v p.wf hrol hs) rfl rfl ?_;have v2:VI nm P.N (nx+2) (nx+1) (nx+3) (nx+5) (nx+4) s.2 (vH nm (nx+1) (nx+3) (nx+5) s.2 H1):=v.vh t1 t2;have GZ:gt (vH nm (nx+1) (nx+3) (nx+5) s.2 H1) nx=some (.row [.nils] 39):=by rw[P9 (by omega) (by omega) (by omega)];simp[H1,aK]
 haveI:dK (vH nm (nx+1) (nx+3) (nx+5) s.2 H1) (nx+3) (.row [.vl (nx+5) s.2.2.length 0 s.2.2.length] 39):=⟨v2.k7⟩
 haveI:dK (vH nm (nx+1) (nx+3) (nx+5) s.2 H1) nx (.row [.nils] 39):=⟨GZ⟩
 refine aZ ⟨by kernel_rfl,trivial,?_⟩;refine goN ?_;have hgN:gt (ug (vH nm (nx+1) (nx+3) (nx+5) s.2 H1) nx (.row [.vl (nx+5) s.2.2.length 0 s.2.2.length] 39)) nx=some (.row [.vl (nx+5) s.2.2.length 0 s.2.2.length] 39):=by rw[bL,if_pos rfl,GZ];rfl
 refine⟨.inr rfl,_,qL (pP nB.h rfl (bQ oR.h) rfl (OF hgN) rfl) (dO rfl dX),_,⟨h,nx⟩,zF _,Bi (c:=bM) (xs:=s.2.2) (e:=79) (sz:=2) (K:=nx+5) (st:=s.2.2.length) hw (Nat.le_add_right _ _) (by rw[bL,if_neg (by omega)];exact v2.kv) (fun k hk=>?_) (by show nx<=nx+6;omega) (tm':=[.tup [.agg (fV ⟨s.2.2⟩),.bool true]]) ?_ ?_ (zF _),rfl,rfl⟩;have hk:k<nx:=hk;rw[bL,if_neg (by omega),P9 (by omega) (by omega) (by omega),hlow k hk];have e1:=CR (c:=bM) (sz:=2) (fun _=>rfl) s.2.2 (nx+5) 2 79 s.2.2.length;have e2:∀(b:B)(u v:U),fz (nx+5) b 2 u=v->fF (nx+5) b 2 [U.tup [U.agg [u],U.bool true]]=[U.tup [U.agg [v],U.bool true]]:=fun b u v e=>by simp only[fF,fz,e]
 exact e2 _ _ _ e1;simp only[aE,aJ,and_true];exact qp nx ⟨s.2.2⟩
end
def nV(H:dY):PP:=⟨H,[],[],0,1⟩
def AU(H:dY)(nx:Nat)(h:List (Nat×B)):List (Nat×B):=(nx+2,.vec [] 92 1 0)::(nx+1,.row (lR (nx+2) 0 (nV H)) 83)::(nx,.row (iY H) 27)::h
theorem lj(H:dY)(nx:Nat)(h:List (Nat×B))(nm:Nat->Nat):PH (nx+1) (nx+2) 0 nm (nV H) (AU H nx h):=
 ⟨by simp[AU,aK],by simp[AU,aK,nV],fun i x hx=>by simp[nV]at hx,fun i j hi=>by simp[nV]at hi,nofun,nofun⟩
theorem Vk(H:dY)(h:List (Nat×B))(nx:Nat):aO prog 12 [.agg (iY H)] ⟨h,nx⟩ (fun u σ'=>u=.ptr (nx+1) 0 0/\σ'=⟨AU H nx h,nx+3⟩):=by
 haveI:SuC nx (nx+1):=⟨rfl⟩
 haveI:SuC (nx+1) (nx+2):=⟨rfl⟩
 refine gY 6 O1 ?_;refine goN ?_;refine RS.w (u:=.agg [.iM iK H.Types,.iM kS H.Feats,.nils,.i6 0,.i6 1]) rfl (VE (qs:=[(0,.agg (iY H)),(3,.i6 1)]) rfl (by kernel_rfl)) ?_;refine goN ?_;have hg:gt ((nx+1,.row [.iM iK H.Types,.iM kS H.Feats,.nils,.i6 0,.i6 1] 83)::(nx,.row (iY H) 27)::h) (nx+1)=some (.row [.iM iK H.Types,.iM kS H.Feats,.nils,.i6 0,.i6 1] 83):=by rw[aK,if_pos rfl]
 refine Bp (w:=.ptr (nx+1) 0 0) (σ2:=⟨AU H nx h,nx+3⟩) rfl rfl rfl (by show nx<=nx+3;omega) (Gh.trans (vP (σ:=⟨(nx+1,.row [.iM iK H.Types,.iM kS H.Feats,.nils,.i6 0,.i6 1] 83)::(nx,.row (iY H) 27)::h,nx+2⟩) (nx+1) 2 92 1 (by decide) (by show nx<=nx+2;omega) hg rfl) (Gh.eqv rfl ?_)) ⟨rfl,rfl⟩;simp[newU,ug,beq_eq,AU,lR,nV]
end Go.Proofs
