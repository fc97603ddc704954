import Derived.DefersIn
import Derived.Test.YtldlchbgolpkaaaGreatP12
set_option linter.all false
namespace Go.Vx
open Go Go.Rx
section
variable{P:H0}{T:Tb}(hT:kT P T)
include hT
def z9b{m:Nm}{n:Nat}{tm:V O}{a:Act}(ha:vX m n tm a)(o:Oper){c:Call}(ho:o.op=.defer c)(w:PL){f:FuncId}{args:V O}(h:callOf T tm (.call c)=some (f,args)):
  ∃fv cap dargs cargs,(execOp a.eval o).run P w=.ok (.defer { target:=.fn fv cap,args:=dargs }) w/\(∀w',(invoke (.fn fv cap) dargs).run P w'=.ok (.enter f cargs.toArray) w')/\n7 m n args cargs:=by
 obtain⟨dst,op,type,pos,after,guard⟩:=o;simp only at ho;subst ho;unfold callOf at h;obtain⟨callee,a7,ats⟩:=c;simp only at h;cases callee with
 |value g=>
  simp only at h;rcases hg:evalO tm g with _|u;simp[hg]at h;cases u with
  |func fn first cap=>
   cases fn with
   |func k=>
    simp only[hg]at h;rcases hk:T.fn k with _|fn;simp[hk]at h;simp only[hk]at h;rcases hb:fn.body.isSome with _|_;simp[hb]at h;simp only[hb,zC]at h;rcases hl:kW tm a7.toList with _|vs;simp[hl]at h;simp only[hl,zA,zB]at h;obtain⟨rfl,rfl⟩:=h;obtain⟨hfn,A7⟩:=hT.fn k fn hk;obtain⟨first⟩:=first
    obtain⟨cap⟩:=cap;have e0:=kF (ha m (aI.refl _ _)) hg;have e1:=sH (ha m (aI.refl _ _)) hl;have Ux:fn.body.isNone=false:=by cases hbb:fn.body<;>simp_all
    refine⟨.func k,(aE m cap).toArray,(aE m first++aE m vs).toArray,aE m first++aE m vs++aE m cap,?_,fun w'=>?_,fun m' eF=>?_⟩;simp only[ren,fF]at e0;simp only[execOp,zK,resolve,e0,e1,Deferred.ofValue,zL,zJ];simp;simp only[invoke,callFunc,zK,run_program,zJ,hfn,A7 hb,Ux,Bool.false_eq_true,if_false];simp;have GB:=kF (ha m' eF) hg;have HR:=sH (ha m' eF) hl;rw[e0]at GB;rw[e1]at HR;simp_all[ren,x3]
   |_=>simp[hg]at h
  |_=>simp[hg]at h
 |_=>simp at h
abbrev Eb(T:Tb)(rs:V ResultVar)(n0:Nat)(R:U->Sg->Prop)(tm:V U)(X:Sg):Prop :=
 ∃l,oE T X tm rs=some l/\∃u' bT,n0<=bT.nx/\Gh n0 [nM l] X [u'] bT/\R u' bT
def Q9(F:Nat->lP->Prop)(R:U->Sg->Prop)(x:Cx)(m:Nm)(w:PL):Ending->PL->Prop:=fun e w₁=>
 ∃y aK u v cv,e=.returned cv/\R u y.X/\bG m x.s w aK y.s w₁/\eT aK y.s.nx v cv/\jY y/\Fr F y/\aD y u v/\Ke x.X.nx x y/\x.X.nx<=y.X.nx
def zbb{fn:Func}{R:U->Sg->Prop}{F:Nat->lP->Prop}{x y:Cx}{tm:V U}{tv:V O}{m m':Nm}{w w':PL}{a:Act}(st:St F y tm tv m' w' a)(aS:bG m x.s w m' y.s w')(eC:Ke x.X.nx x y)(h:Eb T fn.results.toList x.X.nx R tm y.X):
  ∃v,(results fn a.tmps).run P w'=.ok v w'/\Q9 F R x m w (.returned v) w':=by
 have⟨l,mD,u',bT,lL,KD,hR⟩:=h;have⟨ls,tO,wC⟩:=Fm st.h st.e mD;have cR:∀m'',aI y.s.nx m' m''->(results fn a.tmps).run P w'=.ok (ren m'' (sC ls)) w':=fun m'' jB=>by rw[st.act m'' jB];exact Om hT (st.fits m'' jB) tO
 have fU:eT m' y.s.nx (sC ls) (ren m' (sC ls)):=fun m'' jB=>by have e1:=cR m'' jB;rw[cR m' (aI.refl _ _)]at e1;simp at e1;exact e1.symm
 have⟨z,z1,z2,z3,z4,z5,z6⟩:=KD F y [sC ls] rfl st.h st.fr (bB.cons (v00 wC) (bB.nil y));have⟨v0,VV,e0,z7,_⟩:=z5.inv;cases e0;have cW:=z1 m' w' st.fits;exact⟨_,cR m' (aI.refl _ _),z,m',u',sC ls,_,rfl,z2 ▸ hR,aS.trans cW,fU.ext (aI.refl _ _) cW.nx,z3,z4,z7,eC.trans z6,by rw[z2];exact lL⟩
omit hT in
def BO(P:H0)(T:Tb)(fn:Func)(n0:Nat)(R:U->Sg->Prop)(c:Code)(tm:V U)(X:Sg):Prop :=
 ∀F x0 m0 w0 x tv m w a,x0.X.nx=n0->n0<=X.nx->x.X=X->St F x tm tv m w a->bG m0 x0.s w0 m x.s w->Ke n0 x0 x->a.defers=[]->c.wpIn (nO none) 0 P (bodyPostDIn (nO none) 0 P fn (Q9 F R x0 m0 w0)) a w
def b7.of_bodyD{f:FuncId}{fn:Func}{c:Code}{args:V U}{X:Sg}{R:U->Sg->Prop}(hf:T.fn f=some fn)(hb:fn.body=some c)
  (h:BO P T fn X.nx R c (AX fn.ntmps args) X):b7 P f args X R:=fun F x vs m w cargs hx hh k9 he dR bW=>by
 have⟨uL,_⟩:=hT.fn f fn hf;have eZ:cargs.length=vs.length:=by rw[<-bW.at];simp
 refine(callsIn_wide (n:=0)).1 (callsIn_of_wp_defers (F:=nO none) uL hb trivial ?_);have xQ:vX m x.s.nx (pad fn.ntmps vs) { tmps:=cargs.toArray++Array.replicate (fn.ntmps-cargs.toArray.size) undef,defers:=[] }:=fun m' eF=>by simp only[Mk,x3,bW m' eF,eZ,List.size_toArray];apply Array.ext';simp[kE,ren,undef]
 exact h F x m w x _ m w _ (by rw[hx]) (zF _) hx ⟨hh,k9,XS _ he,dR,xQ⟩ (bG.refl dR) (Ke.refl _ _) rfl
variable{fn:Func}{n0:Nat}{R:U->Sg->Prop}{tm:V U}{X:Sg}
omit hT in
def BO.ghost{c:Code}{tm':V U}{X':Sg}(h:Gh n0 tm X tm' X')(uJ:n0<=X'.nx)(hw:BO P T fn n0 R c tm' X'):BO P T fn n0 R c tm X:=fun F x0 m0 w0 x tv m w a xE hn hx st aS eC hd=>by
 have⟨y,h1,h2,h3,h4,h5,h6⟩:=h F x tv hx st.h st.fr st.e;have fP:=h1 m w st.fits;exact hw F x0 m0 w0 y tv m w a xE uJ h2 ⟨h3,h4,h5,fP.fits,st.act.ext fP.agree fP.nx⟩ (aS.trans fP) (eC.trans h6) hd
def BO.seq{p q:Code}(h:WPU (PG.of P) n0 p tm X (C1 (fun tm' X'=>BO P T fn n0 R q tm' X') (fun e tm' X'=>e=.ret/\Eb T fn.results.toList n0 R tm' X'))):BO P T fn n0 R (.seq p q) tm X:=fun F x0 m0 w0 x tv m w a xE hn hx st aS eC hd=>by
 refine wpIn_seq (wpIn_mono (h hn F x tv m w a 0 hx st ⟨Nat.zero_le _,trivial⟩ ⟨fun _=>rfl,fun h=>by cases h⟩ none trivial) ?_);rintro e a' w' ⟨y,tm',d8,m',hq,cD,bP,dA,uJ,j7⟩;have gK:a'.defers=[]:=(j7.eq rfl).trans hd;cases e with
 |normal=>exact hq F x0 m0 w0 y d8 m' w' a' xE uJ rfl cD (aS.trans bP) (eC.trans dA) gK|ret=>have⟨_,Ba⟩:=hq;subst xE;show LeavesIn _ _ _ _ _ _ a'.defers _ _;rw[gK];exact zbb hT (fn:=fn) cD (aS.trans bP) (eC.trans dA) Ba
 |exit id=>cases hq.1|goto l=>cases hq.1
 |panic ch=>cases hq.1|outgrown=>cases hq.1
abbrev VK(P:H0)(T:Tb)(rs:V ResultVar)(n0:Nat)(R:U->Sg->Prop)(g:FuncId)(PY:V U)(tm:V U)(X:Sg):Prop :=
 ∃fd cd,T.fn g=some fd/\fd.body=some cd/\WPU (PG.of P) X.nx cd (AX fd.ntmps PY) X (fun e tm' X'=>(e=.normal\/e=.ret)/\(∃l,oE T X' tm' fd.results.toList=some l)/\Eb T rs n0 R tm X')
def BO.clos{c:Code}{g:FuncId}{PY:V U}(hd0:n0<=X.nx)(h:WPU (PG.of P) X.nx c tm X (fun e tm' X'=>(e=.normal\/e=.ret)/\VK P T fn.results.toList n0 R g PY tm' X')):
  ∀F x0 m0 w0 x tv m w a fv cap dargs cargs vs,x0.X.nx=n0->x.X=X->St F x tm tv m w a->bG m0 x0.s w0 m x.s w->Ke n0 x0 x->a.defers=[{ target:=.fn fv cap,args:=dargs }]->(∀w',(invoke (.fn fv cap) dargs).run P w'=.ok (.enter g cargs.toArray) w')->bB x PY vs->n7 m x.s.nx vs cargs->
   c.wpIn (nO none) 0 P (bodyPostDIn (nO none) 0 P fn (Q9 F R x0 m0 w0)) a w:=fun F x0 m0 w0 x tv m w a fv cap dargs cargs vs xE hx st aS eC hd Aw hdu CW=>by
 apply wpIn_mono (h (zF _) F x tv m w a 0 hx st ⟨Nat.zero_le _,trivial⟩ ⟨fun _=>rfl,fun h=>by cases h⟩ none trivial);rintro e a' w' ⟨y,tm',d8,m',⟨uM,fd,cd,Az,BL,Wd⟩,cD,bP,dA,uJ,j7⟩;have gK:a'.defers=[{ target:=.fn fv cap,args:=dargs }]:=(j7.eq rfl).trans hd;subst hx;have hdu':bB y PY vs:=dA.E hdu.bel hdu;have hdl':n7 m' y.s.nx vs cargs:=fun m'' jB=>CW m'' ((bP.agree).trans jB bP.nx);have⟨pn,_⟩:=hT.fn g fd Az;have eZ:cargs.length=vs.length:=by rw[<-CW.at];simp
 have xQ:vX m' y.s.nx (pad fd.ntmps vs) { tmps:=cargs.toArray++Array.replicate (fd.ntmps-cargs.toArray.size) undef,defers:=[] }:=fun m'' jB=>by simp only[Mk,x3,hdl' m'' jB,eZ,List.size_toArray];apply Array.ext';simp[kE,ren,undef]
 have key:LeavesIn (nO none) 0 P fn a'.tmps (Q9 F R x0 m0 w0) a'.defers .returning w':=by
  rw[gK];apply leavesIn_cons (by simp) (fun h=>by simp[nO,Fence.wide]at h) (Aw w') (fun _ _=>trivial);refine(callsDIn_of_wp (R:=fun e w''=>∃v,e=.returned v/\∃v',(results fn a'.tmps).run P w''=.ok v' w''/\Q9 F R x0 m0 w0 (.returned v') w'') pn BL trivial ?_).mono ?_;apply wpIn_mono (Wd (zF _) F y _ m' w' _ 0 rfl ⟨cD.h,cD.fr,XS _ hdu',cD.fits,xQ⟩ ⟨Nat.zero_le _,trivial⟩ ⟨fun _=>rfl,fun h=>by cases h⟩ none trivial);rintro e1 a1 w1 ⟨z,GT,tv1,m1,⟨hex1,⟨l1,vC⟩,Ba⟩,AV,fP,Vg,Jd,hdf1⟩;have Vv:a1.defers=[]:=hdf1.eq rfl;have⟨ls1,Un,_⟩:=Fm AV.h AV.e vC;have Ul:(results fd a1.tmps).run P w1=.ok (ren m1 (sC ls1)) w1:=by rw[AV.act m1 (aI.refl _ _)];exact Om hT (AV.fits m1 (aI.refl _ _)) Un
  subst xE;have cK:St F z tm' d8 m1 w1 a':=⟨AV.h,AV.fr,Vg.E cD.e.bel cD.e,AV.fits,cD.act.ext fP.agree fP.nx⟩;have hk:=zbb hT (fn:=fn) cK ((aS.trans bP).trans fP) ((eC.trans (dA.le hd0)).trans (Vg.le (Nat.le_trans hd0 uJ))) Ba;have hp:bodyPost P fd (fun e w''=>∃v,e=.returned v/\∃v',(results fn a'.tmps).run P w''=.ok v' w''/\Q9 F R x0 m0 w0 (.returned v') w'') .ret a1 w1:=⟨Vv,_,Ul,_,rfl,hk⟩;rcases hex1 with rfl |rfl;exact hp;exact hp;rintro e1 u1 w1 ⟨rfl,v,rfl,hk⟩;exact hk
 rcases uM with rfl |rfl;exact key;exact key
omit hT in
def XD{C:PG}(hT:kT C.prog T)(aB:H2 Oper)(E:Exit->Act->PL->Prop)(L:V Nat)(tail:V Oper){F:Nat->lP->Prop}{x0:Cx}{m0:Nm}{w0:PL}{df:V Deferred}(K:V U->Sg->Prop)(CY:VI C n0 x0 m0 w0)(uL:fY m0 x0.s w0)(ro:M Nat)(kH:C.ro ro):
  ∀(rest:V Oper)(i:Nat),aB.toList.drop i=rest++tail->∀(x:Cx)(tm:V U)(tv:V O)(m:Nm)(w:PL)(a:Act),St F x tm tv m w a->a.defers=df->bG m0 x0.s w0 m x.s w->Ke n0 x0 x->n0<=x.X.nx->RU C T aB.toList rest tm x.X K-> (∀y tm' d8 m' w' a',K tm' y.X->St F y tm' d8 m' w' a'->bG m0 x0.s w0 m' y.s w'->Ke n0 x0 y->n0<=y.X.nx->a'.defers=df->wpOpsIn (nO ro) 0 C.prog aB E L a' w')->wpOpsIn (nO ro) 0 C.prog aB E (List.range' i rest.length++L) a w
 |[],i,_,x,tm,tv,m,w,a,st,hd,aS,eC,hn,h,hQ=>by simp[zS,List.range'_zero,List.nil_append];exact hQ x tm tv m w a h st aS eC hn hd
 |o::rest,i,HL,x,tm,tv,m,w,a,st,hd,aS,eC,hn,h,hQ=>by
  have ho:aB[i]? = some o:=by have:=congrArg (fun l=>l[0]?) HL;simpa using this
  have bF:aB.toList.drop (i+1)=rest++tail:=by have:=congrArg List.tail HL;simpa using this
  simp[zO,List.range'_succ,List.cons_append,wpOpsIn,ho,ja (st.act m (aI.refl _ _)) aB o];simp only[RU]at h;rcases h with⟨hw,u,X',h1,h2⟩|⟨hw,f,args,R,h1,h2,h3⟩|⟨hw,h1⟩|⟨hw,t,xo,yo,ty,e,b,l,h1,h2,h3,h4,h5⟩|⟨hw,R,h1,h2⟩;rw[B8 st.e hw];simp[if_true];refine DT (v05 h1) (st.op hT o h1 fun y d8 aK w₁ bE e1 cD bP dA lL j7=>?_);exact XD hT aB E L tail K CY uL ro kH rest (i+1) bF y _ d8 aK w₁ bE cD (j7.trans hd) (aS.trans bP) (eC.trans (dA.le hn)) (by omega) (e1 ▸ h2) hQ;rw[B8 st.e hw];simp[if_true];refine DT (Oc h1) (st.call hT o h1 h2 fun y u d8 aK w₁ bE hR cD bP dA lL j7=>?_);exact XD hT aB E L tail K CY uL ro kH rest (i+1) bF y _ d8 aK w₁ bE cD (j7.trans hd) (aS.trans bP) (eC.trans (dA.le hn)) (by omega) (h3 u y.X hR) hQ;rw[B8 st.e hw];simp[Bool.false_eq_true,if_false];exact⟨fun _ _=>trivial,XD hT aB E L tail K CY uL ro kH rest (i+1) bF x _ _ m w _ (st.skip o.dst) ((OC _ _ _).trans hd) aS eC hn h1 hQ⟩;rw[B8 st.e hw];simp[if_true];refine DT (by rw[h1];intro c hc;cases hc) (st.nilq hT o h1 h2 h3 h4 fun z y d8 aK w₁ bE hz e1 cD bP dA lL j7=>?_);exact XD hT aB E L tail K CY uL ro kH rest (i+1) bF y _ d8 aK w₁ bE cD (j7.trans hd) (aS.trans bP) (eC.trans (dA.le hn)) (by omega) (e1 ▸ h5 z hz) hQ;rw[B8 st.e hw];simp[if_true];refine h1 F x tv m w a _ _ rfl st ⟨Nat.le_trans CY.nb hn,(CY.adv uL aS eC).g⟩ (fun u y d8 aK w₁ bE hR cD bP dA lL j7=>?_) ro kH;exact XD hT aB E L tail K CY uL ro kH rest (i+1) bF y _ d8 aK w₁ bE cD (j7.trans hd) (aS.trans bP) (eC.trans (dA.le hn)) (by omega) (h2 u y.X hR) hQ
def BO.dfr{id:Nat}{aB:H2 Oper}{q:Code}(k:Nat){o:Oper}{c:Call}(hk:aB.toList[k]? = some o)(ho:o.op=.defer c)(hg:o.guard=none)(hds:o.dst=none)
  (h:RU (PG.of P) T aB.toList (aB.toList.take k) tm X (fun GT X1=>∃g PY,kN T GT (.call c)=some (g,PY)/\RU (PG.of P) T aB.toList (aB.toList.drop (k+1)) GT X1 (fun zi Q5=>X1=Q5/\WPU (PG.of P) Q5.nx q zi Q5 (fun e tm' X'=>(e=.normal\/e=.ret)/\VK P T fn.results.toList n0 R g PY tm' X')))):
  BO P T fn n0 R (.seq (.region id aB false) q) tm X:=fun F x0 m0 w0 x tv m w a xE hn hx st aS eC hd=>by
 subst hx;obtain⟨Vd,hko⟩:=zG.1 hk;have FY:aB.toList=aB.toList.take k++o::aB.toList.drop (k+1):=by rw[<-hko,<-List.drop_eq_getElem_cons Vd,List.take_append_drop]
 generalize aB.toList.take k=pre at h FY;generalize aB.toList.drop (k+1)=post at h FY;refine wpIn_seq (wpIn_region ?_);rw[List.range_eq_range'];have dU:aB.size=pre.length+(post.length+1):=by have:=congrArg List.length FY;simpa using this
 have hrg:List.range' 0 aB.size=List.range' 0 pre.length++(pre.length::List.range' (pre.length+1) post.length):=by rw[dU,<-List.range'_append_1 (s:=0),Nat.zero_add,List.range'_succ]
 rw[hrg];refine XD (C:=PG.of P) (n0:=n0) hT aB _ _ (o::post) (F:=F) (x0:=x) (m0:=m) (w0:=w) (df:=a.defers) _ ⟨Nat.zero_le _,trivial⟩ st.fits none trivial pre 0 (by simpa using FY) x tm tv m w a st rfl (bG.refl st.fits) (Ke.refl _ _) hn h ?_;rintro y tm' d8 m' w' a' ⟨g,PY,EE,wD⟩ cD bP dA uJ gK;have hoi:aB[pre.length]? = some o:=by
  have:aB.toList[pre.length]? = some o:=by rw[FY];simp
  simpa using this
 have Ui:Region.wanted o (yielded aB a'.tmps)=true:=by simp[Region.wanted,hg]
 simp only[wpOpsIn,hoi,Ui,if_true];obtain⟨vs,h1,h2⟩:=qzo cD.e EE;obtain⟨fv,cap,dargs,cargs,e1,e2,e3⟩:=z9b hT cD.act o ho w' h1;refine⟨fun _ _=>trivial,?_⟩;have e4:(o.semAt (nO none).round a'.eval)=execOp a'.eval o:=Oper.semAt_none _ _;rw[e4,e1];rw[Oper.uponIn_defer];rw[hds];have AV:St F y tm' d8 m' w' (({ a' with defers:=({ target:=.fn fv cap,args:=dargs }:Deferred)::a'.defers }:Act).put none undef):=
  ⟨cD.h,cD.fr,cD.e,cD.fits,fun m'' jB=>cD.act m'' jB⟩
 have key:=XD (C:=PG.of P) (n0:=y.X.nx) hT aB (Exit.then (Code.wpIn (nO none) 0 P q (bodyPostDIn (nO none) 0 P fn (Q9 F R x0 m0 w0))) (bodyPostDIn (nO none) 0 P fn (Q9 F R x0 m0 w0))) [] [] (F:=F) (x0:=y) (m0:=m') (w0:=w') (df:={ target:=.fn fv cap,args:=dargs }::a'.defers) _ ⟨Nat.zero_le _,trivial⟩ cD.fits none trivial post (pre.length+1) (by rw[FY];simp) y _ _ m' w' _ AV (OC _ _ _) (bG.refl cD.fits) (Ke.refl _ _) (zF _) wD ?_;rw[List.append_nil]at key;exact key;rintro z zi tv2 m2 w2 a2 ⟨E4,hw⟩ zr cW Vf Am hdf2;simp[wpOpsIn];refine BO.clos hT (tm:=zi) (X:=z.X) (fn:=fn) (n0:=n0) (R:=R) (by rw[<-E4];exact uJ) hw F x0 m0 w0 z tv2 m2 w2 a2 fv cap dargs cargs vs xE rfl zr ((aS.trans bP).trans cW) ((eC.trans dA).trans (Vf.le uJ)) (by rw[hdf2,gK,hd]) e2 (Vf.E h2.bel h2) (fun m'' jB=>e3 m'' (cW.agree.trans jB cW.nx))
end
variable{q:V U}
variable{p:V U}
variable{a:Nat}
def z1h{n:Nat}(h:lD q a n=some p):a+n<=q.length/\(q.drop a).take n=p:=by unfold lD at h;split at h;rename_i hj;exact⟨hj,Option.some.inj h⟩;cases h
variable{sz:Nat}
variable{fo:Nat}
def ZA{u:U}(h:lD q a sz=some p)(h2:nth p fo=some u):nth q (a+fo)=some u:=by have⟨h1,rfl⟩:=z1h h;rw[jD]at h2 ⊢;have hl:=(zG.1 h2).1;rw[List.length_take]at hl;rw[List.getElem?_take_of_lt (by omega),List.getElem?_drop]at h2;exact h2
def Z3{p' cs:V U}(h:lD q a sz=some p)(h2:qB p fo cs=some p'):qB q (a+fo) cs=qB q a p':=by
 have⟨h1,rfl⟩:=z1h h;unfold qB at h2;split at h2
 ·rename_i hj;have hp:=Option.some.inj h2;rw[List.length_take,List.length_drop]at hj;have hl:p'.length=sz:=by rw[<-hp];simp;omega
  unfold qB;rw[if_pos (by omega),if_pos (by omega),<-hp];congr 1;have e1:List.take fo (List.take sz (List.drop a q))=List.take fo (List.drop a q):=by rw[List.take_take,Nat.min_eq_left (by omega)]
  have e2:List.take (a+fo) q=List.take a q++List.take fo (List.drop a q):=List.take_add;have e3:List.drop (a+fo+cs.length) q=List.drop (fo+cs.length) (List.take sz (List.drop a q))++List.drop (a+sz) q:=by
   have:List.drop a q=List.take sz (List.drop a q)++List.drop (a+sz) q:=by rw[<-List.drop_drop,List.take_append_drop]
   rw[Nat.add_assoc,<-List.drop_drop]
   conv=>lhs;rw[this]
   rw[List.drop_append_of_le_length (by rw[List.length_take,List.length_drop];omega)]
  rw[e1,e2,e3];simp[zT,hl];omega
 cases h2
section
variable{T:Tb}{X X':Sg}{n:Nat}{l:V (Nat×U)}{u v w:U}
def vZ{v11:Type}(c:v11->V U){t e':TypeId}{d:TypeDesc}{K st off m:Nat}{xs:V v11}{i:Int}{x:v11}{o:EW}(hd:T.und t=some d)(ha:sF d=false)(hc:∀x,(c x).length=sz)(ho:bZ n l o=some (.ptr K st (off*sz+i.toNat*sz+fo)))(hv:gt X.h K=some (.vec (xs.map c).flatten e' sz st))(hx:m6 xs off m i=some x)(hu:nth (c x) fo=some u):bO T X (fr n l) (.load t o)=some (u,X):=by
 apply LR rfl;have hb:Nat.beq st st=true:=by simp[beq_eq]
 have hg:=af hc (Y2 hx).2.2;rw[Nat.add_mul]at hg;simp[qG,eY ho,cellsOf,hv,hb,zC,GX,hd,ha,zD,ZA hg hu]
def qf{v11:Type}(c:v11->V U){t e':TypeId}{s K st off m:Nat}{xs:V v11}{i:Int}{x y:v11}{o z:EW}{cs:V U}{h':V (Nat×B)}(hs:cT T t=some s)(hc:∀x,(c x).length=sz)(ho:bZ n l o=some (.ptr K st (off*sz+i.toNat*sz+fo)))(hz:bZ n l z=some v)(o9:xY v=some cs)(hk:okL cs=true)(hl:Nat.beq cs.length s=true)(hv:gt X.h K=some (.vec (xs.map c).flatten e' sz st))(hx:m6 xs off m i=some x)(hy:qB (c x) fo (rY cs)=some (c y))(E4:ug X.h K (.vec ((xs.set (off+i.toNat) y).map c).flatten e' sz st)=h'):bO T X (fr n l) (.store t o z)=some (.junk,⟨h',X.nx⟩):=by
 subst E4;have hb:Nat.beq st st=true:=by simp
 have hj:=(zG.1 (Y2 hx).2.2).1;have hg:=af hc (Y2 hx).2.2;have hp:=Z3 hg hy;rw[dw hc hj y,Nat.add_mul]at hp;exact HZ rfl rfl (by simp[oY,eY ho,eY hz,XC,hs,o9,hl,hk,zC,cellsOf,hv,hb,GS,hp,M6])
end
def sE{X:Sg}{k t e:Nat}{l:V U}(h:gt X.h k=some (.vec l e sz t)):cM X k t=true:=by simp[cM,h,B.st,beq_eq,yC]
def Kc{A v09:Type}(K:Nat)(b:B)(sz:Nat)(kU:A->U)(vU:v09->U)[p:Jx vU](es:V (A×v09×Nat)):
  (es.map (mE kU vU)).map (fun e=>{ e with val:=fz K b sz e.val })=es.map (mE kU vU):=by rw[List.map_map];refine List.map_congr_left fun e _=>?_;simp[Function.comp,mE,zf b sz _ (p.h K e.2.1)]
variable{T:Tb}
variable{t:TypeId}
variable{e:TypeId}
variable{sz:Nat}
variable{z:O}
def qwf{P:H0}(hT:kT P T){m:Nm}{s:S}(w:PL){by_ n:Nat}{ps:V (Nat×O)}{cps:V (Nat×O)}{cs:V O}
  (hps:∀m',aI s.nx m m'->ps.map (fun p=>(p.1,ren m' p.2))=cps) (hd:T.und t=some (.slice e)) (hi:T.inf e=some (sz,by_,z)) (h1:Nat.ble (n*sz) 16777216=true) (h2:z.cells.toList.length=sz) (h3:F4 (fun i=>some (i*sz,sz)) (cC z.cells.toList n) ps=some cs):
  ∃cl,n7 m s.nx cs cl/\(Instr.buildSlice t n cps.toArray).run P w=.ok (.slice (some ⟨w.heap.size,0,none⟩) n n) (w.alloc (.cells ⟨cl⟩ e)):=by
 have dU:cT T e=some sz:=by simp[cT,hi]
 have hz:=fun m'=>J4 hT m' w hi;have w9:=Gp hT hi;simp only at hz w9;have y6:n*sz<=16777216:=by simpa[Nat.ble_eq]using h1
 have mF:∀m',aI s.nx m m'->Instr.fill (fun i=>some (i*sz,sz)) ⟨cC z.cells.toList n⟩ cps=some ⟨aE m' cs⟩:=fun m' ha=>by have:=Nh m' _ ps _ _ h3;rw[hps m' ha,Oe w9]at this;exact this
 have eZ:n7 m s.nx cs (aE m cs):=fun m' ha=>by have e1:=mF m' ha;have e2:=mF m (aI.refl _ _);rw[e1]at e2;simpa using e2
 have iE:z.cells.size=sz:=by simpa using h2
 refine⟨aE m cs,eZ,?_⟩;have g9:(Array.range (n*sz)).map (fun i=>(if n*sz=0 then(#[]:H2 O)else z.cells)[i%(if n*sz=0 then(#[]:H2 O)else z.cells).size]!)=⟨cC z.cells.toList n⟩:=by
  by_cases h0:n*sz=0;rw[h0];apply Array.ext';have:(cC z.cells.toList n).length=0:=by rw[xz,h2,h0]
  simp[List.length_eq_zero_iff.1 this];simp[if_neg h0];have:=Nj z.cells n;rw[iE]at this;rw[<-this];simp[iE]
 have TY:=mF m (aI.refl _ _);have hnot:¬ n*sz>2^24:=by omega
 have P0:=(hz m).1;by_cases h0:n*sz=0;simp[if_pos h0]at g9;simp[Instr.buildSlice,zK,iK hT w hd,zJ,o8 hT w dU,Sem.run_ite,if_neg hnot,zL,if_pos h0];rw[g9,TY];simp[Go.newRow];simp[if_neg h0]at g9;simp[Instr.buildSlice,zK,iK hT w hd,zJ,o8 hT w dU,Sem.run_ite,if_neg hnot,zL,if_neg h0,P0];rw[g9,TY];simp[Go.newRow]
def DP.bslw{C:PG}(hT:kT C.prog T){X:Sg}{tm:V U}{o:Oper}{k b:Nat}{zu cs0 cs:V U}{ps:H2 (Nat×EW)}{qs:V (Nat×U)}(ho:o.op=.buildSlice t k ps)(hd:T.und t=some (.slice e))(hi:T.inf e=some (sz,b,z))
  (h:B6 tm ps.toList=some qs) (h1:Nat.ble (k*sz) 16777216=true) (h3:Nat.beq z.cells.toList.length sz=true) (hz:qC z.cells.toList=some zu) (hf:uX (fun i=>some (i*sz,sz)) (w4 zu k) qs=some cs0) (hw:rP cs0 cs) (hk:okL cs=true) (hl:Nat.beq cs.length (k*sz)=true) (hs:Nat.blt 0 sz=true):
  DP C X tm o (fun u X'=>u=.vl X.nx 0 0 k/\X'=newU X (.vec cs e sz 0)):=fun F x tv m w a next Q rK st hG hn ro kH=>by
 subst rK;have⟨vs,ev,hp⟩:=ij st.e h;have uI:=(O1 _ _ hz).2 x;have⟨rv,f1,f2⟩:=Nz hp (Gf uI k) hf;have f2:bB x cs rv:=⟨hw.rel f2.1,by rw[hw.len];exact f2.2⟩;have h2:z.cells.toList.length=sz:=by simpa[beq_eq]using h3
 have⟨cl,g1,g2⟩:=qwf hT (m:=m) (s:=x.s) w (cps:=ps.toList.map fun p=>(p.1,a.eval p.2)) (fun m' eF=>(dz (st.act m' eF) ev).symm) hd hi h1 h2 f1;have e1:(ps.map fun(i,x)=>(i,a.eval x))=(ps.toList.map fun p=>(p.1,a.eval p.2)).toArray:=by cases ps;simp
 have cR:(execOp a.eval o).run C.prog w=.ok (.value (.slice (some ⟨w.heap.size,0,none⟩) k k)) (w.alloc (.cells ⟨cl⟩ e)):=by simp[execOp,ho];rw[e1];simp[zK,g2,zJ,zL]
 have aZ:rv.length=k*sz:=by
  have h5:=f2.2;have h6:cs.length=k*sz:=by simpa[beq_eq]using hl
  rw[<-h5,h6]
 have aS:bG m x.s w (m.set x.s.nx w.heap.size 0 k) (Rx.newRow x.s rv e (sz+2)) (w.alloc (.cells ⟨cl⟩ e)):=by have:=yf st.fits (rest:=[]) g1 e k sz (by simpa using aZ);simpa using this
 have dU:0<sz:=by simpa[Nat.blt_eq]using hs
 have iZ:=jy st.h f2 hk e dU;have fU:eT (m.set x.s.nx w.heap.size 0 k) (x.s.nx+1) (.slice (some ⟨x.s.nx,0,none⟩) k bY) (.slice (some ⟨w.heap.size,0,none⟩) k k):=fun m' ha=>by have⟨q1,q2,q3⟩:=ha x.s.nx (zN _);have⟨r1,r2,r3⟩:=DU m x.s.nx w.heap.size 0 k;simp[ren,q1,q2,r1,r2,bX,bR,q3,r3]
 refine DT (by rw[ho];intro c hc;cases hc) ?_;unfold Oper.wp;rw[cR];exact hn _ ⟨mQ x.Y x.X.nx (some x.s.nx),newU x.X (.vec cs e sz 0),Rx.newRow x.s rv e (sz+2)⟩ (LQ tv o.dst (.slice (some ⟨x.s.nx,0,none⟩) k bY)) _ _ _ ⟨rfl,rfl⟩
  ⟨iZ.h,iZ.fr F st.fr,Fq (iZ.mo.ke.E st.e.bel st.e) jt _,aS.fits,(st.act.ext aS.agree aS.nx).put fU o.dst⟩ aS iZ.mo.ke iZ.mo.nx (OC _ _ _)
def DP.bslv{C:PG}(hT:kT C.prog T){X:Sg}{tm:V U}{o:Oper}{k b:Nat}{zu cs:V U}{ps:H2 (Nat×EW)}{qs:V (Nat×U)}(ho:o.op=.buildSlice t k ps)(hd:T.und t=some (.slice e))(hi:T.inf e=some (sz,b,z))
  (h:B6 tm ps.toList=some qs) (h1:Nat.ble (k*sz) 16777216=true) (h3:Nat.beq z.cells.toList.length sz=true) (hz:qC z.cells.toList=some zu) (hf:uX (fun i=>some (i*sz,sz)) (w4 zu k) qs=some cs) (hk:okL cs=true) (hl:Nat.beq cs.length (k*sz)=true) (hs:Nat.blt 0 sz=true):
  DP C X tm o (fun u X'=>u=.vl X.nx 0 0 k/\X'=newU X (.vec cs e sz 0)):=DP.bslw hT ho hd hi h h1 h3 hz hf (rP.refl _) hk hl hs
def BC(K K2 k:Nat):Nat:=cond (Nat.beq k K) K2 k
def MU(K K2:Nat):V (Nat×B)->V (Nat×B)
 |[]=>[]|(k,b)::h=>cond (Nat.beq k K) (MU K K2 h) (cond (Nat.beq k K2) ((K,b)::MU K K2 h) ((k,b)::MU K K2 h))
def co{K K2:Nat}(d5:K≠K2):∀(h:V (Nat×B))(j:Nat),gt (MU K K2 h) j=if j=K then gt h K2 else if j=K2 then none else gt h j
 |[],j=>by simp[MU,gt]
 |(k,b)::h,j=>by have ih:=co d5 h j;simp[MU,beq_eq];by_cases e1:k=K;subst e1;simp[yC,zC,ih,eN];by_cases e2:j=k;subst e2;simp[d5];simp[e2,Ne.symm e2];by_cases e2:k=K2;subst e2;simp[e1,yB,zD,yC,zC,eN,ih];by_cases e3:j=K;subst e3;simp;by_cases e4:j=k;simp[e4,e1,Ne.symm e3];intro h;exact absurd h.symm e1;simp[e3,e4,Ne.symm e3,Ne.symm e4];simp[e1,e2,yB,zD,eN,ih];by_cases e3:j=K;subst e3;simp[e1,e2];by_cases e4:j=K2;subst e4;simp[e3,e2];simp[e3,e4]
def rS(Z:Nat->Nat):V (Nat×U)->V (Nat×U)
 |[]=>[]|(i,u)::l=>(i,rU Z u)::rS Z l
def z0g(Z:Nat->Nat):∀(l:V (Nat×U))(i:Nat),o5 (rS Z l) i=(o5 l i).map (rU Z)
 |[],i=>rfl|(j,u)::l,i=>by simp[rS,o5,beq_eq,z0g Z l i];by_cases e:j=i<;>simp[e]
def z71(Z:Nat->Nat):∀(l:V U)(i:Nat),(iQ Z l)[i]? = (l[i]?).map (rU Z)
 |[],i=>by simp[iQ]
 |u::l,0=>by simp[iQ]
 |u::l,i+1=>by simp[iQ,z71 Z l i]
def zc3(Z:Nat->Nat)(n:Nat)(l:V (Nat×U)):iQ Z (fr n l)=fr n (rS Z l):=by apply List.ext_getElem?;intro k;rw[z71];by_cases hk:k<n;rw[NY n l hk,NY n _ hk,z0g];rcases o5 l k with _|w;simp[rU];rfl;rw[List.getElem?_eq_none (by simp[H5];omega),List.getElem?_eq_none (by simp[H5];omega)];rfl
def Q0(Z:Nat->Nat):V (Nat×B)->Prop
 |[]=>True|(_,b)::h=>rB Z b=b/\Q0 Z h
def eh{Z:Nat->Nat}:∀{h:V (Nat×B)},Q0 Z h->∀k b,gt h k=some b->rB Z b=b
 |[],_,k,b,hg=>by cases hg
 |(j,c)::h,ha,k,b,hg=>by rw[eN]at hg;by_cases e:j=k;rw[if_pos e]at hg;cases hg;exact ha.1;rw[if_neg e]at hg;exact eh ha.2 k b hg
def Gh.mv{n0 n:Nat}{l l':V (Nat×U)}{X:Sg}{h':V (Nat×B)}(K K2:Nat)(h0:n0<=K)(hK:Nat.blt K X.nx=true)(d5:Nat.beq K K2=false)(hl:rS (BC K K2) l'=l)(hm:MU K K2 X.h=h')(ha:Q0 (BC K K2) h')[hb:BS X.nx l']:Gh n0 (fr n l) X (fr n l') ⟨h',X.nx⟩:=fun F x tv hx hr hf he=>by
 subst hx;subst hl;subst hm;have hK':K<x.X.nx:=by simpa[Nat.blt_eq]using hK
 have Ak:K≠K2:=by simpa[beq_eq]using d5
 have key:∀k b,gt (MU K K2 x.X.h) k=some b->gt x.X.h (BC K K2 k)=some b:=fun k b hg=>by rw[co Ak]at hg;simp[BC,beq_eq];by_cases e:k=K;rw[if_pos e]at hg;simpa[e]using hg;rw[if_neg e]at hg;by_cases e2:k=K2;rw[if_pos e2]at hg;cases hg;rw[if_neg e2]at hg;simpa[e]using hg
 let y:Cx:=⟨fun k=>x.Y (BC K K2 k),⟨MU K K2 x.X.h,x.X.nx⟩,x.s⟩
 have hU:RO x.X.nx (BC K K2) x y:=⟨fun k st off v hk h=>by
   simp[aD,Ref]at h ⊢;exact⟨h.1,hk,fun b hb=>h.2.2 b (key k b hb)⟩,fun k off m c v hk h=>by
   simp[aD,Ref]at h ⊢;exact⟨h.1,hk,fun b hb=>h.2.2 b (key k b hb)⟩,fun k st off m v hk h=>by
   simp[aD]at h ⊢;exact⟨h.1,hk,fun b hb=>h.2.2 b (key k b hb)⟩,fun k v hk h=>by
   simp[aD,Ref]at h ⊢;exact⟨h.1,hk,fun b hb=>h.2.2 b (key k b hb)⟩,fun _ _ _ h=>h⟩
 have KL:∀u,bA n0 u->rU (BC K K2) u=u:=fun u PJ=>by
  have:=P' (Z:=id) (κ:=BC K K2) (n:=n0) (fun k hk=>by
   have:¬ k=K:=by omega
   simp[BC,beq_eq,this]) u PJ
  rwa [zt]at this
 refine⟨y,fun m w hf=>bG.refl hf,rfl,⟨fun k b hb=>?_,fun k k' b b' i hb cP h1 h2=>?_,hr.bd⟩,fun i b J=>?_,?_,fun u v PJ hv=>?_⟩;have hg:=key k b hb;have⟨g1,g2⟩:=hr.ok _ _ hg;have Vd:k<x.X.nx:=by
  by_cases e:k=K;omega;have e2:BC K K2 k=k:=by simp[BC,beq_eq,e]
  rw[e2]at g1;exact g1
 refine⟨Vd,oB.unleaf hU g2.belB rfl (fun _ _ _ h=>h) ?_⟩;rw[eh ha k b hb];exact g2;have e:=hr.inj _ _ b b' i (key k b hb) (key k' b' cP) h1 h2;have Am:∀k b,gt (MU K K2 x.X.h) k=some b->k≠K2:=fun k b hb h=>by subst h;rw[co Ak,if_neg (Ne.symm Ak),if_pos rfl]at hb;cases hb
 have q1:=Am k b hb;have q2:=Am k' b' cP;simp[BC,beq_eq]at e;by_cases e1:k=K;by_cases e2:k'=K;rw[e1,e2];simp[e1,e2]at e;exact absurd e.symm q2;by_cases e2:k'=K;simp[e1,e2]at e;exact absurd e q1;simpa[e1,e2]using e;have⟨h1,h2⟩:=hf i b J;exact⟨h1,fun k c hc=>h2 _ c (key k c hc)⟩;apply bB.unleaf hU (Ni hb.h);rw[zc3];exact he;exact aD.unleaf hU u v (bA.le (by omega) u PJ) (by rw[KL u PJ];exact hv)
variable{T:Tb}{X:Sg}
variable{e:TypeId}
def X8{t:TypeId}{m sz k st off:Nat}{i:Int}{kd:IntKind}(hd:T.und t=some (.array m e))(hs:cT T e=some sz)(hl:cM X k st=true)(hi:0<=i/\i<m){iL:Nat}(ho:off+i.toNat*sz=iL):HC T X t (.ptr k st off) (.int kd i)=some (.ptr k st iL):=by subst ho;simp[HC,hd,hs,hl,zC,if_pos hi]
def Ta{t:TypeId}{k st off:Nat}{op:BinOp}{u:U}(hd:T.und t=some (.pointer e))(hl:cM X k st=true)(hu:GD op=some u):Fb T X op t (.ptr k st off) .nilp=some u:=by simp[Fb,B3,hd,iG,hl,MA,hu,zC,Nat.beq,zD]
def qd{v11:Type}(c:v11->V U){n0 n:Nat}{l l':V (Nat×U)}{X X':Sg}{K:Nat}{xs:V v11}{sz st:Nat}(hc:∀x,(c x).length=sz)(hg:gt X.h K=some (.vec (xs.map c).flatten e sz st))(j:Nat)(ht:D9 l l')(hs:(⟨ug X.h K (.vec ((xs.take j).map c).flatten e sz st),X.nx⟩:Sg)=X'):Gh n0 (fr n l) X (fr n l') X' :=
 Gh.trans (Gh.truncL c hc hg j) (mX ht hs)
end Go.Vx
namespace Go.Proofs
open Go Go.Rx
def fn8:tb.fn 8=some Tryz.f8:=by kernel_rfl
def fn9:tb.fn 9=some Tryz.f9:=by kernel_rfl
def Yx:tb.fn 10=some Tryz.f10:=by kernel_rfl
def Cl:tb.fn 11=some Tryz.f11:=by kernel_rfl
def Cj:tb.fn 12=some Tryz.f12:=by kernel_rfl
def Yv:tb.fn 13=some Tryz.f13:=by kernel_rfl
def Yu:tb.fn 14=some Tryz.f14:=by kernel_rfl
def Ys:tb.fn 16=some Tryz.f16:=by kernel_rfl
def Ci:tb.fn 17=some Tryz.f17:=by kernel_rfl
def KR:tb.fn 18=some Tryz.f18:=by kernel_rfl
def G8:tb.fn 19=some Tryz.f19:=by kernel_rfl
def G7:tb.fn 20=some Tryz.f20:=by kernel_rfl
def PX:tb.fn 21=some Tryz.f21:=by kernel_rfl
def Yr:tb.fn 22=some Tryz.f22:=by kernel_rfl
def G6:tb.fn 23=some Tryz.f23:=by kernel_rfl
def AJ:tb.fn 25=some Tryz.f25:=by kernel_rfl
def Ch:tb.fn 26=some Tryz.f26:=by kernel_rfl
def D0:tb.fn 28=some Tryz.f28:=by kernel_rfl
def Yq:tb.fn 30=some Tryz.f30:=by kernel_rfl
def PW:tb.fn 31=some Tryz.f31:=by kernel_rfl
def Yp:tb.fn 32=some Tryz.f32:=by kernel_rfl
def Yo:tb.fn 33=some Tryz.f33:=by kernel_rfl
def PV:tb.fn 34=some Tryz.f34:=by kernel_rfl
def G5:tb.fn 35=some Tryz.f35:=by kernel_rfl
def PU:tb.fn 36=some Tryz.f36:=by kernel_rfl
def Yn:tb.fn 37=some Tryz.f37:=by kernel_rfl
def Ym:tb.fn 38=some Tryz.f38:=by kernel_rfl
def Yl:tb.fn 39=some Tryz.f39:=by kernel_rfl
def Yk:tb.fn 40=some Tryz.f40:=by kernel_rfl
def Yj:tb.fn 41=some Tryz.f41:=by kernel_rfl
def Cg:tb.fn 43=some Tryz.f43:=by kernel_rfl
def Cf:tb.fn 44=some Tryz.f44:=by kernel_rfl
def PT:tb.fn 45=some Tryz.f45:=by kernel_rfl
def Yi:tb.fn 46=some Tryz.f46:=by kernel_rfl
def Yh:tb.fn 47=some Tryz.f47:=by kernel_rfl
def PS:tb.fn 48=some Tryz.f48:=by kernel_rfl
def Yg:tb.fn 50=some Tryz.f50:=by kernel_rfl
def Yf:tb.fn 51=some Tryz.f51:=by kernel_rfl
def Ye:tb.fn 52=some Tryz.f52:=by kernel_rfl
def Ce:tb.fn 56=some Tryz.f56:=by kernel_rfl
def Yd:tb.fn 58=some Tryz.f58:=by kernel_rfl
def Yc:tb.fn 59=some Tryz.f59:=by kernel_rfl
def KQ:tb.fn 60=some Tryz.f60:=by kernel_rfl
def Yb:tb.fn 61=some Tryz.f61:=by kernel_rfl
def Ya:tb.fn 62=some Tryz.f62:=by kernel_rfl
def oS:tb.fn 63=some Tryz.f63:=by kernel_rfl
def Xz:tb.fn 64=some Tryz.f64:=by kernel_rfl
def PR:tb.fn 65=some Tryz.f65:=by kernel_rfl
def Xy:tb.fn 66=some Tryz.f66:=by kernel_rfl
def Xx:tb.fn 67=some Tryz.f67:=by kernel_rfl
def Cd:tb.fn 68=some Tryz.f68:=by kernel_rfl
def Xw:tb.fn 69=some Tryz.f69:=by kernel_rfl
def v04:tb.fn 70=some Tryz.f70:=by kernel_rfl
def Xu:tb.fn 71=some Tryz.f71:=by kernel_rfl
def Xt:tb.fn 72=some Tryz.f72:=by kernel_rfl
def Xs:tb.fn 73=some Tryz.f73:=by kernel_rfl
def Xr:tb.fn 74=some Tryz.f74:=by kernel_rfl
def Xq:tb.fn 75=some Tryz.f75:=by kernel_rfl
def Cc:tb.fn 76=some Tryz.f76:=by kernel_rfl
def Xp:tb.fn 77=some Tryz.f77:=by kernel_rfl
def Cb:tb.fn 80=some Tryz.f80:=by kernel_rfl
def Xo:tb.fn 81=some Tryz.f81:=by kernel_rfl
def Ca:tb.fn 85=some Tryz.f85:=by kernel_rfl
def Bz:tb.fn 86=some Tryz.f86:=by kernel_rfl
def By:tb.fn 87=some Tryz.f87:=by kernel_rfl
def fn88:tb.fn 88=some Tryz.f88:=by kernel_rfl
def Bx:tb.fn 89=some Tryz.f89:=by kernel_rfl
def PQ:tb.fn 90=some Tryz.f90:=by kernel_rfl
def Bw:tb.fn 91=some Tryz.f91:=by kernel_rfl
def Xn:tb.fn 92=some Tryz.f92:=by kernel_rfl
def Xm:tb.fn 93=some Tryz.f93:=by kernel_rfl
def Bv:tb.fn 94=some Tryz.f94:=by kernel_rfl
def Xl:tb.fn 95=some Tryz.f95:=by kernel_rfl
def Xk:tb.fn 96=some Tryz.f96:=by kernel_rfl
def Xj:tb.fn 97=some Tryz.f97:=by kernel_rfl
def Xi:tb.fn 98=some Tryz.f98:=by kernel_rfl
def KP:tb.fn 99=some Tryz.f99:=by kernel_rfl
def L6:tb.fn 100=some Tryz.f100:=by kernel_rfl
def EK:tb.fn 101=some Tryz.f101:=by kernel_rfl
def V6:tb.fn 102=some Tryz.f102:=by kernel_rfl
def V5:tb.fn 103=some Tryz.f103:=by kernel_rfl
def V4:tb.fn 104=some Tryz.f104:=by kernel_rfl
def V3:tb.fn 105=some Tryz.f105:=by kernel_rfl
def L5:tb.fn 106=some Tryz.f106:=by kernel_rfl
def V2:tb.fn 107=some Tryz.f107:=by kernel_rfl
def L4:tb.fn 108=some Tryz.f108:=by kernel_rfl
def V1:tb.fn 111=some Tryz.f111:=by kernel_rfl
def V0:tb.fn 112=some Tryz.f112:=by kernel_rfl
def UZ:tb.fn 113=some Tryz.f113:=by kernel_rfl
def Yw:tb.fn 114=some Tryz.f114:=by kernel_rfl
def UY:tb.fn 115=some Tryz.f115:=by kernel_rfl
def UX:tb.fn 116=some Tryz.f116:=by kernel_rfl
def u7:tb.fn 117=some Tryz.f117:=by kernel_rfl
def L3:tb.fn 118=some Tryz.f118:=by kernel_rfl
def EJ:tb.fn 119=some Tryz.f119:=by kernel_rfl
def AK:tb.fn 120=some Tryz.f120:=by kernel_rfl
def EI:tb.fn 121=some Tryz.f121:=by kernel_rfl
def UW:tb.fn 122=some Tryz.f122:=by kernel_rfl
def UV:tb.fn 123=some Tryz.f123:=by kernel_rfl
def UU:tb.fn 124=some Tryz.f124:=by kernel_rfl
def UT:tb.fn 125=some Tryz.f125:=by kernel_rfl
def US:tb.fn 126=some Tryz.f126:=by kernel_rfl
def nG:tb.fn 127=some Tryz.f127:=by kernel_rfl
def UR:tb.fn 128=some Tryz.f128:=by kernel_rfl
def UQ:tb.fn 129=some Tryz.f129:=by kernel_rfl
def UP:tb.fn 130=some Tryz.f130:=by kernel_rfl
def L2:tb.fn 131=some Tryz.f131:=by kernel_rfl
def L1:tb.fn 132=some Tryz.f132:=by kernel_rfl
def KZ:tb.fn 133=some Tryz.f133:=by kernel_rfl
def EH:tb.fn 134=some Tryz.f134:=by kernel_rfl
def UO:tb.fn 135=some Tryz.f135:=by kernel_rfl
def KY:tb.fn 136=some Tryz.f136:=by kernel_rfl
def KX:tb.fn 137=some Tryz.f137:=by kernel_rfl
def UN:tb.fn 138=some Tryz.f138:=by kernel_rfl
def UM:tb.fn 140=some Tryz.f140:=by kernel_rfl
def UL:tb.fn 141=some Tryz.f141:=by kernel_rfl
def UK:tb.fn 142=some Tryz.f142:=by kernel_rfl
def Yt:tb.fn 143=some Tryz.f143:=by kernel_rfl
def KW:tb.fn 144=some Tryz.f144:=by kernel_rfl
def UJ:tb.fn 145=some Tryz.f145:=by kernel_rfl
def KV:tb.fn 146=some Tryz.f146:=by kernel_rfl
def UI:tb.fn 147=some Tryz.f147:=by kernel_rfl
def u6:tb.fn 148=some Tryz.f148:=by kernel_rfl
def UH:tb.fn 149=some Tryz.f149:=by kernel_rfl
def UG:tb.fn 150=some Tryz.f150:=by kernel_rfl
def UF:tb.fn 151=some Tryz.f151:=by kernel_rfl
def UE:tb.fn 152=some Tryz.f152:=by kernel_rfl
def UD:tb.fn 153=some Tryz.f153:=by kernel_rfl
def UC:tb.fn 155=some Tryz.f155:=by kernel_rfl
def KU:tb.fn 165=some Tryz.f165:=by kernel_rfl
def KT:tb.fn 171=some Tryz.f171:=by kernel_rfl
def UB:tb.fn 172=some Tryz.f172:=by kernel_rfl
def UA:tb.fn 174=some Tryz.f174:=by kernel_rfl
def KS:tb.fn 175=some Tryz.f175:=by kernel_rfl
end Go.Proofs
