import Derived.DefersIn
import Derived.Test.YtldlchbgolpkaaaGreatP11
set_option linter.all false
namespace Go.Vx
open Go Go.Rx
section
variable{P:Program}{T:Tb}(hT:lF P T)
include hT
theorem z75{m:Nm}{n:Nat}{tm:List Value}{a:Act}(ha:xR m n tm a)(o:Oper){c:Call}(ho:o.op=.defer c)(w:World){f:FuncId}{args:List Value}(h:callOf T tm (.call c)=some (f,args)):
  ∃fv cap dargs bH,(execOp a.eval o).run P w=.ok (.defer { target:=.fn fv cap,args:=dargs }) w/\(∀w',(invoke (.fn fv cap) dargs).run P w'=.ok (.enter f bH.toArray) w')/\nQ m n args bH:=by
 obtain⟨dst,op,type,pos,after,guard⟩:=o;simp only at ho;subst ho;unfold callOf at h;obtain⟨callee,a7,ats⟩:=c;simp only at h;cases callee with
 |value g=>
  simp only at h;rcases hg:evalO tm g with _|u;simp[hg]at h;cases u with
  |func fn first cap=>
   cases fn with
   |func k=>
    simp only[hg]at h;rcases hk:T.fn k with _|fn;simp[hk]at h;simp only[hk]at h;rcases hb:fn.body.isSome with _|_;simp[hb]at h;simp only[hb,zC]at h;rcases hl:kM tm a7.toList with _|vs;simp[hl]at h;simp only[hl,zA,zB]at h;obtain⟨rfl,rfl⟩:=h;obtain⟨M?,K8⟩:=hT.fn k fn hk;obtain⟨first⟩:=first
    obtain⟨cap⟩:=cap;have e0:=kW (ha m (aM.refl _ _)) hg;have e1:=uC (ha m (aM.refl _ _)) hl;have r?:fn.body.isNone=false:=by cases hbb:fn.body<;>simp_all
    refine⟨.func k,(aJ m cap).toArray,(aJ m first++aJ m vs).toArray,aJ m first++aJ m vs++aJ m cap,?_,fun w'=>?_,fun m' dJ=>?_⟩;simp only[aI,iE]at e0;simp only[execOp,zK,resolve,e0,e1,Deferred.ofValue,zL,zJ];simp;simp only[invoke,callFunc,zK,run_program,zJ,M?,K8 hb,r?,Bool.false_eq_true,if_false];simp;have QR:=kW (ha m' dJ) hg;have QQ:=uC (ha m' dJ) hl;rw[e0]at QR;rw[e1]at QQ;simp_all[aI,yS]
   |_=>simp[hg]at h
  |_=>simp[hg]at h
 |_=>simp at h
abbrev Ep(T:Tb)(rs:List ResultVar)(n0:Nat)(R:U->Sg->Prop)(tm:List U)(X:Sg):Prop :=
 ∃l,oK T X tm rs=some l/\∃u' bZ,n0<=bZ.nx/\Gh n0 [oZ l] X [u'] bZ/\R u' bZ
def R5(F:Nat->lK->Prop)(R:U->Sg->Prop)(x:Cx)(m:Nm)(w:World):Ending->World->Prop:=fun e w₁=>
 ∃y aH u v cv,e=.returned cv/\R u y.X/\bP m x.s w aH y.s w₁/\eZ aH y.s.nx v cv/\kF y/\Fr F y/\aD y u v/\Ke x.X.nx x y/\x.X.nx<=y.X.nx
theorem z98{fn:Func}{R:U->Sg->Prop}{F:Nat->lK->Prop}{x y:Cx}{tm:List U}{tv:List Value}{m m':Nm}{w w':World}{a:Act}(st:St F y tm tv m' w' a)(aT:bP m x.s w m' y.s w')(eI:Ke x.X.nx x y)(h:Ep T fn.results.toList x.X.nx R tm y.X):
  ∃v,(results fn a.tmps).run P w'=.ok v w'/\R5 F R x m w (.returned v) w':=by
 obtain⟨l,pJ,u',bZ,jM,Wd,hR⟩:=h;obtain⟨ls,K1,B5⟩:=Oc st.h st.e pJ;have cW:∀m'',aM y.s.nx m' m''->(results fn a.tmps).run P w'=.ok (aI m'' (xN ls)) w':=fun m'' lR=>by rw[st.act m'' lR];exact nq hT (st.fits m'' lR) K1
 have gU:eZ m' y.s.nx (xN ls) (aI m' (xN ls)):=fun m'' lR=>by have e1:=cW m'' lR;rw[cW m' (aM.refl _ _)]at e1;simp at e1;exact e1.symm
 obtain⟨z,z1,z2,z3,z4,z5,z6⟩:=Wd F y [xN ls] rfl st.h st.fr (bF.cons (z4l B5) (bF.nil y));obtain⟨v0,Lo,e0,z7,_⟩:=z5.inv;cases e0;have d8:=z1 m' w' st.fits;exact⟨_,cW m' (aM.refl _ _),z,m',u',xN ls,_,rfl,z2 ▸ hR,aT.trans d8,gU.ext (aM.refl _ _) d8.nx,z3,z4,z7,eI.trans z6,by rw[z2];exact jM⟩
omit hT in
def B9(P:Program)(T:Tb)(fn:Func)(n0:Nat)(R:U->Sg->Prop)(c:Code)(tm:List U)(X:Sg):Prop :=
 ∀F x0 m0 w0 x tv m w a,x0.X.nx=n0->n0<=X.nx->x.X=X->St F x tm tv m w a->bP m0 x0.s w0 m x.s w->Ke n0 x0 x->a.defers=[]->c.wpIn (oM none) 0 P (bodyPostDIn (oM none) 0 P fn (R5 F R x0 m0 w0)) a w
theorem bE.of_bodyD{f:FuncId}{fn:Func}{c:Code}{args:List U}{X:Sg}{R:U->Sg->Prop}(hf:T.fn f=some fn)(hb:fn.body=some c)
  (h:B9 P T fn X.nx R c (D5 fn.ntmps args) X):bE P f args X R:=fun F x vs m w bH hx hh m7 he fN dB=>by
 obtain⟨A4,_⟩:=hT.fn f fn hf;have eR:bH.length=vs.length:=by rw[<-dB.at];simp
 refine(callsIn_wide (n:=0)).1 (callsIn_of_wp_defers (F:=oM none) A4 hb trivial ?_);have nL:xR m x.s.nx (pad fn.ntmps vs) { tmps:=bH.toArray++Array.replicate (fn.ntmps-bH.toArray.size) undef,defers:=[] }:=fun m' dJ=>by simp only[ed,yS,dB m' dJ,eR,List.size_toArray];apply Array.ext';simp[mR,aI,undef]
 exact h F x m w x _ m w _ (by rw[hx]) (zF _) hx ⟨hh,m7,Of _ he,fN,nL⟩ (bP.refl fN) (Ke.refl _ _) rfl
variable{fn:Func}{n0:Nat}{R:U->Sg->Prop}{tm:List U}{X:Sg}
omit hT in
theorem B9.ghost{c:Code}{tm':List U}{X':Sg}(h:Gh n0 tm X tm' X')(z0:n0<=X'.nx)(hw:B9 P T fn n0 R c tm' X'):B9 P T fn n0 R c tm X:=fun F x0 m0 w0 x tv m w a wQ hn hx st aT eI hd=>by
 obtain⟨y,h1,h2,h3,h4,h5,h6⟩:=h F x tv hx st.h st.fr st.e;have jB:=h1 m w st.fits;exact hw F x0 m0 w0 y tv m w a wQ z0 h2 ⟨h3,h4,h5,jB.fits,st.act.ext jB.agree jB.nx⟩ (aT.trans jB) (eI.trans h6) hd
theorem B9.seq{p q:Code}(h:WPU (PG.of P) n0 p tm X (ET (fun tm' X'=>B9 P T fn n0 R q tm' X') (fun e tm' X'=>e=.ret/\Ep T fn.results.toList n0 R tm' X'))):B9 P T fn n0 R (.seq p q) tm X:=fun F x0 m0 w0 x tv m w a wQ hn hx st aT eI hd=>by
 refine wpIn_seq (wpIn_mono (h hn F x tv m w a 0 hx st ⟨Nat.zero_le _,trivial⟩ ⟨fun _=>rfl,fun h=>by cases h⟩ none trivial) ?_);rintro e a' w' ⟨y,tm',cX,m',hq,cR,bO,d7,z0,iW⟩;have fD:a'.defers=[]:=(iW.eq rfl).trans hd;cases e with
 |normal=>exact hq F x0 m0 w0 y cX m' w' a' wQ z0 rfl cR (aT.trans bO) (eI.trans d7) fD|ret=>obtain⟨_,Bx⟩:=hq;subst wQ;show LeavesIn _ _ _ _ _ _ a'.defers _ _;rw[fD];exact z98 hT (fn:=fn) cR (aT.trans bO) (eI.trans d7) Bx
 |exit id=>cases hq.1|goto l=>cases hq.1
 |panic ch=>cases hq.1|outgrown=>cases hq.1
abbrev W2(P:Program)(T:Tb)(rs:List ResultVar)(n0:Nat)(R:U->Sg->Prop)(g:FuncId)(QS:List U)(tm:List U)(X:Sg):Prop :=
 ∃fd cd,T.fn g=some fd/\fd.body=some cd/\WPU (PG.of P) X.nx cd (D5 fd.ntmps QS) X (fun e tm' X'=>(e=.normal\/e=.ret)/\(∃l,oK T X' tm' fd.results.toList=some l)/\Ep T rs n0 R tm X')
theorem B9.clos{c:Code}{g:FuncId}{QS:List U}(hd0:n0<=X.nx)(h:WPU (PG.of P) X.nx c tm X (fun e tm' X'=>(e=.normal\/e=.ret)/\W2 P T fn.results.toList n0 R g QS tm' X')):
  ∀F x0 m0 w0 x tv m w a fv cap dargs bH vs,x0.X.nx=n0->x.X=X->St F x tm tv m w a->bP m0 x0.s w0 m x.s w->Ke n0 x0 x->a.defers=[{ target:=.fn fv cap,args:=dargs }]->(∀w',(invoke (.fn fv cap) dargs).run P w'=.ok (.enter g bH.toArray) w')->bF x QS vs->nQ m x.s.nx vs bH->
   c.wpIn (oM none) 0 P (bodyPostDIn (oM none) 0 P fn (R5 F R x0 m0 w0)) a w:=fun F x0 m0 w0 x tv m w a fv cap dargs bH vs wQ hx st aT eI hd Bu hdu KF=>by
 refine wpIn_mono (h (zF _) F x tv m w a 0 hx st ⟨Nat.zero_le _,trivial⟩ ⟨fun _=>rfl,fun h=>by cases h⟩ none trivial) ?_;rintro e a' w' ⟨y,tm',cX,m',⟨A5,fd,cd,Bw,B7,Ws⟩,cR,bO,d7,z0,iW⟩;have fD:a'.defers=[{ target:=.fn fv cap,args:=dargs }]:=(iW.eq rfl).trans hd;subst hx;have T?:bF y QS vs:=d7.E hdu.bel hdu;have U?:nQ m' y.s.nx vs bH:=fun m'' lR=>KF m'' ((bO.agree).trans lR bO.nx);obtain⟨gj,_⟩:=hT.fn g fd Bw;have eR:bH.length=vs.length:=by rw[<-KF.at];simp
 have nL:xR m' y.s.nx (pad fd.ntmps vs) { tmps:=bH.toArray++Array.replicate (fd.ntmps-bH.toArray.size) undef,defers:=[] }:=fun m'' lR=>by simp only[ed,yS,U? m'' lR,eR,List.size_toArray];apply Array.ext';simp[mR,aI,undef]
 have key:LeavesIn (oM none) 0 P fn a'.tmps (R5 F R x0 m0 w0) a'.defers .returning w':=by
  rw[fD];refine leavesIn_cons (by simp) (fun h=>by simp[oM,Fence.wide]at h) (Bu w') (fun _ _=>trivial) ?_;refine(callsDIn_of_wp (R:=fun e w''=>∃v,e=.returned v/\∃v',(results fn a'.tmps).run P w''=.ok v' w''/\R5 F R x0 m0 w0 (.returned v') w'') gj B7 trivial ?_).mono ?_;refine wpIn_mono (Ws (zF _) F y _ m' w' _ 0 rfl ⟨cR.h,cR.fr,Of _ T?,cR.fits,nL⟩ ⟨Nat.zero_le _,trivial⟩ ⟨fun _=>rfl,fun h=>by cases h⟩ none trivial) ?_;rintro e1 a1 w1 ⟨z,XF,tv1,m1,⟨Q?,⟨l1,G3⟩,Bx⟩,NX,jB,Vv,UF,W?⟩;have Wn:a1.defers=[]:=W?.eq rfl;obtain⟨ls1,Vj,_⟩:=Oc NX.h NX.e G3;have Vh:(results fd a1.tmps).run P w1=.ok (aI m1 (xN ls1)) w1:=by rw[NX.act m1 (aM.refl _ _)];exact nq hT (NX.fits m1 (aM.refl _ _)) Vj
  subst wQ;have bY:St F z tm' cX m1 w1 a':=⟨NX.h,NX.fr,Vv.E cR.e.bel cR.e,NX.fits,cR.act.ext jB.agree jB.nx⟩;have hk:=z98 hT (fn:=fn) bY ((aT.trans bO).trans jB) ((eI.trans (d7.le hd0)).trans (Vv.le (Nat.le_trans hd0 z0))) Bx;have hp:bodyPost P fd (fun e w''=>∃v,e=.returned v/\∃v',(results fn a'.tmps).run P w''=.ok v' w''/\R5 F R x0 m0 w0 (.returned v') w'') .ret a1 w1:=⟨Wn,_,Vh,_,rfl,hk⟩;rcases Q? with rfl |rfl;exact hp;exact hp;rintro e1 u1 w1 ⟨rfl,v,rfl,hk⟩;exact hk
 rcases A5 with rfl |rfl;exact key;exact key
omit hT in
theorem XU{C:PG}(hT:lF C.prog T)(a9:Array Oper)(E:Exit->Act->World->Prop)(L:List Nat)(tail:List Oper){F:Nat->lK->Prop}{x0:Cx}{m0:Nm}{w0:World}{df:List Deferred}(K:List U->Sg->Prop)(CH:VZ C n0 x0 m0 w0)(A4:i4 m0 x0.s w0)(ro:Option Nat)(kH:C.ro ro):
  ∀(rest:List Oper)(i:Nat),a9.toList.drop i=rest++tail->∀(x:Cx)(tm:List U)(tv:List Value)(m:Nm)(w:World)(a:Act),St F x tm tv m w a->a.defers=df->bP m0 x0.s w0 m x.s w->Ke n0 x0 x->n0<=x.X.nx->RU C T a9.toList rest tm x.X K->
   (∀y tm' cX m' w' a',K tm' y.X->St F y tm' cX m' w' a'->bP m0 x0.s w0 m' y.s w'->Ke n0 x0 y->n0<=y.X.nx->a'.defers=df->wpOpsIn (oM ro) 0 C.prog a9 E L a' w')->wpOpsIn (oM ro) 0 C.prog a9 E (List.range' i rest.length++L) a w
 |[],i,_,x,tm,tv,m,w,a,st,hd,aT,eI,hn,h,hQ=>by simp only[zS,List.range'_zero,List.nil_append];exact hQ x tm tv m w a h st aT eI hn hd
 |o::rest,i,HK,x,tm,tv,m,w,a,st,hd,aT,eI,hn,h,hQ=>by
  have ho:a9[i]? = some o:=by have:=congrArg (fun l=>l[0]?) HK;simpa using this
  have bG:a9.toList.drop (i+1)=rest++tail:=by have:=congrArg List.tail HK;simpa using this
  simp only[zO,List.range'_succ,List.cons_append,wpOpsIn,ho,Pg (st.act m (aM.refl _ _)) a9 o];simp only[RU]at h;rcases h with⟨hw,u,X',h1,h2⟩|⟨hw,f,args,R,h1,h2,h3⟩|⟨hw,h1⟩|⟨hw,t,xo,yo,ty,e,b,l,h1,h2,h3,h4,h5⟩|⟨hw,R,h1,h2⟩;rw[vT st.e hw];simp only[if_true];refine AT (O8 h1) (st.op hT o h1 fun y cX aH w₁ bC e1 cR bO d7 jM iW=>?_);exact XU hT a9 E L tail K CH A4 ro kH rest (i+1) bG y _ cX aH w₁ bC cR (iW.trans hd) (aT.trans bO) (eI.trans (d7.le hn)) (by omega) (e1 ▸ h2) hQ;rw[vT st.e hw];simp only[if_true];refine AT (Pc h1) (st.call hT o h1 h2 fun y u cX aH w₁ bC hR cR bO d7 jM iW=>?_);exact XU hT a9 E L tail K CH A4 ro kH rest (i+1) bG y _ cX aH w₁ bC cR (iW.trans hd) (aT.trans bO) (eI.trans (d7.le hn)) (by omega) (h3 u y.X hR) hQ;rw[vT st.e hw];simp only[Bool.false_eq_true,if_false];exact⟨fun _ _=>trivial,XU hT a9 E L tail K CH A4 ro kH rest (i+1) bG x _ _ m w _ (st.skip o.dst) ((OZ _ _ _).trans hd) aT eI hn h1 hQ⟩;rw[vT st.e hw];simp only[if_true];refine AT (by rw[h1];intro c hc;cases hc) (st.nilq hT o h1 h2 h3 h4 fun z y cX aH w₁ bC hz e1 cR bO d7 jM iW=>?_);exact XU hT a9 E L tail K CH A4 ro kH rest (i+1) bG y _ cX aH w₁ bC cR (iW.trans hd) (aT.trans bO) (eI.trans (d7.le hn)) (by omega) (e1 ▸ h5 z hz) hQ;rw[vT st.e hw];simp only[if_true];refine h1 F x tv m w a _ _ rfl st ⟨Nat.le_trans CH.nb hn,(CH.adv A4 aT eI).g⟩ (fun u y cX aH w₁ bC hR cR bO d7 jM iW=>?_) ro kH;exact XU hT a9 E L tail K CH A4 ro kH rest (i+1) bG y _ cX aH w₁ bC cR (iW.trans hd) (aT.trans bO) (eI.trans (d7.le hn)) (by omega) (h2 u y.X hR) hQ
theorem B9.dfr{id:Nat}{a9:Array Oper}{q:Code}(k:Nat){o:Oper}{c:Call}(hk:a9.toList[k]? = some o)(ho:o.op=.defer c)(hg:o.guard=none)(hds:o.dst=none)
  (h:RU (PG.of P) T a9.toList (a9.toList.take k) tm X (fun XF X1=>∃g QS,k8 T XF (.call c)=some (g,QS)/\RU (PG.of P) T a9.toList (a9.toList.drop (k+1)) XF X1 (fun tz R0=>X1=R0/\WPU (PG.of P) R0.nx q tz R0 (fun e tm' X'=>(e=.normal\/e=.ret)/\W2 P T fn.results.toList n0 R g QS tm' X')))):
  B9 P T fn n0 R (.seq (.region id a9 false) q) tm X:=fun F x0 m0 w0 x tv m w a wQ hn hx st aT eI hd=>by
 subst hx;obtain⟨x?,hko⟩:=zG.1 hk;have FZ:a9.toList=a9.toList.take k++o::a9.toList.drop (k+1):=by rw[<-hko,<-List.drop_eq_getElem_cons x?,List.take_append_drop]
 generalize a9.toList.take k=pre at h FZ;generalize a9.toList.drop (k+1)=post at h FZ;refine wpIn_seq (wpIn_region ?_);rw[List.range_eq_range'];have dR:a9.size=pre.length+(post.length+1):=by have:=congrArg List.length FZ;simpa using this
 have hrg:List.range' 0 a9.size=List.range' 0 pre.length++(pre.length::List.range' (pre.length+1) post.length):=by rw[dR,<-List.range'_append_1 (s:=0),Nat.zero_add,List.range'_succ]
 rw[hrg];refine XU (C:=PG.of P) (n0:=n0) hT a9 _ _ (o::post) (F:=F) (x0:=x) (m0:=m) (w0:=w) (df:=a.defers) _ ⟨Nat.zero_le _,trivial⟩ st.fits none trivial pre 0 (by simpa using FZ) x tm tv m w a st rfl (bP.refl st.fits) (Ke.refl _ _) hn h ?_;rintro y tm' cX m' w' a' ⟨g,QS,A9,DJ⟩ cR bO d7 z0 fD;have hoi:a9[pre.length]? = some o:=by
  have:a9.toList[pre.length]? = some o:=by rw[FZ];simp
  simpa using this
 have Vd:Region.wanted o (yielded a9 a'.tmps)=true:=by simp[Region.wanted,hg]
 simp only[wpOpsIn,hoi,Vd,if_true];obtain⟨vs,h1,h2⟩:=qxt cR.e A9;obtain⟨fv,cap,dargs,bH,e1,e2,e3⟩:=z75 hT cR.act o ho w' h1;refine⟨fun _ _=>trivial,?_⟩;have e4:(o.semAt (oM none).round a'.eval)=execOp a'.eval o:=Oper.semAt_none _ _;rw[e4,e1];rw[Oper.uponIn_defer];rw[hds];have NX:St F y tm' cX m' w' (({ a' with defers:=({ target:=.fn fv cap,args:=dargs }:Deferred)::a'.defers }:Act).put none undef):=
  ⟨cR.h,cR.fr,cR.e,cR.fits,fun m'' lR=>cR.act m'' lR⟩
 have key:=XU (C:=PG.of P) (n0:=y.X.nx) hT a9 (Exit.then (Code.wpIn (oM none) 0 P q (bodyPostDIn (oM none) 0 P fn (R5 F R x0 m0 w0))) (bodyPostDIn (oM none) 0 P fn (R5 F R x0 m0 w0))) [] [] (F:=F) (x0:=y) (m0:=m') (w0:=w') (df:={ target:=.fn fv cap,args:=dargs }::a'.defers) _ ⟨Nat.zero_le _,trivial⟩ cR.fits none trivial post (pre.length+1) (by rw[FZ];simp) y _ _ m' w' _ NX (OZ _ _ _) (bP.refl cR.fits) (Ke.refl _ _) (zF _) DJ ?_;rw[List.append_nil]at key;exact key;rintro z tz tv2 m2 w2 a2 ⟨DB,hw⟩ RR d8 KB Bn V?;simp only[wpOpsIn];refine B9.clos hT (tm:=tz) (X:=z.X) (fn:=fn) (n0:=n0) (R:=R) (by rw[<-DB];exact z0) hw F x0 m0 w0 z tv2 m2 w2 a2 fv cap dargs bH vs wQ rfl RR ((aT.trans bO).trans d8) ((eI.trans d7).trans (KB.le z0)) (by rw[V?,fD,hd]) e2 (KB.E h2.bel h2) (fun m'' lR=>e3 m'' (d8.agree.trans lR d8.nx))
end
variable{q:List U}
variable{p:List U}
variable{a:Nat}
theorem qzb{n:Nat}(h:kS q a n=some p):a+n<=q.length/\(q.drop a).take n=p:=by
 unfold kS at h;split at h;rename_i hj;exact⟨hj,Option.some.inj h⟩;cases h
variable{sz:Nat}
variable{fo:Nat}
theorem ZX{u:U}(h:kS q a sz=some p)(h2:nth p fo=some u):nth q (a+fo)=some u:=by
 obtain⟨h1,rfl⟩:=qzb h;rw[iZ]at h2 ⊢;have hl:=(zG.1 h2).1;rw[List.length_take]at hl;rw[List.getElem?_take_of_lt (by omega),List.getElem?_drop]at h2;exact h2
theorem ZO{p' cs:List U}(h:kS q a sz=some p)(h2:pU p fo cs=some p'):pU q (a+fo) cs=pU q a p':=by
 obtain⟨h1,rfl⟩:=qzb h;unfold pU at h2;split at h2
 ·rename_i hj;have hp:=Option.some.inj h2;rw[List.length_take,List.length_drop]at hj;have hl:p'.length=sz:=by rw[<-hp];simp;omega
  unfold pU;rw[if_pos (by omega),if_pos (by omega),<-hp];congr 1;have e1:List.take fo (List.take sz (List.drop a q))=List.take fo (List.drop a q):=by rw[List.take_take,Nat.min_eq_left (by omega)]
  have e2:List.take (a+fo) q=List.take a q++List.take fo (List.drop a q):=List.take_add;have e3:List.drop (a+fo+cs.length) q=List.drop (fo+cs.length) (List.take sz (List.drop a q))++List.drop (a+sz) q:=by
   have:List.drop a q=List.take sz (List.drop a q)++List.drop (a+sz) q:=by rw[<-List.drop_drop,List.take_append_drop]
   rw[Nat.add_assoc,<-List.drop_drop]
   conv=>lhs;rw[this]
   rw[List.drop_append_of_le_length (by rw[List.length_take,List.length_drop];omega)]
  rw[e1,e2,e3];simp[zT,hl];omega
 cases h2
section
variable{T:Tb}{X X':Sg}{n:Nat}{l:List (Nat×U)}{u v w:U}
theorem wL{O:Type}(c:O->List U){t e':TypeId}{d:TypeDesc}{K st off m:Nat}{xs:List O}{i:Int}{x:O}{o:Operand}(hd:T.und t=some d)(ha:rP d=false)(hc:∀x,(c x).length=sz)(ho:c7 n l o=some (.ptr K st (off*sz+i.toNat*sz+fo)))(hv:gt X.h K=some (.vec (xs.map c).flatten e' sz st))(hx:mK xs off m i=some x)(hu:nth (c x) fo=some u):bM T X (fr n l) (.load t o)=some (u,X):=by
 refine NI rfl ?_;have hb:Nat.beq st st=true:=by simp[beq_eq]
 have hg:=aw hc (YI hx).2.2;rw[Nat.add_mul]at hg;simp only[nC,fF ho,cellsOf,hv,hb,zC,GY,hd,ha,zD,ZX hg hu]
theorem bz{O:Type}(c:O->List U){t e':TypeId}{s K st off m:Nat}{xs:List O}{i:Int}{x y:O}{o z:Operand}{cs:List U}{h':List (Nat×B)}(hs:cN T t=some s)(hc:∀x,(c x).length=sz)(ho:c7 n l o=some (.ptr K st (off*sz+i.toNat*sz+fo)))(hz:c7 n l z=some v)(uI:xT v=some cs)(hk:okL cs=true)(hl:Nat.beq cs.length s=true)(hv:gt X.h K=some (.vec (xs.map c).flatten e' sz st))(hx:mK xs off m i=some x)(hy:pU (c x) fo (rN cs)=some (c y))(DB:ug X.h K (.vec ((xs.set (off+i.toNat) y).map c).flatten e' sz st)=h'):bM T X (fr n l) (.store t o z)=some (.junk,⟨h',X.nx⟩):=by
 subst DB;have hb:Nat.beq st st=true:=by simp
 have hj:=(zG.1 (YI hx).2.2).1;have hg:=aw hc (YI hx).2.2;have hp:=ZO hg hy;rw[fh hc hj y,Nat.add_mul]at hp;exact HY rfl rfl (by simp only[nO,fF ho,fF hz,XS,hs,uI,hl,hk,zC,cellsOf,hv,hb,GU,hp,M2])
end
theorem uB{X:Sg}{k t e:Nat}{l:List U}(h:gt X.h k=some (.vec l e sz t)):bU X k t=true:=by
 simp only[bU,h,B.st,beq_eq,yC]
theorem UW{A V:Type}(K:Nat)(b:B)(sz:Nat)(kU:A->U)(vU:V->U)[p:Kz vU](es:List (A×V×Nat)):
  (es.map (mE kU vU)).map (fun e=>{ e with val:=fz K b sz e.val })=es.map (mE kU vU):=by
 rw[List.map_map];refine List.map_congr_left fun e _=>?_;simp only[Function.comp,mE,wg b sz _ (p.h K e.2.1)]
variable{T:Tb}
variable{t:TypeId}
variable{e:TypeId}
variable{sz:Nat}
variable{z:Value}
theorem qv0{P:Program}(hT:lF P T){m:Nm}{s:S}(w:World){by_ n:Nat}{ps:List (Nat×Value)}{cps:List (Nat×Value)}{cs:List Value}
  (Kg:∀m',aM s.nx m m'->ps.map (fun p=>(p.1,aI m' p.2))=cps) (hd:T.und t=some (.slice e)) (hi:T.inf e=some (sz,by_,z)) (h1:Nat.ble (n*sz) 16777216=true) (h2:z.cells.toList.length=sz)
  (h3:EX (fun i=>some (i*sz,sz)) (cC z.cells.toList n) ps=some cs):
  ∃cl,nQ m s.nx cs cl/\(Instr.buildSlice t n cps.toArray).run P w=.ok (.slice (some ⟨w.heap.size,0,none⟩) n n) (w.alloc (.cells ⟨cl⟩ e)):=by
 have dR:cN T e=some sz:=by simp[cN,hi]
 have hz:=fun m'=>J6 hT m' w hi;have vX:=He hT hi;simp only at hz vX;have y5:n*sz<=16777216:=by simpa[Nat.ble_eq]using h1
 have lT:∀m',aM s.nx m m'->Instr.fill (fun i=>some (i*sz,sz)) ⟨cC z.cells.toList n⟩ cps=some ⟨aJ m' cs⟩:=fun m' ha=>by have:=Oi m' _ ps _ _ h3;rw[Kg m' ha,Pf vX]at this;exact this
 have eR:nQ m s.nx cs (aJ m cs):=fun m' ha=>by have e1:=lT m' ha;have e2:=lT m (aM.refl _ _);rw[e1]at e2;simpa using e2
 have i9:z.cells.size=sz:=by simpa using h2
 refine⟨aJ m cs,eR,?_⟩;have fU:(Array.range (n*sz)).map (fun i=>(if n*sz=0 then(#[]:Array Value)else z.cells)[i%(if n*sz=0 then(#[]:Array Value)else z.cells).size]!)=⟨cC z.cells.toList n⟩:=by
  by_cases h0:n*sz=0;rw[h0];apply Array.ext';have:(cC z.cells.toList n).length=0:=by rw[xx,h2,h0]
  simp[List.length_eq_zero_iff.1 this];simp only[if_neg h0];have:=Ok z.cells n;rw[i9]at this;rw[<-this];simp[i9]
 have UM:=lT m (aM.refl _ _);have hnot:¬ n*sz>2^24:=by omega
 have PX:=(hz m).1;by_cases h0:n*sz=0;simp only[if_pos h0]at fU;simp only[Instr.buildSlice,zK,iG hT w hd,zJ,nU hT w dR,Sem.run_ite,if_neg hnot,zL,if_pos h0];rw[fU,UM];simp[Go.newRow];simp only[if_neg h0]at fU;simp only[Instr.buildSlice,zK,iG hT w hd,zJ,nU hT w dR,Sem.run_ite,if_neg hnot,zL,if_neg h0,PX];rw[fU,UM];simp[Go.newRow]
theorem IX.bslw{C:PG}(hT:lF C.prog T){X:Sg}{tm:List U}{o:Oper}{k b:Nat}{zu cs0 cs:List U}{ps:Array (Nat×Operand)}{qs:List (Nat×U)}(ho:o.op=.buildSlice t k ps)(hd:T.und t=some (.slice e))(hi:T.inf e=some (sz,b,z))
  (h:AS tm ps.toList=some qs) (h1:Nat.ble (k*sz) 16777216=true) (h3:Nat.beq z.cells.toList.length sz=true) (hz:pV z.cells.toList=some zu) (hf:uT (fun i=>some (i*sz,sz)) (vO zu k) qs=some cs0) (hw:rG cs0 cs) (hk:okL cs=true) (hl:Nat.beq cs.length (k*sz)=true) (hs:Nat.blt 0 sz=true):
  IX C X tm o (fun u X'=>u=.vl X.nx 0 0 k/\X'=newU X (.vec cs e sz 0)):=fun F x tv m w a next Q uZ st hG hn ro kH=>by
 subst uZ;obtain⟨vs,ev,hp⟩:=na st.e h;have uG:=(OI _ _ hz).2 x;obtain⟨rv,f1,f2⟩:=Pa hp (Gw uG k) hf;have f2:bF x cs rv:=⟨hw.rel f2.1,by rw[hw.len];exact f2.2⟩;have h2:z.cells.toList.length=sz:=by simpa[beq_eq]using h3
 obtain⟨cl,g1,g2⟩:=qv0 hT (m:=m) (s:=x.s) w (cps:=ps.toList.map fun p=>(p.1,a.eval p.2)) (fun m' dJ=>(fm (st.act m' dJ) ev).symm) hd hi h1 h2 f1;have e1:(ps.map fun(i,x)=>(i,a.eval x))=(ps.toList.map fun p=>(p.1,a.eval p.2)).toArray:=by cases ps;simp
 have cW:(execOp a.eval o).run C.prog w=.ok (.value (.slice (some ⟨w.heap.size,0,none⟩) k k)) (w.alloc (.cells ⟨cl⟩ e)):=by simp only[execOp,ho];rw[e1];simp only[zK,g2,zJ,zL]
 have b7:rv.length=k*sz:=by
  have h5:=f2.2;have h6:cs.length=k*sz:=by simpa[beq_eq]using hl
  rw[<-h5,h6]
 have aT:bP m x.s w (m.set x.s.nx w.heap.size 0 k) (Rx.newRow x.s rv e (sz+2)) (w.alloc (.cells ⟨cl⟩ e)):=by have:=vh st.fits (rest:=[]) g1 e k sz (by simpa using b7);simpa using this
 have dR:0<sz:=by simpa[Nat.blt_eq]using hs
 have kI:=jq st.h f2 hk e dR;have gU:eZ (m.set x.s.nx w.heap.size 0 k) (x.s.nx+1) (.slice (some ⟨x.s.nx,0,none⟩) k bX) (.slice (some ⟨w.heap.size,0,none⟩) k k):=fun m' ha=>by obtain⟨q1,q2,q3⟩:=ha x.s.nx (zN _);obtain⟨r1,r2,r3⟩:=D9 m x.s.nx w.heap.size 0 k;simp[aI,q1,q2,r1,r2,bW,bQ,q3,r3]
 refine AT (by rw[ho];intro c hc;cases hc) ?_;unfold Oper.wp;rw[cW];exact hn _ ⟨mA x.Y x.X.nx (some x.s.nx),newU x.X (.vec cs e sz 0),Rx.newRow x.s rv e (sz+2)⟩ (NH tv o.dst (.slice (some ⟨x.s.nx,0,none⟩) k bX)) _ _ _ ⟨rfl,rfl⟩
  ⟨kI.h,kI.fr F st.fr,Oe (kI.mo.ke.E st.e.bel st.e) jk _,aT.fits,(st.act.ext aT.agree aT.nx).put gU o.dst⟩ aT kI.mo.ke kI.mo.nx (OZ _ _ _)
theorem IX.bslv{C:PG}(hT:lF C.prog T){X:Sg}{tm:List U}{o:Oper}{k b:Nat}{zu cs:List U}{ps:Array (Nat×Operand)}{qs:List (Nat×U)}(ho:o.op=.buildSlice t k ps)(hd:T.und t=some (.slice e))(hi:T.inf e=some (sz,b,z))
  (h:AS tm ps.toList=some qs) (h1:Nat.ble (k*sz) 16777216=true) (h3:Nat.beq z.cells.toList.length sz=true) (hz:pV z.cells.toList=some zu) (hf:uT (fun i=>some (i*sz,sz)) (vO zu k) qs=some cs) (hk:okL cs=true) (hl:Nat.beq cs.length (k*sz)=true) (hs:Nat.blt 0 sz=true):
  IX C X tm o (fun u X'=>u=.vl X.nx 0 0 k/\X'=newU X (.vec cs e sz 0)):=IX.bslw hT ho hd hi h h1 h3 hz hf (rG.refl _) hk hl hs
def AY(K K2 k:Nat):Nat:=cond (Nat.beq k K) K2 k
def MZ(K K2:Nat):List (Nat×B)->List (Nat×B)
 |[]=>[]|(k,b)::h=>cond (Nat.beq k K) (MZ K K2 h) (cond (Nat.beq k K2) ((K,b)::MZ K K2 h) ((k,b)::MZ K K2 h))
theorem er{K K2:Nat}(cZ:K≠K2):∀(h:List (Nat×B))(j:Nat),gt (MZ K K2 h) j=if j=K then gt h K2 else if j=K2 then none else gt h j
 |[],j=>by simp[MZ,gt]
 |(k,b)::h,j=>by have ih:=er cZ h j;simp only[MZ,beq_eq];by_cases e1:k=K;subst e1;simp only[yC,zC,ih,dY];by_cases e2:j=k;subst e2;simp[cZ];simp[e2,Ne.symm e2];by_cases e2:k=K2;subst e2;simp only[e1,yB,zD,yC,zC,dY,ih];by_cases e3:j=K;subst e3;simp;by_cases e4:j=k;simp[e4,e1,Ne.symm e3];intro h;exact absurd h.symm e1;simp[e3,e4,Ne.symm e3,Ne.symm e4];simp only[e1,e2,yB,zD,dY,ih];by_cases e3:j=K;subst e3;simp[e1,e2];by_cases e4:j=K2;subst e4;simp[e3,e2];simp[e3,e4]
def rS(Z:Nat->Nat):List (Nat×U)->List (Nat×U)
 |[]=>[]|(i,u)::l=>(i,rU Z u)::rS Z l
theorem qyh(Z:Nat->Nat):∀(l:List (Nat×U))(i:Nat),nS (rS Z l) i=(nS l i).map (rU Z)
 |[],i=>rfl|(j,u)::l,i=>by simp only[rS,nS,beq_eq,qyh Z l i];by_cases e:j=i<;>simp[e]
theorem z4z(Z:Nat->Nat):∀(l:List U)(i:Nat),(j7 Z l)[i]? = (l[i]?).map (rU Z)
 |[],i=>by simp[j7]
 |u::l,0=>by simp[j7]
 |u::l,i+1=>by simp[j7,z4z Z l i]
theorem XL(Z:Nat->Nat)(n:Nat)(l:List (Nat×U)):j7 Z (fr n l)=fr n (rS Z l):=by
 apply List.ext_getElem?;intro k;rw[z4z];by_cases hk:k<n;rw[OG n l hk,OG n _ hk,qyh];rcases nS l k with _|w;simp[rU];rfl;rw[List.getElem?_eq_none (by simp[H6];omega),List.getElem?_eq_none (by simp[H6];omega)];rfl
def Zx(Z:Nat->Nat):List (Nat×B)->Prop
 |[]=>True|(_,b)::h=>rB Z b=b/\Zx Z h
theorem z8x{Z:Nat->Nat}:∀{h:List (Nat×B)},Zx Z h->∀k b,gt h k=some b->rB Z b=b
 |[],_,k,b,hg=>by cases hg
 |(j,c)::h,ha,k,b,hg=>by rw[dY]at hg;by_cases e:j=k;rw[if_pos e]at hg;cases hg;exact ha.1;rw[if_neg e]at hg;exact z8x ha.2 k b hg
theorem Gh.mv{n0 n:Nat}{l l':List (Nat×U)}{X:Sg}{h':List (Nat×B)}(K K2:Nat)(h0:n0<=K)(hK:Nat.blt K X.nx=true)(cZ:Nat.beq K K2=false)(hl:rS (AY K K2) l'=l)(hm:MZ K K2 X.h=h')(ha:Zx (AY K K2) h')[hb:BS X.nx l']:Gh n0 (fr n l) X (fr n l') ⟨h',X.nx⟩:=fun F x tv hx hr hf he=>by
 subst hx;subst hl;subst hm;have hK':K<x.X.nx:=by simpa[Nat.blt_eq]using hK
 have Bm:K≠K2:=by simpa[beq_eq]using cZ
 have key:∀k b,gt (MZ K K2 x.X.h) k=some b->gt x.X.h (AY K K2 k)=some b:=fun k b hg=>by rw[er Bm]at hg;simp only[AY,beq_eq];by_cases e:k=K;rw[if_pos e]at hg;simpa[e]using hg;rw[if_neg e]at hg;by_cases e2:k=K2;rw[if_pos e2]at hg;cases hg;rw[if_neg e2]at hg;simpa[e]using hg
 let y:Cx:=⟨fun k=>x.Y (AY K K2 k),⟨MZ K K2 x.X.h,x.X.nx⟩,x.s⟩
 have hU:Y4 x.X.nx (AY K K2) x y:=⟨fun k st off v hk h=>by
   simp only[aD,Ref]at h ⊢;exact⟨h.1,hk,fun b hb=>h.2.2 b (key k b hb)⟩,fun k off m c v hk h=>by
   simp only[aD,Ref]at h ⊢;exact⟨h.1,hk,fun b hb=>h.2.2 b (key k b hb)⟩,fun k st off m v hk h=>by
   simp only[aD]at h ⊢;exact⟨h.1,hk,fun b hb=>h.2.2 b (key k b hb)⟩,fun k v hk h=>by
   simp only[aD,Ref]at h ⊢;exact⟨h.1,hk,fun b hb=>h.2.2 b (key k b hb)⟩,fun _ _ _ h=>h⟩
 have Wx:∀u,bB n0 u->rU (AY K K2) u=u:=fun u gu=>by
  have:=z51 (Z:=id) (κ:=AY K K2) (n:=n0) (fun k hk=>by
   have:¬ k=K:=by omega
   simp[AY,beq_eq,this]) u gu
  rwa [G']at this
 refine⟨y,fun m w hf=>bP.refl hf,rfl,⟨fun k b hb=>?_,fun k k' b b' i hb cU h1 h2=>?_,hr.bd⟩,fun i b J=>?_,?_,fun u v gu hv=>?_⟩;have hg:=key k b hb;obtain⟨g1,g2⟩:=hr.ok _ _ hg;have x?:k<x.X.nx:=by
  by_cases e:k=K;omega;have e2:AY K K2 k=k:=by simp[AY,beq_eq,e]
  rw[e2]at g1;exact g1
 refine⟨x?,oE.unleaf hU g2.belB rfl (fun _ _ _ h=>h) ?_⟩;rw[z8x ha k b hb];exact g2;have e:=hr.inj _ _ b b' i (key k b hb) (key k' b' cU) h1 h2;have Bn:∀k b,gt (MZ K K2 x.X.h) k=some b->k≠K2:=fun k b hb h=>by subst h;rw[er Bm,if_neg (Ne.symm Bm),if_pos rfl]at hb;cases hb
 have q1:=Bn k b hb;have q2:=Bn k' b' cU;simp only[AY,beq_eq]at e;by_cases e1:k=K;by_cases e2:k'=K;rw[e1,e2];simp[e1,e2]at e;exact absurd e.symm q2;by_cases e2:k'=K;simp[e1,e2]at e;exact absurd e q1;simpa[e1,e2]using e;obtain⟨h1,h2⟩:=hf i b J;exact⟨h1,fun k c hc=>h2 _ c (key k c hc)⟩;refine bF.unleaf hU (xg hb.h) ?_;rw[XL];exact he;exact aD.unleaf hU u v (bB.le (by omega) u gu) (by rw[Wx u gu];exact hv)
variable{T:Tb}{X:Sg}
variable{e:TypeId}
theorem XP{t:TypeId}{m sz k st off:Nat}{i:Int}{kd:IntKind}(hd:T.und t=some (.array m e))(hs:cN T e=some sz)(hl:bU X k st=true)(hi:0<=i/\i<m){iH:Nat}(ho:off+i.toNat*sz=iH):BN T X t (.ptr k st off) (.int kd i)=some (.ptr k st iH):=by
 subst ho;simp only[BN,hd,hs,hl,zC,if_pos hi]
theorem Tz{t:TypeId}{k st off:Nat}{op:BinOp}{u:U}(hd:T.und t=some (.pointer e))(hl:bU X k st=true)(hu:W7 op=some u):OA T X op t (.ptr k st off) .nilp=some u:=by
 simp only[OA,u9,hd,eK,hl,F5,hu,zC,Nat.beq,zD]
theorem qm{O:Type}(c:O->List U){n0 n:Nat}{l l':List (Nat×U)}{X X':Sg}{K:Nat}{xs:List O}{sz st:Nat}(hc:∀x,(c x).length=sz)(hg:gt X.h K=some (.vec (xs.map c).flatten e sz st))(j:Nat)(ht:HX l l')(hs:(⟨ug X.h K (.vec ((xs.take j).map c).flatten e sz st),X.nx⟩:Sg)=X'):Gh n0 (fr n l) X (fr n l') X' :=
 Gh.trans (Gh.truncL c hc hg j) (oF ht hs)
end Go.Vx
namespace Go.Proofs
open Go Go.Rx
theorem Tryz.hb3:Tryz.f3.body.isSome=true:=rfl
theorem fn4:Tryz.tb.fn 4=some Tryz.f4:=by kernel_rfl
theorem Tryz.hb4:Tryz.f4.body.isSome=true:=rfl
theorem fn9:Tryz.tb.fn 9=some Tryz.f9:=by kernel_rfl
theorem Dg:Tryz.tb.fn 10=some Tryz.f10:=by kernel_rfl
theorem Df:Tryz.tb.fn 11=some Tryz.f11:=by kernel_rfl
theorem De:Tryz.tb.fn 12=some Tryz.f12:=by kernel_rfl
theorem Tryz.hb12:Tryz.f12.body.isSome=true:=rfl
theorem Zg:Tryz.tb.fn 13=some Tryz.f13:=by kernel_rfl
theorem Tryz.hb13:Tryz.f13.body.isSome=true:=rfl
theorem Zf:Tryz.tb.fn 14=some Tryz.f14:=by kernel_rfl
theorem Tryz.hb14:Tryz.f14.body.isSome=true:=rfl
theorem Ze:Tryz.tb.fn 16=some Tryz.f16:=by kernel_rfl
theorem Tryz.hb16:Tryz.f16.body.isSome=true:=rfl
theorem Dd:Tryz.tb.fn 17=some Tryz.f17:=by kernel_rfl
theorem Tryz.hb17:Tryz.f17.body.isSome=true:=rfl
theorem CO:Tryz.tb.fn 18=some Tryz.f18:=by kernel_rfl
theorem Tryz.hb18:Tryz.f18.body.isSome=true:=rfl
theorem GA:Tryz.tb.fn 19=some Tryz.f19:=by kernel_rfl
theorem Tryz.hb19:Tryz.f19.body.isSome=true:=rfl
theorem CN:Tryz.tb.fn 20=some Tryz.f20:=by kernel_rfl
theorem Tryz.hb20:Tryz.f20.body.isSome=true:=rfl
theorem G9:Tryz.tb.fn 21=some Tryz.f21:=by kernel_rfl
theorem Tryz.hb21:Tryz.f21.body.isSome=true:=rfl
theorem Zd:Tryz.tb.fn 22=some Tryz.f22:=by kernel_rfl
theorem Dc:Tryz.tb.fn 23=some Tryz.f23:=by kernel_rfl
theorem Tryz.hb23:Tryz.f23.body.isSome=true:=rfl
theorem CM:Tryz.tb.fn 25=some Tryz.f25:=by kernel_rfl
theorem Zc:Tryz.tb.fn 26=some Tryz.f26:=by kernel_rfl
theorem CL:Tryz.tb.fn 28=some Tryz.f28:=by kernel_rfl
theorem Tryz.hb28:Tryz.f28.body.isSome=true:=rfl
theorem QO:Tryz.tb.fn 31=some Tryz.f31:=by kernel_rfl
theorem Zb:Tryz.tb.fn 32=some Tryz.f32:=by kernel_rfl
theorem Za:Tryz.tb.fn 33=some Tryz.f33:=by kernel_rfl
theorem QM:Tryz.tb.fn 34=some Tryz.f34:=by kernel_rfl
theorem G8:Tryz.tb.fn 35=some Tryz.f35:=by kernel_rfl
theorem QL:Tryz.tb.fn 36=some Tryz.f36:=by kernel_rfl
theorem Yz:Tryz.tb.fn 37=some Tryz.f37:=by kernel_rfl
theorem Yy:Tryz.tb.fn 38=some Tryz.f38:=by kernel_rfl
theorem Yx:Tryz.tb.fn 39=some Tryz.f39:=by kernel_rfl
theorem Yw:Tryz.tb.fn 40=some Tryz.f40:=by kernel_rfl
theorem Yv:Tryz.tb.fn 41=some Tryz.f41:=by kernel_rfl
theorem Db:Tryz.tb.fn 43=some Tryz.f43:=by kernel_rfl
theorem Tryz.hb43:Tryz.f43.body.isSome=true:=rfl
theorem Da:Tryz.tb.fn 44=some Tryz.f44:=by kernel_rfl
theorem Tryz.hb44:Tryz.f44.body.isSome=true:=rfl
theorem QK:Tryz.tb.fn 45=some Tryz.f45:=by kernel_rfl
theorem Tryz.hb45:Tryz.f45.body.isSome=true:=rfl
theorem Yu:Tryz.tb.fn 46=some Tryz.f46:=by kernel_rfl
theorem Yt:Tryz.tb.fn 47=some Tryz.f47:=by kernel_rfl
theorem QJ:Tryz.tb.fn 48=some Tryz.f48:=by kernel_rfl
theorem Tryz.hb48:Tryz.f48.body.isSome=true:=rfl
theorem Ys:Tryz.tb.fn 50=some Tryz.f50:=by kernel_rfl
theorem Yr:Tryz.tb.fn 51=some Tryz.f51:=by kernel_rfl
theorem Yq:Tryz.tb.fn 52=some Tryz.f52:=by kernel_rfl
theorem Cz:Tryz.tb.fn 56=some Tryz.f56:=by kernel_rfl
theorem Tryz.hb56:Tryz.f56.body.isSome=true:=rfl
theorem Yp:Tryz.tb.fn 59=some Tryz.f59:=by kernel_rfl
theorem KR:Tryz.tb.fn 60=some Tryz.f60:=by kernel_rfl
theorem Yo:Tryz.tb.fn 61=some Tryz.f61:=by kernel_rfl
theorem Yn:Tryz.tb.fn 62=some Tryz.f62:=by kernel_rfl
theorem oC:Tryz.tb.fn 63=some Tryz.f63:=by kernel_rfl
theorem Ym:Tryz.tb.fn 64=some Tryz.f64:=by kernel_rfl
theorem QH:Tryz.tb.fn 65=some Tryz.f65:=by kernel_rfl
theorem Yl:Tryz.tb.fn 66=some Tryz.f66:=by kernel_rfl
theorem Yk:Tryz.tb.fn 67=some Tryz.f67:=by kernel_rfl
theorem Cy:Tryz.tb.fn 68=some Tryz.f68:=by kernel_rfl
theorem Yj:Tryz.tb.fn 69=some Tryz.f69:=by kernel_rfl
theorem Yi:Tryz.tb.fn 70=some Tryz.f70:=by kernel_rfl
theorem Yh:Tryz.tb.fn 71=some Tryz.f71:=by kernel_rfl
theorem Yg:Tryz.tb.fn 72=some Tryz.f72:=by kernel_rfl
theorem Tryz.hb72:Tryz.f72.body.isSome=true:=rfl
theorem Yf:Tryz.tb.fn 73=some Tryz.f73:=by kernel_rfl
theorem Ye:Tryz.tb.fn 74=some Tryz.f74:=by kernel_rfl
theorem Tryz.hb74:Tryz.f74.body.isSome=true:=rfl
theorem Yd:Tryz.tb.fn 75=some Tryz.f75:=by kernel_rfl
theorem Cw:Tryz.tb.fn 76=some Tryz.f76:=by kernel_rfl
theorem Yc:Tryz.tb.fn 77=some Tryz.f77:=by kernel_rfl
theorem Tryz.hb77:Tryz.f77.body.isSome=true:=rfl
theorem Cv:Tryz.tb.fn 80=some Tryz.f80:=by kernel_rfl
theorem Yb:Tryz.tb.fn 81=some Tryz.f81:=by kernel_rfl
theorem Cu:Tryz.tb.fn 89=some Tryz.f89:=by kernel_rfl
theorem QF:Tryz.tb.fn 90=some Tryz.f90:=by kernel_rfl
theorem Ct:Tryz.tb.fn 91=some Tryz.f91:=by kernel_rfl
theorem Ya:Tryz.tb.fn 92=some Tryz.f92:=by kernel_rfl
theorem Xz:Tryz.tb.fn 93=some Tryz.f93:=by kernel_rfl
theorem Cs:Tryz.tb.fn 94=some Tryz.f94:=by kernel_rfl
theorem Xy:Tryz.tb.fn 95=some Tryz.f95:=by kernel_rfl
theorem Xx:Tryz.tb.fn 96=some Tryz.f96:=by kernel_rfl
theorem Xw:Tryz.tb.fn 97=some Tryz.f97:=by kernel_rfl
theorem v05:Tryz.tb.fn 98=some Tryz.f98:=by kernel_rfl
theorem KQ:Tryz.tb.fn 99=some Tryz.f99:=by kernel_rfl
theorem L5:Tryz.tb.fn 100=some Tryz.f100:=by kernel_rfl
theorem DY:Tryz.tb.fn 101=some Tryz.f101:=by kernel_rfl
theorem VN:Tryz.tb.fn 102=some Tryz.f102:=by kernel_rfl
theorem Tryz.hb102:Tryz.f102.body.isSome=true:=rfl
theorem VM:Tryz.tb.fn 103=some Tryz.f103:=by kernel_rfl
theorem VL:Tryz.tb.fn 104=some Tryz.f104:=by kernel_rfl
theorem VK:Tryz.tb.fn 105=some Tryz.f105:=by kernel_rfl
theorem L4:Tryz.tb.fn 106=some Tryz.f106:=by kernel_rfl
theorem VJ:Tryz.tb.fn 107=some Tryz.f107:=by kernel_rfl
theorem L3:Tryz.tb.fn 108=some Tryz.f108:=by kernel_rfl
theorem VI:Tryz.tb.fn 111=some Tryz.f111:=by kernel_rfl
theorem VH:Tryz.tb.fn 116=some Tryz.f116:=by kernel_rfl
theorem tQ:Tryz.tb.fn 117=some Tryz.f117:=by kernel_rfl
theorem L2:Tryz.tb.fn 118=some Tryz.f118:=by kernel_rfl
theorem DX:Tryz.tb.fn 119=some Tryz.f119:=by kernel_rfl
theorem AC:Tryz.tb.fn 120=some Tryz.f120:=by kernel_rfl
theorem DW:Tryz.tb.fn 121=some Tryz.f121:=by kernel_rfl
theorem VG:Tryz.tb.fn 122=some Tryz.f122:=by kernel_rfl
theorem VF:Tryz.tb.fn 123=some Tryz.f123:=by kernel_rfl
theorem VE:Tryz.tb.fn 124=some Tryz.f124:=by kernel_rfl
theorem VD:Tryz.tb.fn 125=some Tryz.f125:=by kernel_rfl
theorem VC:Tryz.tb.fn 126=some Tryz.f126:=by kernel_rfl
theorem mX:Tryz.tb.fn 127=some Tryz.f127:=by kernel_rfl
theorem Tryz.hb127:Tryz.f127.body.isSome=true:=rfl
theorem VB:Tryz.tb.fn 128=some Tryz.f128:=by kernel_rfl
theorem VA:Tryz.tb.fn 129=some Tryz.f129:=by kernel_rfl
theorem V9:Tryz.tb.fn 130=some Tryz.f130:=by kernel_rfl
theorem L1:Tryz.tb.fn 131=some Tryz.f131:=by kernel_rfl
theorem KZ:Tryz.tb.fn 132=some Tryz.f132:=by kernel_rfl
theorem KY:Tryz.tb.fn 133=some Tryz.f133:=by kernel_rfl
theorem DV:Tryz.tb.fn 134=some Tryz.f134:=by kernel_rfl
theorem V8:Tryz.tb.fn 135=some Tryz.f135:=by kernel_rfl
theorem KX:Tryz.tb.fn 136=some Tryz.f136:=by kernel_rfl
theorem Tryz.hb136:Tryz.f136.body.isSome=true:=rfl
theorem KW:Tryz.tb.fn 137=some Tryz.f137:=by kernel_rfl
theorem Tryz.hb137:Tryz.f137.body.isSome=true:=rfl
theorem V7:Tryz.tb.fn 138=some Tryz.f138:=by kernel_rfl
theorem V6:Tryz.tb.fn 140=some Tryz.f140:=by kernel_rfl
theorem V5:Tryz.tb.fn 145=some Tryz.f145:=by kernel_rfl
theorem KV:Tryz.tb.fn 146=some Tryz.f146:=by kernel_rfl
theorem V4:Tryz.tb.fn 147=some Tryz.f147:=by kernel_rfl
theorem tP:Tryz.tb.fn 148=some Tryz.f148:=by kernel_rfl
theorem V3:Tryz.tb.fn 149=some Tryz.f149:=by kernel_rfl
theorem V2:Tryz.tb.fn 150=some Tryz.f150:=by kernel_rfl
theorem V1:Tryz.tb.fn 151=some Tryz.f151:=by kernel_rfl
theorem V0:Tryz.tb.fn 152=some Tryz.f152:=by kernel_rfl
theorem UZ:Tryz.tb.fn 153=some Tryz.f153:=by kernel_rfl
theorem KU:Tryz.tb.fn 165=some Tryz.f165:=by kernel_rfl
theorem KT:Tryz.tb.fn 171=some Tryz.f171:=by kernel_rfl
theorem UY:Tryz.tb.fn 172=some Tryz.f172:=by kernel_rfl
theorem UX:Tryz.tb.fn 174=some Tryz.f174:=by kernel_rfl
theorem KS:Tryz.tb.fn 175=some Tryz.f175:=by kernel_rfl
end Go.Proofs
