import Derived.DefersIn
import Derived.Test.YtldlchbgolpkaaaGreatP11
set_option linter.all false
namespace Go.Vx
open Go Go.Rx
section
variable{P:Program}{T:Tb}(hT:kS P T)
include hT
theorem z3c{m:Nm}{n:Nat}{tm:List Value}{a:Act}(ha:vF m n tm a)(o:Oper){c:Call}(ho:o.op=.defer c)(w:World){f:FuncId}{args:List Value}(h:callOf T tm (.call c)=some (f,args)):
  ∃fv cap dargs bH,(execOp a.eval o).run P w=.ok (.defer { target:=.fn fv cap,args:=dargs }) w/\(∀w',(invoke (.fn fv cap) dargs).run P w'=.ok (.enter f bH.toArray) w')/\mW m n args bH:=by
 obtain⟨dst,op,type,pos,after,guard⟩:=o;simp only at ho;subst ho;unfold callOf at h;obtain⟨callee,a7,ats⟩:=c;simp only at h;cases callee with
 |value g=>
  simp only at h;rcases hg:evalO tm g with _|u;simp[hg]at h;cases u with
  |func fn first cap=>
   cases fn with
   |func k=>
    simp only[hg]at h;rcases hk:T.fn k with _|fn;simp[hk]at h;simp only[hk]at h;rcases hb:fn.body.isSome with _|_;simp[hb]at h;simp only[hb,zC]at h;rcases hl:jK tm a7.toList with _|vs;simp[hl]at h;simp only[hl,zA,zB]at h;obtain⟨rfl,rfl⟩:=h;obtain⟨jn,H9⟩:=hT.fn k fn hk;obtain⟨first⟩:=first
    obtain⟨cap⟩:=cap;have e0:=k7 (ha m (aK.refl _ _)) hg;have e1:=sC (ha m (aK.refl _ _)) hl;have ak:fn.body.isNone=false:=by cases hbb:fn.body<;>simp_all
    refine⟨.func k,(aI m cap).toArray,(aI m first++aI m vs).toArray,aI m first++aI m vs++aI m cap,?_,fun w'=>?_,fun m' eG=>?_⟩;simp only[aH,gP]at e0;simp only[execOp,zK,resolve,e0,e1,Deferred.ofValue,zL,zJ];simp;simp only[invoke,callFunc,zK,run_program,zJ,jn,H9 hb,ak,Bool.false_eq_true,if_false];simp;have NU:=k7 (ha m' eG) hg;have NT:=sC (ha m' eG) hl;rw[e0]at NU;rw[e1]at NT;simp_all[aH,wG]
   |_=>simp[hg]at h
  |_=>simp[hg]at h
 |_=>simp at h
abbrev As(T:Tb)(rs:List ResultVar)(n0:Nat)(R:U->Sg->Prop)(tm:List U)(O:Sg):Prop :=
 ∃l,nM T O tm rs=some l/\∃u' bT,n0<=bT.nx/\Gh n0 [pG l] O [u'] bT/\R u' bT
def O8(F:Nat->lB->Prop)(R:U->Sg->Prop)(x:Cx)(m:Nm)(w:World):Ending->World->Prop:=fun e w₁=>
 ∃y aJ u v cv,e=.returned cv/\R u y.O/\bP m x.s w aJ y.s w₁/\eN aJ y.s.nx v cv/\jZ y/\Fr F y/\aD y u v/\Ke x.O.nx x y/\x.O.nx<=y.O.nx
theorem C_{fn:Func}{R:U->Sg->Prop}{F:Nat->lB->Prop}{x y:Cx}{tm:List U}{tv:List Value}{m m':Nm}{w w':World}{a:Act}(st:St F y tm tv m' w' a)(aR:bP m x.s w m' y.s w')(eS:Ke x.O.nx x y)(h:As T fn.results.toList x.O.nx R tm y.O):
  ∃v,(results fn a.tmps).run P w'=.ok v w'/\O8 F R x m w (.returned v) w':=by
 obtain⟨l,kD,u',bT,m8,Qy,hR⟩:=h;obtain⟨ls,H2,Fj⟩:=Ji st.h st.e kD;have cR:∀m'',aK y.s.nx m' m''->(results fn a.tmps).run P w'=.ok (aH m'' (vD ls)) w':=fun m'' kY=>by rw[st.act m'' kY];exact pz hT (st.fits m'' kY) H2
 have fX:eN m' y.s.nx (vD ls) (aH m' (vD ls)):=fun m'' kY=>by have e1:=cR m'' kY;rw[cR m' (aK.refl _ _)]at e1;simp at e1;exact e1.symm
 obtain⟨z,z1,z2,z3,z4,z5,z6⟩:=Qy F y [vD ls] rfl st.h st.fr (bB.cons (p? Fj) (bB.nil y));obtain⟨v0,Gj,e0,z7,_⟩:=z5.inv;cases e0;have dA:=z1 m' w' st.fits;exact⟨_,cR m' (aK.refl _ _),z,m',u',vD ls,_,rfl,z2 ▸ hR,aR.trans dA,fX.ext (aK.refl _ _) dA.nx,z3,z4,z7,eS.trans z6,by rw[z2];exact m8⟩
omit hT in
def yF(P:Program)(T:Tb)(fn:Func)(n0:Nat)(R:U->Sg->Prop)(c:Code)(tm:List U)(O:Sg):Prop :=
 ∀F x0 m0 w0 x tv m w a,x0.O.nx=n0->n0<=O.nx->x.O=O->St F x tm tv m w a->bP m0 x0.s w0 m x.s w->Ke n0 x0 x->a.defers=[]->c.wpIn (oN none) 0 P (bodyPostDIn (oN none) 0 P fn (O8 F R x0 m0 w0)) a w
theorem bA.of_bodyD{f:FuncId}{fn:Func}{c:Code}{args:List U}{O:Sg}{R:U->Sg->Prop}(hf:T.fn f=some fn)(hb:fn.body=some c)
  (h:yF P T fn O.nx R c (AO fn.ntmps args) O):bA P f args O R:=fun F x vs m w bH hx hh m9 he fH d9=>by
 obtain⟨wQ,_⟩:=hT.fn f fn hf;have fF:bH.length=vs.length:=by rw[<-d9.at];simp
 refine(callsIn_wide (n:=0)).1 (callsIn_of_wp_defers (F:=oN none) wQ hb trivial ?_);have HM:vF m x.s.nx (pad fn.ntmps vs) { tmps:=bH.toArray++Array.replicate (fn.ntmps-bH.toArray.size) undef,defers:=[] }:=fun m' eG=>by simp only[vz,wG,d9 m' eG,fF,List.size_toArray];apply Array.ext';simp[m4,aH,undef]
 exact h F x m w x _ m w _ (by rw[hx]) (zF _) hx ⟨hh,m9,Jl _ he,fH,HM⟩ (bP.refl fH) (Ke.refl _ _) rfl
variable{fn:Func}{n0:Nat}{R:U->Sg->Prop}{tm:List U}{O:Sg}
omit hT in
theorem yF.ghost{c:Code}{tm':List U}{O':Sg}(h:Gh n0 tm O tm' O')(uR:n0<=O'.nx)(hw:yF P T fn n0 R c tm' O'):yF P T fn n0 R c tm O:=fun F x0 m0 w0 x tv m w a sY hn hx st aR eS hd=>by
 obtain⟨y,h1,h2,h3,h4,h5,h6⟩:=h F x tv hx st.h st.fr st.e;have iK:=h1 m w st.fits;exact hw F x0 m0 w0 y tv m w a sY uR h2 ⟨h3,h4,h5,iK.fits,st.act.ext iK.agree iK.nx⟩ (aR.trans iK) (eS.trans h6) hd
theorem yF.seq{p q:Code}(h:WPU (PG.of P) n0 p tm O (CG (fun tm' O'=>yF P T fn n0 R q tm' O') (fun e tm' O'=>e=.ret/\As T fn.results.toList n0 R tm' O'))):yF P T fn n0 R (.seq p q) tm O:=fun F x0 m0 w0 x tv m w a sY hn hx st aR eS hd=>by
 refine wpIn_seq (wpIn_mono (h hn F x tv m w a 0 hx st ⟨Nat.zero_le _,trivial⟩ ⟨fun _=>rfl,fun h=>by cases h⟩ none trivial) ?_);rintro e a' w' ⟨y,tm',dM,m',hq,cT,bW,dO,uR,jQ⟩;have iA:a'.defers=[]:=(jQ.eq rfl).trans hd;cases e with
 |normal=>exact hq F x0 m0 w0 y dM m' w' a' sY uR rfl cT (aR.trans bW) (eS.trans dO) iA|ret=>obtain⟨_,YF⟩:=hq;subst sY;show LeavesIn _ _ _ _ _ _ a'.defers _ _;rw[iA];exact C_ hT (fn:=fn) cT (aR.trans bW) (eS.trans dO) YF
 |exit id=>cases hq.1|goto l=>cases hq.1
 |panic ch=>cases hq.1|outgrown=>cases hq.1
abbrev SU(P:Program)(T:Tb)(rs:List ResultVar)(n0:Nat)(R:U->Sg->Prop)(g:FuncId)(NV:List U)(tm:List U)(O:Sg):Prop :=
 ∃fd cd,T.fn g=some fd/\fd.body=some cd/\WPU (PG.of P) O.nx cd (AO fd.ntmps NV) O (fun e tm' O'=>(e=.normal\/e=.ret)/\(∃l,nM T O' tm' fd.results.toList=some l)/\As T rs n0 R tm O')
theorem yF.clos{c:Code}{g:FuncId}{NV:List U}(hd0:n0<=O.nx)(h:WPU (PG.of P) O.nx c tm O (fun e tm' O'=>(e=.normal\/e=.ret)/\SU P T fn.results.toList n0 R g NV tm' O')):
  ∀F x0 m0 w0 x tv m w a fv cap dargs bH vs,x0.O.nx=n0->x.O=O->St F x tm tv m w a->bP m0 x0.s w0 m x.s w->Ke n0 x0 x->a.defers=[{ target:=.fn fv cap,args:=dargs }]->(∀w',(invoke (.fn fv cap) dargs).run P w'=.ok (.enter g bH.toArray) w')->bB x NV vs->mW m x.s.nx vs bH->
   c.wpIn (oN none) 0 P (bodyPostDIn (oN none) 0 P fn (O8 F R x0 m0 w0)) a w:=fun F x0 m0 w0 x tv m w a fv cap dargs bH vs sY hx st aR eS hd YB hdu HF=>by
 refine wpIn_mono (h (zF _) F x tv m w a 0 hx st ⟨Nat.zero_le _,trivial⟩ ⟨fun _=>rfl,fun h=>by cases h⟩ none trivial) ?_;rintro e a' w' ⟨y,tm',dM,m',⟨y4,fd,cd,YE,y5,Ro⟩,cT,bW,dO,uR,jQ⟩;have iA:a'.defers=[{ target:=.fn fv cap,args:=dargs }]:=(jQ.eq rfl).trans hd;subst hx;have dw:bB y NV vs:=dO.E hdu.bel hdu;have dx:mW m' y.s.nx vs bH:=fun m'' kY=>HF m'' ((bW.agree).trans kY bW.nx);obtain⟨N6,_⟩:=hT.fn g fd YE;have fF:bH.length=vs.length:=by rw[<-HF.at];simp
 have HM:vF m' y.s.nx (pad fd.ntmps vs) { tmps:=bH.toArray++Array.replicate (fd.ntmps-bH.toArray.size) undef,defers:=[] }:=fun m'' kY=>by simp only[vz,wG,dx m'' kY,fF,List.size_toArray];apply Array.ext';simp[m4,aH,undef]
 have key:LeavesIn (oN none) 0 P fn a'.tmps (O8 F R x0 m0 w0) a'.defers .returning w':=by
  rw[iA];refine leavesIn_cons (by simp) (fun h=>by simp[oN,Fence.wide]at h) (YB w') (fun _ _=>trivial) ?_;refine(callsDIn_of_wp (R:=fun e w''=>∃v,e=.returned v/\∃v',(results fn a'.tmps).run P w''=.ok v' w''/\O8 F R x0 m0 w0 (.returned v') w'') N6 y5 trivial ?_).mono ?_;refine wpIn_mono (Ro (zF _) F y _ m' w' _ 0 rfl ⟨cT.h,cT.fr,Jl _ dw,cT.fits,HM⟩ ⟨Nat.zero_le _,trivial⟩ ⟨fun _=>rfl,fun h=>by cases h⟩ none trivial) ?_;rintro e1 a1 w1 ⟨z,UB,tv1,m1,⟨dr,⟨l1,A4⟩,YF⟩,KX,iK,Qp,jf,dz⟩;have Ri:a1.defers=[]:=dz.eq rfl;obtain⟨ls1,Qb,_⟩:=Ji KX.h KX.e A4;have Py:(results fd a1.tmps).run P w1=.ok (aH m1 (vD ls1)) w1:=by rw[KX.act m1 (aK.refl _ _)];exact pz hT (KX.fits m1 (aK.refl _ _)) Qb
  subst sY;have c8:St F z tm' dM m1 w1 a':=⟨KX.h,KX.fr,Qp.E cT.e.bel cT.e,KX.fits,cT.act.ext iK.agree iK.nx⟩;have hk:=C_ hT (fn:=fn) c8 ((aR.trans bW).trans iK) ((eS.trans (dO.le hd0)).trans (Qp.le (Nat.le_trans hd0 uR))) YF;have hp:bodyPost P fd (fun e w''=>∃v,e=.returned v/\∃v',(results fn a'.tmps).run P w''=.ok v' w''/\O8 F R x0 m0 w0 (.returned v') w'') .ret a1 w1:=⟨Ri,_,Py,_,rfl,hk⟩;rcases dr with rfl |rfl;exact hp;exact hp;rintro e1 u1 w1 ⟨rfl,v,rfl,hk⟩;exact hk
 rcases y4 with rfl |rfl;exact key;exact key
omit hT in
theorem UT{C:PG}(hT:kS C.prog T)(aA:Array Oper)(E:Exit->Act->World->Prop)(L:List Nat)(tail:List Oper){F:Nat->lB->Prop}{x0:Cx}{m0:Nm}{w0:World}{df:List Deferred}(K:List U->Sg->Prop)(A8:SR C n0 x0 m0 w0)(wQ:gE m0 x0.s w0)(ro:Option Nat)(jC:C.ro ro):
  ∀(rest:List Oper)(i:Nat),aA.toList.drop i=rest++tail->∀(x:Cx)(tm:List U)(tv:List Value)(m:Nm)(w:World)(a:Act),St F x tm tv m w a->a.defers=df->bP m0 x0.s w0 m x.s w->Ke n0 x0 x->n0<=x.O.nx->RU C T aA.toList rest tm x.O K->
   (∀y tm' dM m' w' a',K tm' y.O->St F y tm' dM m' w' a'->bP m0 x0.s w0 m' y.s w'->Ke n0 x0 y->n0<=y.O.nx->a'.defers=df->wpOpsIn (oN ro) 0 C.prog aA E L a' w')->wpOpsIn (oN ro) 0 C.prog aA E (List.range' i rest.length++L) a w
 |[],i,_,x,tm,tv,m,w,a,st,hd,aR,eS,hn,h,hQ=>by simp only[zS,List.range'_zero,List.nil_append];exact hQ x tm tv m w a h st aR eS hn hd
 |o::rest,i,K8,x,tm,tv,m,w,a,st,hd,aR,eS,hn,h,hQ=>by
  have ho:aA[i]? = some o:=by have:=congrArg (fun l=>l[0]?) K8;simpa using this
  have bD:aA.toList.drop (i+1)=rest++tail:=by have:=congrArg List.tail K8;simpa using this
  simp only[zO,List.range'_succ,List.cons_append,wpOpsIn,ho,sr (st.act m (aK.refl _ _)) aA o];simp only[RU]at h;rcases h with⟨hw,u,O',h1,h2⟩|⟨hw,f,args,R,h1,h2,h3⟩|⟨hw,h1⟩|⟨hw,t,xo,yo,ty,e,b,l,h1,h2,h3,h4,h5⟩|⟨hw,R,h1,h2⟩;rw[yV st.e hw];simp only[if_true];refine EI (Bo h1) (st.op hT o h1 fun y dM aJ w₁ bJ e1 cT bW dO m8 jQ=>?_);exact UT hT aA E L tail K A8 wQ ro jC rest (i+1) bD y _ dM aJ w₁ bJ cT (jQ.trans hd) (aR.trans bW) (eS.trans (dO.le hn)) (by omega) (e1 ▸ h2) hQ;rw[yV st.e hw];simp only[if_true];refine EI (Xj h1) (st.call hT o h1 h2 fun y u dM aJ w₁ bJ hR cT bW dO m8 jQ=>?_);exact UT hT aA E L tail K A8 wQ ro jC rest (i+1) bD y _ dM aJ w₁ bJ cT (jQ.trans hd) (aR.trans bW) (eS.trans (dO.le hn)) (by omega) (h3 u y.O hR) hQ;rw[yV st.e hw];simp only[Bool.false_eq_true,if_false];exact⟨fun _ _=>trivial,UT hT aA E L tail K A8 wQ ro jC rest (i+1) bD x _ _ m w _ (st.skip o.dst) ((PT _ _ _).trans hd) aR eS hn h1 hQ⟩;rw[yV st.e hw];simp only[if_true];refine EI (by rw[h1];intro c hc;cases hc) (st.nilq hT o h1 h2 h3 h4 fun z y dM aJ w₁ bJ hz e1 cT bW dO m8 jQ=>?_);exact UT hT aA E L tail K A8 wQ ro jC rest (i+1) bD y _ dM aJ w₁ bJ cT (jQ.trans hd) (aR.trans bW) (eS.trans (dO.le hn)) (by omega) (e1 ▸ h5 z hz) hQ;rw[yV st.e hw];simp only[if_true];refine h1 F x tv m w a _ _ rfl st ⟨Nat.le_trans A8.nb hn,(A8.adv wQ aR eS).g⟩ (fun u y dM aJ w₁ bJ hR cT bW dO m8 jQ=>?_) ro jC;exact UT hT aA E L tail K A8 wQ ro jC rest (i+1) bD y _ dM aJ w₁ bJ cT (jQ.trans hd) (aR.trans bW) (eS.trans (dO.le hn)) (by omega) (h2 u y.O hR) hQ
theorem yF.dfr{id:Nat}{aA:Array Oper}{q:Code}(k:Nat){o:Oper}{c:Call}(hk:aA.toList[k]? = some o)(ho:o.op=.defer c)(hg:o.guard=none)(hds:o.dst=none)
  (h:RU (PG.of P) T aA.toList (aA.toList.take k) tm O (fun UB O1=>∃g NV,jL T UB (.call c)=some (g,NV)/\RU (PG.of P) T aA.toList (aA.toList.drop (k+1)) UB O1 (fun yr O5=>O1=O5/\WPU (PG.of P) O5.nx q yr O5 (fun e tm' O'=>(e=.normal\/e=.ret)/\SU P T fn.results.toList n0 R g NV tm' O')))):
  yF P T fn n0 R (.seq (.region id aA false) q) tm O:=fun F x0 m0 w0 x tv m w a sY hn hx st aR eS hd=>by
 subst hx;obtain⟨aw,hko⟩:=zG.1 hk;have D6:aA.toList=aA.toList.take k++o::aA.toList.drop (k+1):=by rw[<-hko,<-List.drop_eq_getElem_cons aw,List.take_append_drop]
 generalize aA.toList.take k=pre at h D6;generalize aA.toList.drop (k+1)=post at h D6;refine wpIn_seq (wpIn_region ?_);rw[List.range_eq_range'];have dS:aA.size=pre.length+(post.length+1):=by have:=congrArg List.length D6;simpa using this
 have hrg:List.range' 0 aA.size=List.range' 0 pre.length++(pre.length::List.range' (pre.length+1) post.length):=by rw[dS,<-List.range'_append_1 (s:=0),Nat.zero_add,List.range'_succ]
 rw[hrg];refine UT (C:=PG.of P) (n0:=n0) hT aA _ _ (o::post) (F:=F) (x0:=x) (m0:=m) (w0:=w) (df:=a.defers) _ ⟨Nat.zero_le _,trivial⟩ st.fits none trivial pre 0 (by simpa using D6) x tm tv m w a st rfl (bP.refl st.fits) (Ke.refl _ _) hn h ?_;rintro y tm' dM m' w' a' ⟨g,NV,BJ,BC⟩ cT bW dO uR iA;have hoi:aA[pre.length]? = some o:=by
  have:aA.toList[pre.length]? = some o:=by rw[D6];simp
  simpa using this
 have Pu:Region.wanted o (yielded aA a'.tmps)=true:=by simp[Region.wanted,hg]
 simp only[wpOpsIn,hoi,Pu,if_true];obtain⟨vs,h1,h2⟩:=qva cT.e BJ;obtain⟨fv,cap,dargs,bH,e1,e2,e3⟩:=z3c hT cT.act o ho w' h1;refine⟨fun _ _=>trivial,?_⟩;have e4:(o.semAt (oN none).round a'.eval)=execOp a'.eval o:=Oper.semAt_none _ _;rw[e4,e1];rw[Oper.uponIn_defer];rw[hds];have KX:St F y tm' dM m' w' (({ a' with defers:=({ target:=.fn fv cap,args:=dargs }:Deferred)::a'.defers }:Act).put none undef):=
  ⟨cT.h,cT.fr,cT.e,cT.fits,fun m'' kY=>cT.act m'' kY⟩
 have key:=UT (C:=PG.of P) (n0:=y.O.nx) hT aA (Exit.then (Code.wpIn (oN none) 0 P q (bodyPostDIn (oN none) 0 P fn (O8 F R x0 m0 w0))) (bodyPostDIn (oN none) 0 P fn (O8 F R x0 m0 w0))) [] [] (F:=F) (x0:=y) (m0:=m') (w0:=w') (df:={ target:=.fn fv cap,args:=dargs }::a'.defers) _ ⟨Nat.zero_le _,trivial⟩ cT.fits none trivial post (pre.length+1) (by rw[D6];simp) y _ _ m' w' _ KX (PT _ _ _) (bP.refl cT.fits) (Ke.refl _ _) (zF _) BC ?_;rw[List.append_nil]at key;exact key;rintro z yr tv2 m2 w2 a2 ⟨B4,hw⟩ st2 dA Qo Qj dy;simp only[wpOpsIn];refine yF.clos hT (tm:=yr) (O:=z.O) (fn:=fn) (n0:=n0) (R:=R) (by rw[<-B4];exact uR) hw F x0 m0 w0 z tv2 m2 w2 a2 fv cap dargs bH vs sY rfl st2 ((aR.trans bW).trans dA) ((eS.trans dO).trans (Qo.le uR)) (by rw[dy,iA,hd]) e2 (Qo.E h2.bel h2) (fun m'' kY=>e3 m'' (dA.agree.trans kY dA.nx))
end
variable{q:List U}
variable{p:List U}
variable{a:Nat}
theorem qwv{n:Nat}(h:jX q a n=some p):a+n<=q.length/\(q.drop a).take n=p:=by
 unfold jX at h;split at h;rename_i hj;exact⟨hj,Option.some.inj h⟩;cases h
variable{sz:Nat}
variable{fo:Nat}
theorem WX{u:U}(h:jX q a sz=some p)(h2:nth p fo=some u):nth q (a+fo)=some u:=by
 obtain⟨h1,rfl⟩:=qwv h;rw[iQ]at h2 ⊢;have hl:=(zG.1 h2).1;rw[List.length_take]at hl;rw[List.getElem?_take_of_lt (by omega),List.getElem?_drop]at h2;exact h2
theorem WI{p' cs:List U}(h:jX q a sz=some p)(h2:oM p fo cs=some p'):oM q (a+fo) cs=oM q a p':=by
 obtain⟨h1,rfl⟩:=qwv h;unfold oM at h2;split at h2
 ·rename_i hj;have hp:=Option.some.inj h2;rw[List.length_take,List.length_drop]at hj;have hl:p'.length=sz:=by rw[<-hp];simp;omega
  unfold oM;rw[if_pos (by omega),if_pos (by omega),<-hp];congr 1;have e1:List.take fo (List.take sz (List.drop a q))=List.take fo (List.drop a q):=by rw[List.take_take,Nat.min_eq_left (by omega)]
  have e2:List.take (a+fo) q=List.take a q++List.take fo (List.drop a q):=List.take_add;have e3:List.drop (a+fo+cs.length) q=List.drop (fo+cs.length) (List.take sz (List.drop a q))++List.drop (a+sz) q:=by
   have:List.drop a q=List.take sz (List.drop a q)++List.drop (a+sz) q:=by rw[<-List.drop_drop,List.take_append_drop]
   rw[Nat.add_assoc,<-List.drop_drop]
   conv=>lhs;rw[this]
   rw[List.drop_append_of_le_length (by rw[List.length_take,List.length_drop];omega)]
  rw[e1,e2,e3];simp[zT,hl];omega
 cases h2
section
variable{T:Tb}{O O':Sg}{n:Nat}{l:List (Nat×U)}{u v w:U}
theorem CJ{X:Type}(c:X->List U){t e':TypeId}{d:TypeDesc}{K st off m:Nat}{xs:List X}{i:Int}{x:X}{o:Operand}(hd:T.und t=some d)(ha:qA d=false)(hc:∀x,(c x).length=sz)(ho:bV n l o=some (.ptr K st (off*sz+i.toNat*sz+fo)))(hv:gt O.h K=some (.vec (xs.map c).flatten e' sz st))(hx:rW xs off m i=some x)(hu:nth (c x) fo=some u):bO T O (fr n l) (.load t o)=some (u,O):=by
 refine KH rfl ?_;have hb:Nat.beq st st=true:=by simp[beq_eq]
 have hg:=my hc (VE hx).2.2;rw[Nat.add_mul]at hg;simp only[pL,eT ho,cellsOf,hv,hb,zC,EB,hd,ha,zD,WX hg hu]
theorem ve{X:Type}(c:X->List U){t e':TypeId}{s K st off m:Nat}{xs:List X}{i:Int}{x y:X}{o z:Operand}{cs:List U}{h':List (Nat×B)}(hs:cC T t=some s)(hc:∀x,(c x).length=sz)(ho:bV n l o=some (.ptr K st (off*sz+i.toNat*sz+fo)))(hz:bV n l z=some v)(u7:vJ v=some cs)(hk:okL cs=true)(hl:Nat.beq cs.length s=true)(hv:gt O.h K=some (.vec (xs.map c).flatten e' sz st))(hx:rW xs off m i=some x)(hy:oM (c x) fo (pU cs)=some (c y))(B4:ug O.h K (.vec ((xs.set (off+i.toNat) y).map c).flatten e' sz st)=h'):bO T O (fr n l) (.store t o z)=some (.junk,⟨h',O.nx⟩):=by
 subst B4;have hb:Nat.beq st st=true:=by simp
 have hj:=(zG.1 (VE hx).2.2).1;have hg:=my hc (VE hx).2.2;have hp:=WI hg hy;rw[uy hc hj y,Nat.add_mul]at hp;exact FA rfl rfl (by simp only[nO,eT ho,eT hz,US,hs,u7,hl,hk,zC,cellsOf,hv,hb,DX,hp,JA])
end
theorem xQ{O:Sg}{k t e:Nat}{l:List U}(h:gt O.h k=some (.vec l e sz t)):c7 O k t=true:=by
 simp only[c7,h,B.st,beq_eq,yC]
theorem RM{A V:Type}(K:Nat)(b:B)(sz:Nat)(kU:A->U)(vU:V->U)[p:Fz vU](es:List (A×V×Nat)):
  (es.map (mE kU vU)).map (fun e=>{ e with val:=fz K b sz e.val })=es.map (mE kU vU):=by
 rw[List.map_map];refine List.map_congr_left fun e _=>?_;simp only[Function.comp,mE,Wa b sz _ (p.h K e.2.1)]
variable{T:Tb}
variable{t:TypeId}
variable{e:TypeId}
variable{sz:Nat}
variable{z:Value}
theorem qsk{P:Program}(hT:kS P T){m:Nm}{s:S}(w:World){by_ n:Nat}{ps:List (Nat×Value)}{cps:List (Nat×Value)}{cs:List Value}
  (Y':∀m',aK s.nx m m'->ps.map (fun p=>(p.1,aH m' p.2))=cps) (hd:T.und t=some (.slice e)) (hi:T.inf e=some (sz,by_,z)) (h1:Nat.ble (n*sz) 16777216=true) (h2:z.cells.toList.length=sz)
  (h3:CK (fun i=>some (i*sz,sz)) (bZ z.cells.toList n) ps=some cs):
  ∃cl,mW m s.nx cs cl/\(Instr.buildSlice t n cps.toArray).run P w=.ok (.slice (some ⟨w.heap.size,0,none⟩) n n) (w.alloc (.cells ⟨cl⟩ e)):=by
 have dS:cC T e=some sz:=by simp[cC,hi]
 have hz:=fun m'=>G4 hT m' w hi;have tY:=Cs hT hi;simp only at hz tY;have vR:n*sz<=16777216:=by simpa[Nat.ble_eq]using h1
 have kZ:∀m',aK s.nx m m'->Instr.fill (fun i=>some (i*sz,sz)) ⟨bZ z.cells.toList n⟩ cps=some ⟨aI m' cs⟩:=fun m' ha=>by have:=Jm m' _ ps _ _ h3;rw[Y' m' ha,Kg tY]at this;exact this
 have fF:mW m s.nx cs (aI m cs):=fun m' ha=>by have e1:=kZ m' ha;have e2:=kZ m (aK.refl _ _);rw[e1]at e2;simpa using e2
 have gI:z.cells.size=sz:=by simpa using h2
 refine⟨aI m cs,fF,?_⟩;have fB:(Array.range (n*sz)).map (fun i=>(if n*sz=0 then(#[]:Array Value)else z.cells)[i%(if n*sz=0 then(#[]:Array Value)else z.cells).size]!)=⟨bZ z.cells.toList n⟩:=by
  by_cases h0:n*sz=0;rw[h0];apply Array.ext';have:(bZ z.cells.toList n).length=0:=by rw[Xl,h2,h0]
  simp[List.length_eq_zero_iff.1 this];simp only[if_neg h0];have:=Jn z.cells n;rw[gI]at this;rw[<-this];simp[gI]
 have K6:=kZ m (aK.refl _ _);have hnot:¬ n*sz>2^24:=by omega
 have MT:=(hz m).1;by_cases h0:n*sz=0;simp only[if_pos h0]at fB;simp only[Instr.buildSlice,zK,gR hT w hd,zJ,n7 hT w dS,Sem.run_ite,if_neg hnot,zL,if_pos h0];rw[fB,K6];simp[Go.newRow];simp only[if_neg h0]at fB;simp only[Instr.buildSlice,zK,gR hT w hd,zJ,n7 hT w dS,Sem.run_ite,if_neg hnot,zL,if_neg h0,MT];rw[fB,K6];simp[Go.newRow]
theorem EC.bslw{C:PG}(hT:kS C.prog T){O:Sg}{tm:List U}{o:Oper}{k b:Nat}{zu cs0 cs:List U}{ps:Array (Nat×Operand)}{qs:List (Nat×U)}(ho:o.op=.buildSlice t k ps)(hd:T.und t=some (.slice e))(hi:T.inf e=some (sz,b,z))
  (h:xR tm ps.toList=some qs) (h1:Nat.ble (k*sz) 16777216=true) (h3:Nat.beq z.cells.toList.length sz=true) (hz:pH z.cells.toList=some zu) (hf:tV (fun i=>some (i*sz,sz)) (uK zu k) qs=some cs0) (hw:pS cs0 cs) (hk:okL cs=true) (hl:Nat.beq cs.length (k*sz)=true) (hs:Nat.blt 0 sz=true):
  EC C O tm o (fun u O'=>u=.vl O.nx 0 0 k/\O'=newU O (.vec cs e sz 0)):=fun F x tv m w a next Q sX st hG hn ro jC=>by
 subst sX;obtain⟨vs,ev,hp⟩:=pn st.e h;have sE:=(LD _ _ hz).2 x;obtain⟨rv,f1,f2⟩:=Ka hp (Cn sE k) hf;have f2:bB x cs rv:=⟨hw.rel f2.1,by rw[hw.len];exact f2.2⟩;have h2:z.cells.toList.length=sz:=by simpa[beq_eq]using h3
 obtain⟨cl,g1,g2⟩:=qsk hT (m:=m) (s:=x.s) w (cps:=ps.toList.map fun p=>(p.1,a.eval p.2)) (fun m' eG=>(sd (st.act m' eG) ev).symm) hd hi h1 h2 f1;have e1:(ps.map fun(i,x)=>(i,a.eval x))=(ps.toList.map fun p=>(p.1,a.eval p.2)).toArray:=by cases ps;simp
 have cR:(execOp a.eval o).run C.prog w=.ok (.value (.slice (some ⟨w.heap.size,0,none⟩) k k)) (w.alloc (.cells ⟨cl⟩ e)):=by simp only[execOp,ho];rw[e1];simp only[zK,g2,zJ,zL]
 have aU:rv.length=k*sz:=by
  have h5:=f2.2;have h6:cs.length=k*sz:=by simpa[beq_eq]using hl
  rw[<-h5,h6]
 have aR:bP m x.s w (m.set x.s.nx w.heap.size 0 k) (Rx.newRow x.s rv e (sz+2)) (w.alloc (.cells ⟨cl⟩ e)):=by have:=Yw st.fits (rest:=[]) g1 e k sz (by simpa using aU);simpa using this
 have dS:0<sz:=by simpa[Nat.blt_eq]using hs
 have jF:=Xz st.h f2 hk e dS;have fX:eN (m.set x.s.nx w.heap.size 0 k) (x.s.nx+1) (.slice (some ⟨x.s.nx,0,none⟩) k bS) (.slice (some ⟨w.heap.size,0,none⟩) k k):=fun m' ha=>by obtain⟨q1,q2,q3⟩:=ha x.s.nx (zN _);obtain⟨r1,r2,r3⟩:=AY m x.s.nx w.heap.size 0 k;simp[aH,q1,q2,r1,r2,bR,bN,q3,r3]
 refine EI (by rw[ho];intro c hc;cases hc) ?_;unfold Oper.wp;rw[cR];exact hn _ ⟨lM x.Y x.O.nx (some x.s.nx),newU x.O (.vec cs e sz 0),Rx.newRow x.s rv e (sz+2)⟩ (KG tv o.dst (.slice (some ⟨x.s.nx,0,none⟩) k bS)) _ _ _ ⟨rfl,rfl⟩
  ⟨jF.h,jF.fr F st.fr,Jk (jF.mo.ke.E st.e.bel st.e) Xv _,aR.fits,(st.act.ext aR.agree aR.nx).put fX o.dst⟩ aR jF.mo.ke jF.mo.nx (PT _ _ _)
theorem EC.bslv{C:PG}(hT:kS C.prog T){O:Sg}{tm:List U}{o:Oper}{k b:Nat}{zu cs:List U}{ps:Array (Nat×Operand)}{qs:List (Nat×U)}(ho:o.op=.buildSlice t k ps)(hd:T.und t=some (.slice e))(hi:T.inf e=some (sz,b,z))
  (h:xR tm ps.toList=some qs) (h1:Nat.ble (k*sz) 16777216=true) (h3:Nat.beq z.cells.toList.length sz=true) (hz:pH z.cells.toList=some zu) (hf:tV (fun i=>some (i*sz,sz)) (uK zu k) qs=some cs) (hk:okL cs=true) (hl:Nat.beq cs.length (k*sz)=true) (hs:Nat.blt 0 sz=true):
  EC C O tm o (fun u O'=>u=.vl O.nx 0 0 k/\O'=newU O (.vec cs e sz 0)):=EC.bslw hT ho hd hi h h1 h3 hz hf (pS.refl _) hk hl hs
def xV(K K2 k:Nat):Nat:=cond (Nat.beq k K) K2 k
def JY(K K2:Nat):List (Nat×B)->List (Nat×B)
 |[]=>[]|(k,b)::h=>cond (Nat.beq k K) (JY K K2 h) (cond (Nat.beq k K2) ((K,b)::JY K K2 h) ((k,b)::JY K K2 h))
theorem li{K K2:Nat}(cW:K≠K2):∀(h:List (Nat×B))(j:Nat),gt (JY K K2 h) j=if j=K then gt h K2 else if j=K2 then none else gt h j
 |[],j=>by simp[JY,gt]
 |(k,b)::h,j=>by have ih:=li cW h j;simp only[JY,beq_eq];by_cases e1:k=K;subst e1;simp only[yC,zC,ih,lG];by_cases e2:j=k;subst e2;simp[cW];simp[e2,Ne.symm e2];by_cases e2:k=K2;subst e2;simp only[e1,yB,zD,yC,zC,lG,ih];by_cases e3:j=K;subst e3;simp;by_cases e4:j=k;simp[e4,e1,Ne.symm e3];intro h;exact absurd h.symm e1;simp[e3,e4,Ne.symm e3,Ne.symm e4];simp only[e1,e2,yB,zD,lG,ih];by_cases e3:j=K;subst e3;simp[e1,e2];by_cases e4:j=K2;subst e4;simp[e3,e2];simp[e3,e4]
def rS(Z:Nat->Nat):List (Nat×U)->List (Nat×U)
 |[]=>[]|(i,u)::l=>(i,rU Z u)::rS Z l
theorem qw2(Z:Nat->Nat):∀(l:List (Nat×U))(i:Nat),mY (rS Z l) i=(mY l i).map (rU Z)
 |[],i=>rfl|(j,u)::l,i=>by simp only[rS,mY,beq_eq,qw2 Z l i];by_cases e:j=i<;>simp[e]
theorem l?(Z:Nat->Nat):∀(l:List U)(i:Nat),(iD Z l)[i]? = (l[i]?).map (rU Z)
 |[],i=>by simp[iD]
 |u::l,0=>by simp[iD]
 |u::l,i+1=>by simp[iD,l? Z l i]
theorem UG(Z:Nat->Nat)(n:Nat)(l:List (Nat×U)):iD Z (fr n l)=fr n (rS Z l):=by
 apply List.ext_getElem?;intro k;rw[l?];by_cases hk:k<n;rw[LA n l hk,LA n _ hk,qw2];rcases mY l k with _|w;simp[rU];rfl;rw[List.getElem?_eq_none (by simp[G3];omega),List.getElem?_eq_none (by simp[G3];omega)];rfl
def Uk(Z:Nat->Nat):List (Nat×B)->Prop
 |[]=>True|(_,b)::h=>rB Z b=b/\Uk Z h
theorem J_{Z:Nat->Nat}:∀{h:List (Nat×B)},Uk Z h->∀k b,gt h k=some b->rB Z b=b
 |[],_,k,b,hg=>by cases hg
 |(j,c)::h,ha,k,b,hg=>by rw[lG]at hg;by_cases e:j=k;rw[if_pos e]at hg;cases hg;exact ha.1;rw[if_neg e]at hg;exact J_ ha.2 k b hg
theorem Gh.mv{n0 n:Nat}{l l':List (Nat×U)}{O:Sg}{h':List (Nat×B)}(K K2:Nat)(h0:n0<=K)(hK:Nat.blt K O.nx=true)(cW:Nat.beq K K2=false)(hl:rS (xV K K2) l'=l)(hm:JY K K2 O.h=h')(ha:Uk (xV K K2) h')[hb:BS O.nx l']:Gh n0 (fr n l) O (fr n l') ⟨h',O.nx⟩:=fun F x tv hx hr hf he=>by
 subst hx;subst hl;subst hm;have hK':K<x.O.nx:=by simpa[Nat.blt_eq]using hK
 have A0:K≠K2:=by simpa[beq_eq]using cW
 have key:∀k b,gt (JY K K2 x.O.h) k=some b->gt x.O.h (xV K K2 k)=some b:=fun k b hg=>by rw[li A0]at hg;simp only[xV,beq_eq];by_cases e:k=K;rw[if_pos e]at hg;simpa[e]using hg;rw[if_neg e]at hg;by_cases e2:k=K2;rw[if_pos e2]at hg;cases hg;rw[if_neg e2]at hg;simpa[e]using hg
 let y:Cx:=⟨fun k=>x.Y (xV K K2 k),⟨JY K K2 x.O.h,x.O.nx⟩,x.s⟩
 have hU:UZ x.O.nx (xV K K2) x y:=⟨fun k st off v hk h=>by
   simp only[aD,Ref]at h ⊢;exact⟨h.1,hk,fun b hb=>h.2.2 b (key k b hb)⟩,fun k off m c v hk h=>by
   simp only[aD,Ref]at h ⊢;exact⟨h.1,hk,fun b hb=>h.2.2 b (key k b hb)⟩,fun k st off m v hk h=>by
   simp only[aD]at h ⊢;exact⟨h.1,hk,fun b hb=>h.2.2 b (key k b hb)⟩,fun k v hk h=>by
   simp only[aD,Ref]at h ⊢;exact⟨h.1,hk,fun b hb=>h.2.2 b (key k b hb)⟩,fun _ _ _ h=>h⟩
 have Ru:∀u,b7 n0 u->rU (xV K K2) u=u:=fun u jr=>by
  have:=k? (Z:=id) (κ:=xV K K2) (n:=n0) (fun k hk=>by
   have:¬ k=K:=by omega
   simp[xV,beq_eq,this]) u jr
  rwa [yu]at this
 refine⟨y,fun m w hf=>bP.refl hf,rfl,⟨fun k b hb=>?_,fun k k' b b' i hb cQ h1 h2=>?_,hr.bd⟩,fun i b J=>?_,?_,fun u v jr hv=>?_⟩;have hg:=key k b hb;obtain⟨g1,g2⟩:=hr.ok _ _ hg;have aw:k<x.O.nx:=by
  by_cases e:k=K;omega;have e2:xV K K2 k=k:=by simp[xV,beq_eq,e]
  rw[e2]at g1;exact g1
 refine⟨aw,nI.unleaf hU g2.belB rfl (fun _ _ _ h=>h) ?_⟩;rw[J_ ha k b hb];exact g2;have e:=hr.inj _ _ b b' i (key k b hb) (key k' b' cQ) h1 h2;have Qj:∀k b,gt (JY K K2 x.O.h) k=some b->k≠K2:=fun k b hb h=>by subst h;rw[li A0,if_neg (Ne.symm A0),if_pos rfl]at hb;cases hb
 have q1:=Qj k b hb;have q2:=Qj k' b' cQ;simp only[xV,beq_eq]at e;by_cases e1:k=K;by_cases e2:k'=K;rw[e1,e2];simp[e1,e2]at e;exact absurd e.symm q2;by_cases e2:k'=K;simp[e1,e2]at e;exact absurd e q1;simpa[e1,e2]using e;obtain⟨h1,h2⟩:=hf i b J;exact⟨h1,fun k c hc=>h2 _ c (key k c hc)⟩;refine bB.unleaf hU (X? hb.h) ?_;rw[UG];exact he;exact aD.unleaf hU u v (b7.le (by omega) u jr) (by rw[Ru u jr];exact hv)
variable{T:Tb}{O:Sg}
variable{e:TypeId}
theorem Bh{t:TypeId}{m sz k st off:Nat}{i:Int}{kd:IntKind}(hd:T.und t=some (.array m e))(hs:cC T e=some sz)(hl:c7 O k st=true)(hi:0<=i/\i<m){gS:Nat}(ho:off+i.toNat*sz=gS):EM T O t (.ptr k st off) (.int kd i)=some (.ptr k st gS):=by
 subst ho;simp only[EM,hd,hs,hl,zC,if_pos hi]
theorem On{t:TypeId}{k st off:Nat}{op:BinOp}{u:U}(hd:T.und t=some (.pointer e))(hl:c7 O k st=true)(hu:DN op=some u):Bp T O op t (.ptr k st off) .nilp=some u:=by
 simp only[Bp,xM,hd,gK,hl,JD,hu,zC,Nat.beq,zD]
theorem Gb{X:Type}(c:X->List U){n0 n:Nat}{l l':List (Nat×U)}{O O':Sg}{K:Nat}{xs:List X}{sz st:Nat}(hc:∀x,(c x).length=sz)(hg:gt O.h K=some (.vec (xs.map c).flatten e sz st))(j:Nat)(ht:F7 l l')(hs:(⟨ug O.h K (.vec ((xs.take j).map c).flatten e sz st),O.nx⟩:Sg)=O'):Gh n0 (fr n l) O (fr n l') O' :=
 Gh.trans (Gh.truncL c hc hg j) (kJ ht hs)
end Go.Vx
namespace Go.Proofs
open Go Go.Rx
theorem Tryz.hb3:Tryz.f3.body.isSome=true:=rfl
theorem Tryz.hb4:Tryz.f4.body.isSome=true:=rfl
theorem fn7:Tryz.tb.fn 7=some Tryz.f7:=by kernel_rfl
theorem fn9:Tryz.tb.fn 9=some Tryz.f9:=by kernel_rfl
theorem ZH:Tryz.tb.fn 11=some Tryz.f11:=by kernel_rfl
theorem ZG:Tryz.tb.fn 12=some Tryz.f12:=by kernel_rfl
theorem Tryz.hb12:Tryz.f12.body.isSome=true:=rfl
theorem NS:Tryz.tb.fn 18=some Tryz.f18:=by kernel_rfl
theorem Tryz.hb18:Tryz.f18.body.isSome=true:=rfl
theorem HR:Tryz.tb.fn 19=some Tryz.f19:=by kernel_rfl
theorem Tryz.hb19:Tryz.f19.body.isSome=true:=rfl
theorem DJ:Tryz.tb.fn 20=some Tryz.f20:=by kernel_rfl
theorem Tryz.hb20:Tryz.f20.body.isSome=true:=rfl
theorem ZF:Tryz.tb.fn 21=some Tryz.f21:=by kernel_rfl
theorem Tryz.hb21:Tryz.f21.body.isSome=true:=rfl
theorem Tt:Tryz.tb.fn 23=some Tryz.f23:=by kernel_rfl
theorem Tryz.hb23:Tryz.f23.body.isSome=true:=rfl
theorem DI:Tryz.tb.fn 25=some Tryz.f25:=by kernel_rfl
theorem Ts:Tryz.tb.fn 26=some Tryz.f26:=by kernel_rfl
theorem Tr:Tryz.tb.fn 27=some Tryz.f27:=by kernel_rfl
theorem DH:Tryz.tb.fn 28=some Tryz.f28:=by kernel_rfl
theorem Tryz.hb28:Tryz.f28.body.isSome=true:=rfl
theorem Tq:Tryz.tb.fn 29=some Tryz.f29:=by kernel_rfl
theorem NR:Tryz.tb.fn 31=some Tryz.f31:=by kernel_rfl
theorem Tp:Tryz.tb.fn 32=some Tryz.f32:=by kernel_rfl
theorem Tn:Tryz.tb.fn 33=some Tryz.f33:=by kernel_rfl
theorem NQ:Tryz.tb.fn 34=some Tryz.f34:=by kernel_rfl
theorem DG:Tryz.tb.fn 35=some Tryz.f35:=by kernel_rfl
theorem NP:Tryz.tb.fn 36=some Tryz.f36:=by kernel_rfl
theorem ZE:Tryz.tb.fn 43=some Tryz.f43:=by kernel_rfl
theorem Tryz.hb43:Tryz.f43.body.isSome=true:=rfl
theorem ZD:Tryz.tb.fn 44=some Tryz.f44:=by kernel_rfl
theorem Tryz.hb44:Tryz.f44.body.isSome=true:=rfl
theorem NO:Tryz.tb.fn 45=some Tryz.f45:=by kernel_rfl
theorem Tryz.hb45:Tryz.f45.body.isSome=true:=rfl
theorem ZC:Tryz.tb.fn 46=some Tryz.f46:=by kernel_rfl
theorem Tm:Tryz.tb.fn 47=some Tryz.f47:=by kernel_rfl
theorem NN:Tryz.tb.fn 48=some Tryz.f48:=by kernel_rfl
theorem Tryz.hb48:Tryz.f48.body.isSome=true:=rfl
theorem Tl:Tryz.tb.fn 50=some Tryz.f50:=by kernel_rfl
theorem Tk:Tryz.tb.fn 51=some Tryz.f51:=by kernel_rfl
theorem Tj:Tryz.tb.fn 52=some Tryz.f52:=by kernel_rfl
theorem ZB:Tryz.tb.fn 53=some Tryz.f53:=by kernel_rfl
theorem Tryz.hb53:Tryz.f53.body.isSome=true:=rfl
theorem Ti:Tryz.tb.fn 54=some Tryz.f54:=by kernel_rfl
theorem Tryz.hb54:Tryz.f54.body.isSome=true:=rfl
theorem Th:Tryz.tb.fn 55=some Tryz.f55:=by kernel_rfl
theorem Tryz.hb55:Tryz.f55.body.isSome=true:=rfl
theorem ZA:Tryz.tb.fn 56=some Tryz.f56:=by kernel_rfl
theorem Tryz.hb56:Tryz.f56.body.isSome=true:=rfl
theorem Tg:Tryz.tb.fn 57=some Tryz.f57:=by kernel_rfl
theorem Tf:Tryz.tb.fn 59=some Tryz.f59:=by kernel_rfl
theorem HQ:Tryz.tb.fn 60=some Tryz.f60:=by kernel_rfl
theorem Te:Tryz.tb.fn 61=some Tryz.f61:=by kernel_rfl
theorem Td:Tryz.tb.fn 62=some Tryz.f62:=by kernel_rfl
theorem nG:Tryz.tb.fn 63=some Tryz.f63:=by kernel_rfl
theorem Tc:Tryz.tb.fn 70=some Tryz.f70:=by kernel_rfl
theorem Ta:Tryz.tb.fn 71=some Tryz.f71:=by kernel_rfl
theorem Sz:Tryz.tb.fn 72=some Tryz.f72:=by kernel_rfl
theorem Tryz.hb72:Tryz.f72.body.isSome=true:=rfl
theorem Sy:Tryz.tb.fn 73=some Tryz.f73:=by kernel_rfl
theorem Sx:Tryz.tb.fn 74=some Tryz.f74:=by kernel_rfl
theorem Tryz.hb74:Tryz.f74.body.isSome=true:=rfl
theorem Sw:Tryz.tb.fn 75=some Tryz.f75:=by kernel_rfl
theorem Z9:Tryz.tb.fn 76=some Tryz.f76:=by kernel_rfl
theorem Sv:Tryz.tb.fn 77=some Tryz.f77:=by kernel_rfl
theorem Tryz.hb77:Tryz.f77.body.isSome=true:=rfl
theorem Z8:Tryz.tb.fn 80=some Tryz.f80:=by kernel_rfl
theorem Su:Tryz.tb.fn 81=some Tryz.f81:=by kernel_rfl
theorem Ss:Tryz.tb.fn 82=some Tryz.f82:=by kernel_rfl
theorem Tryz.hb82:Tryz.f82.body.isSome=true:=rfl
theorem NM:Tryz.tb.fn 83=some Tryz.f83:=by kernel_rfl
theorem Tryz.hb83:Tryz.f83.body.isSome=true:=rfl
theorem Z7:Tryz.tb.fn 84=some Tryz.f84:=by kernel_rfl
theorem Tryz.hb84:Tryz.f84.body.isSome=true:=rfl
theorem Z6:Tryz.tb.fn 89=some Tryz.f89:=by kernel_rfl
theorem NK:Tryz.tb.fn 90=some Tryz.f90:=by kernel_rfl
theorem Z5:Tryz.tb.fn 91=some Tryz.f91:=by kernel_rfl
theorem Sr:Tryz.tb.fn 92=some Tryz.f92:=by kernel_rfl
theorem Sq:Tryz.tb.fn 93=some Tryz.f93:=by kernel_rfl
theorem Z4:Tryz.tb.fn 94=some Tryz.f94:=by kernel_rfl
theorem Sp:Tryz.tb.fn 95=some Tryz.f95:=by kernel_rfl
theorem So:Tryz.tb.fn 96=some Tryz.f96:=by kernel_rfl
theorem Sm:Tryz.tb.fn 97=some Tryz.f97:=by kernel_rfl
theorem Sl:Tryz.tb.fn 98=some Tryz.f98:=by kernel_rfl
theorem HP:Tryz.tb.fn 99=some Tryz.f99:=by kernel_rfl
theorem I5:Tryz.tb.fn 100=some Tryz.f100:=by kernel_rfl
theorem BP:Tryz.tb.fn 101=some Tryz.f101:=by kernel_rfl
theorem SD:Tryz.tb.fn 106=some Tryz.f106:=by kernel_rfl
theorem SC:Tryz.tb.fn 107=some Tryz.f107:=by kernel_rfl
theorem I4:Tryz.tb.fn 108=some Tryz.f108:=by kernel_rfl
theorem SB:Tryz.tb.fn 111=some Tryz.f111:=by kernel_rfl
theorem SA:Tryz.tb.fn 116=some Tryz.f116:=by kernel_rfl
theorem rJ:Tryz.tb.fn 117=some Tryz.f117:=by kernel_rfl
theorem I3:Tryz.tb.fn 118=some Tryz.f118:=by kernel_rfl
theorem I2:Tryz.tb.fn 119=some Tryz.f119:=by kernel_rfl
theorem wY:Tryz.tb.fn 120=some Tryz.f120:=by kernel_rfl
theorem I1:Tryz.tb.fn 121=some Tryz.f121:=by kernel_rfl
theorem S9:Tryz.tb.fn 122=some Tryz.f122:=by kernel_rfl
theorem S8:Tryz.tb.fn 123=some Tryz.f123:=by kernel_rfl
theorem S7:Tryz.tb.fn 124=some Tryz.f124:=by kernel_rfl
theorem S6:Tryz.tb.fn 125=some Tryz.f125:=by kernel_rfl
theorem S5:Tryz.tb.fn 126=some Tryz.f126:=by kernel_rfl
theorem mD:Tryz.tb.fn 127=some Tryz.f127:=by kernel_rfl
theorem Tryz.hb127:Tryz.f127.body.isSome=true:=rfl
theorem S4:Tryz.tb.fn 128=some Tryz.f128:=by kernel_rfl
theorem S3:Tryz.tb.fn 129=some Tryz.f129:=by kernel_rfl
theorem S2:Tryz.tb.fn 130=some Tryz.f130:=by kernel_rfl
theorem I0:Tryz.tb.fn 131=some Tryz.f131:=by kernel_rfl
theorem HZ:Tryz.tb.fn 132=some Tryz.f132:=by kernel_rfl
theorem HY:Tryz.tb.fn 133=some Tryz.f133:=by kernel_rfl
theorem BO:Tryz.tb.fn 134=some Tryz.f134:=by kernel_rfl
theorem HX:Tryz.tb.fn 136=some Tryz.f136:=by kernel_rfl
theorem Tryz.hb136:Tryz.f136.body.isSome=true:=rfl
theorem HW:Tryz.tb.fn 137=some Tryz.f137:=by kernel_rfl
theorem Tryz.hb137:Tryz.f137.body.isSome=true:=rfl
theorem S0:Tryz.tb.fn 138=some Tryz.f138:=by kernel_rfl
theorem RZ:Tryz.tb.fn 140=some Tryz.f140:=by kernel_rfl
theorem RY:Tryz.tb.fn 145=some Tryz.f145:=by kernel_rfl
theorem HV:Tryz.tb.fn 146=some Tryz.f146:=by kernel_rfl
theorem RX:Tryz.tb.fn 147=some Tryz.f147:=by kernel_rfl
theorem rH:Tryz.tb.fn 148=some Tryz.f148:=by kernel_rfl
theorem RW:Tryz.tb.fn 149=some Tryz.f149:=by kernel_rfl
theorem RV:Tryz.tb.fn 150=some Tryz.f150:=by kernel_rfl
theorem RT:Tryz.tb.fn 151=some Tryz.f151:=by kernel_rfl
theorem RR:Tryz.tb.fn 152=some Tryz.f152:=by kernel_rfl
theorem RP:Tryz.tb.fn 153=some Tryz.f153:=by kernel_rfl
theorem HU:Tryz.tb.fn 165=some Tryz.f165:=by kernel_rfl
theorem HT:Tryz.tb.fn 171=some Tryz.f171:=by kernel_rfl
theorem RO:Tryz.tb.fn 172=some Tryz.f172:=by kernel_rfl
theorem RN:Tryz.tb.fn 174=some Tryz.f174:=by kernel_rfl
theorem HS:Tryz.tb.fn 175=some Tryz.f175:=by kernel_rfl
end Go.Proofs
