import Derived.DefersIn
import Derived.Test.YtldlchbgolpkaaaGreatP10
set_option linter.all false
namespace Go.Vx
open Go Go.Rx
section
variable{P:Program}{T:Tb}(hT:iW P T)
include hT
theorem z6i{m:Nm}{n:Nat}{tm:List Value}{a:Act}(ha:rZ m n tm a)(o:Oper){c:Call}(ho:o.op=.defer c)(w:World){f:FuncId}{args:List Value}(h:callOf T tm (.call c)=some (f,args)):
  ∃fv cap dargs cargs,(execOp a.eval o).run P w=.ok (.defer { target:=.fn fv cap,args:=dargs }) w/\(∀w',(invoke (.fn fv cap) dargs).run P w'=.ok (.enter f cargs.toArray) w')/\kN m n args cargs:=by
 obtain⟨dst,op,type,pos,after,guard⟩:=o;simp only at ho;subst ho;unfold callOf at h;obtain⟨callee,as,ats⟩:=c;simp only at h;cases callee with
 |value g=>
  simp only at h;rcases hg:evalO tm g with _|u;simp[hg]at h;cases u with
  |func fn first cap=>
   cases fn with
   |func k=>
    simp only[hg]at h;rcases hk:T.fn k with _|fn;simp[hk]at h;simp only[hk]at h;rcases hb:fn.body.isSome with _|_;simp[hb]at h;simp only[hb,zC]at h;rcases hl:iH tm as.toList with _|vs;simp[hl]at h;simp only[hl,zA,zB]at h;obtain⟨rfl,rfl⟩:=h;obtain⟨hfn,hname⟩:=hT.fn k fn hk;obtain⟨first⟩:=first
    obtain⟨cap⟩:=cap;have e0:=iQ (ha m (aH.refl _ _)) hg;have e1:=pH (ha m (aH.refl _ _)) hl;have hnb:fn.body.isNone=false:=by cases hbb:fn.body<;>simp_all
    refine⟨.func k,(aE m cap).toArray,(aE m first++aE m vs).toArray,aE m first++aE m vs++aE m cap,?_,fun w'=>?_,fun m' hm'=>?_⟩;simp only[aD,fQ]at e0;simp only[execOp,zK,resolve,e0,e1,Deferred.ofValue,zL,zJ];simp;simp only[invoke,callFunc,zK,run_program,zJ,hfn,hname hb,hnb,Bool.false_eq_true,if_false];simp;have IJ:=iQ (ha m' hm') hg;have II:=pH (ha m' hm') hl;rw[e0]at IJ;rw[e1]at II;simp_all[aD,tD]
   |_=>simp[hg]at h
  |_=>simp[hg]at h
 |_=>simp at h
abbrev TN(T:Tb)(rs:List ResultVar)(n0:Nat)(R:U->Sg->Prop)(tm:List U)(σ:Sg):Prop :=
 ∃l,lR T σ tm rs=some l/\∃u' bM,n0<=bM.nx/\Gh n0 [mB l] σ [u'] bM/\R u' bM
def IV(F:Nat->iZ->Prop)(R:U->Sg->Prop)(x:Cx)(m:Nm)(w:World):Ending->World->Prop:=fun e w₁=>
 ∃y aC u v cv,e=.returned cv/\R u y.σ/\bD m x.s w aC y.s w₁/\dW aC y.s.nx v cv/\iC y/\Fr F y/\aA y u v/\Ke x.σ.nx x y/\x.σ.nx<=y.σ.nx
theorem vn{fn:Func}{R:U->Sg->Prop}{F:Nat->iZ->Prop}{x y:Cx}{tm:List U}{tv:List Value}{m m':Nm}{w w':World}{a:Act}(st:St F y tm tv m' w' a)(hadv:bD m x.s w m' y.s w')(hke:Ke x.σ.nx x y)(h:TN T fn.results.toList x.σ.nx R tm y.σ):
  ∃v,(results fn a.tmps).run P w'=.ok v w'/\IV F R x m w (.returned v) w':=by
 obtain⟨l,hres,u',bM,hnx,hgh,hR⟩:=h;obtain⟨ls,hres',hrl⟩:=ZQ st.h st.e hres;have hrun:∀m'',aH y.s.nx m' m''->(results fn a.tmps).run P w'=.ok (aD m'' (rV ls)) w':=fun m'' hm''=>by rw[st.act m'' hm''];exact Ym hT (st.fits m'' hm'') hres'
 have hrel:dW m' y.s.nx (rV ls) (aD m' (rV ls)):=fun m'' hm''=>by have e1:=hrun m'' hm'';rw[hrun m' (aH.refl _ _)]at e1;simp at e1;exact e1.symm
 obtain⟨z,z1,z2,z3,z4,z5,z6⟩:=hgh F y [rV ls] rfl st.h st.fr (aX.cons (mb hrl) (aX.nil y));obtain⟨v0,XZ,e0,z7,_⟩:=z5.inv;cases e0;have hadv2:=z1 m' w' st.fits;exact⟨_,hrun m' (aH.refl _ _),z,m',u',rV ls,_,rfl,z2 ▸ hR,hadv.trans hadv2,hrel.ext (aH.refl _ _) hadv2.nx,z3,z4,z7,hke.trans z6,by rw[z2];exact hnx⟩
omit hT in
def uI(P:Program)(T:Tb)(fn:Func)(n0:Nat)(R:U->Sg->Prop)(c:Code)(tm:List U)(σ:Sg):Prop :=
 ∀F x0 m0 w0 x tv m w a,x0.σ.nx=n0->n0<=σ.nx->x.σ=σ->St F x tm tv m w a->bD m0 x0.s w0 m x.s w->Ke n0 x0 x->a.defers=[]->c.wpIn (lT none) 0 P (bodyPostDIn (lT none) 0 P fn (IV F R x0 m0 w0)) a w
theorem aY.of_bodyD{f:FuncId}{fn:Func}{c:Code}{args:List U}{σ:Sg}{R:U->Sg->Prop}(hf:T.fn f=some fn)(hb:fn.body=some c)
  (h:uI P T fn σ.nx R c (vS fn.ntmps args) σ):aY P f args σ R:=fun F x vs m w cargs hx hh hfr he hfit hargs=>by
 obtain⟨tH,_⟩:=hT.fn f fn hf;have hcl:cargs.length=vs.length:=by rw[<-hargs.at];simp
 refine(callsIn_wide (n:=0)).1 (callsIn_of_wp_defers (F:=lT none) tH hb trivial ?_);have hact:rZ m x.s.nx (pad fn.ntmps vs) { tmps:=cargs.toArray++Array.replicate (fn.ntmps-cargs.toArray.size) undef,defers:=[] }:=fun m' hm'=>by simp only[Ue,tD,hargs m' hm',hcl,List.size_toArray];apply Array.ext';simp[jX,aD,undef]
 exact h F x m w x _ m w _ (by rw[hx]) (zF _) hx ⟨hh,hfr,ZT _ he,hfit,hact⟩ (bD.refl hfit) (Ke.refl _ _) rfl
variable{fn:Func}{n0:Nat}{R:U->Sg->Prop}{tm:List U}{σ:Sg}
omit hT in
theorem uI.ghost{c:Code}{tm':List U}{σ':Sg}(h:Gh n0 tm σ tm' σ')(hn':n0<=σ'.nx)(hw:uI P T fn n0 R c tm' σ'):uI P T fn n0 R c tm σ:=fun F x0 m0 w0 x tv m w a rJ hn hx st hadv hke hd=>by
 obtain⟨y,h1,h2,h3,h4,h5,h6⟩:=h F x tv hx st.h st.fr st.e;have hadv1:=h1 m w st.fits;exact hw F x0 m0 w0 y tv m w a rJ hn' h2 ⟨h3,h4,h5,hadv1.fits,st.act.ext hadv1.agree hadv1.nx⟩ (hadv.trans hadv1) (hke.trans h6) hd
theorem uI.seq{p q:Code}(h:WPU (PG.of P) n0 p tm σ (wY (fun tm' σ'=>uI P T fn n0 R q tm' σ') (fun e tm' σ'=>e=.ret/\TN T fn.results.toList n0 R tm' σ'))):uI P T fn n0 R (.seq p q) tm σ:=fun F x0 m0 w0 x tv m w a rJ hn hx st hadv hke hd=>by
 refine wpIn_seq (wpIn_mono (h hn F x tv m w a 0 hx st ⟨Nat.zero_le _,trivial⟩ ⟨fun _=>rfl,fun h=>by cases h⟩ none trivial) ?_);rintro e a' w' ⟨y,tm',tv',m',hq,st',hadv',hke',hn',hdf⟩;have hdf':a'.defers=[]:=(hdf.eq rfl).trans hd;cases e with
 |normal=>exact hq F x0 m0 w0 y tv' m' w' a' rJ hn' rfl st' (hadv.trans hadv') (hke.trans hke') hdf'|ret=>obtain⟨_,hend⟩:=hq;subst rJ;show LeavesIn _ _ _ _ _ _ a'.defers _ _;rw[hdf'];exact vn hT (fn:=fn) st' (hadv.trans hadv') (hke.trans hke') hend
 |exit id=>cases hq.1|goto l=>cases hq.1
 |panic ch=>cases hq.1|outgrown=>cases hq.1
abbrev N0(P:Program)(T:Tb)(rs:List ResultVar)(n0:Nat)(R:U->Sg->Prop)(g:FuncId)(dus:List U)(tm:List U)(σ:Sg):Prop :=
 ∃fd cd,T.fn g=some fd/\fd.body=some cd/\WPU (PG.of P) σ.nx cd (vS fd.ntmps dus) σ (fun e tm' σ'=>(e=.normal\/e=.ret)/\(∃l,lR T σ' tm' fd.results.toList=some l)/\TN T rs n0 R tm σ')
theorem uI.clos{c:Code}{g:FuncId}{dus:List U}(hd0:n0<=σ.nx)(h:WPU (PG.of P) σ.nx c tm σ (fun e tm' σ'=>(e=.normal\/e=.ret)/\N0 P T fn.results.toList n0 R g dus tm' σ')):
  ∀F x0 m0 w0 x tv m w a fv cap dargs cargs vs,x0.σ.nx=n0->x.σ=σ->St F x tm tv m w a->bD m0 x0.s w0 m x.s w->Ke n0 x0 x->a.defers=[{ target:=.fn fv cap,args:=dargs }]->(∀w',(invoke (.fn fv cap) dargs).run P w'=.ok (.enter g cargs.toArray) w')->aX x dus vs->kN m x.s.nx vs cargs->
   c.wpIn (lT none) 0 P (bodyPostDIn (lT none) 0 P fn (IV F R x0 m0 w0)) a w:=fun F x0 m0 w0 x tv m w a fv cap dargs cargs vs rJ hx st hadv hke hd hinv hdu hdl=>by
 refine wpIn_mono (h (zF _) F x tv m w a 0 hx st ⟨Nat.zero_le _,trivial⟩ ⟨fun _=>rfl,fun h=>by cases h⟩ none trivial) ?_;rintro e a' w' ⟨y,tm',tv',m',⟨hex,fd,cd,hfd,hcd,hclos⟩,st',hadv',hke',hn',hdf⟩;have hdf':a'.defers=[{ target:=.fn fv cap,args:=dargs }]:=(hdf.eq rfl).trans hd;subst hx;have hdu':aX y dus vs:=hke'.E hdu.bel hdu;have hdl':kN m' y.s.nx vs cargs:=fun m'' hm''=>hdl m'' ((hadv'.agree).trans hm'' hadv'.nx);obtain⟨Sy,_⟩:=hT.fn g fd hfd;have hcl:cargs.length=vs.length:=by rw[<-hdl.at];simp
 have hact:rZ m' y.s.nx (pad fd.ntmps vs) { tmps:=cargs.toArray++Array.replicate (fd.ntmps-cargs.toArray.size) undef,defers:=[] }:=fun m'' hm''=>by simp only[Ue,tD,hdl' m'' hm'',hcl,List.size_toArray];apply Array.ext';simp[jX,aD,undef]
 have key:LeavesIn (lT none) 0 P fn a'.tmps (IV F R x0 m0 w0) a'.defers .returning w':=by
  rw[hdf'];refine leavesIn_cons (by simp) (fun h=>by simp[lT,Fence.wide]at h) (hinv w') (fun _ _=>trivial) ?_;refine(callsDIn_of_wp (R:=fun e w''=>∃v,e=.returned v/\∃v',(results fn a'.tmps).run P w''=.ok v' w''/\IV F R x0 m0 w0 (.returned v') w'') Sy hcd trivial ?_).mono ?_;refine wpIn_mono (hclos (zF _) F y _ m' w' _ 0 rfl ⟨st'.h,st'.fr,ZT _ hdu',st'.fits,hact⟩ ⟨Nat.zero_le _,trivial⟩ ⟨fun _=>rfl,fun h=>by cases h⟩ none trivial) ?_;rintro e1 a1 w1 ⟨z,OA,tv1,m1,⟨zt,⟨l1,xW⟩,hend⟩,G6,hadv1,Gl,LJ,zy⟩;have Gp:a1.defers=[]:=zy.eq rfl;obtain⟨ls1,hres1,_⟩:=ZQ G6.h G6.e xW;have hrun1:(results fd a1.tmps).run P w1=.ok (aD m1 (rV ls1)) w1:=by rw[G6.act m1 (aH.refl _ _)];exact Ym hT (G6.fits m1 (aH.refl _ _)) hres1
  subst rJ;have hst:St F z tm' tv' m1 w1 a':=⟨G6.h,G6.fr,Gl.E st'.e.bel st'.e,G6.fits,st'.act.ext hadv1.agree hadv1.nx⟩;have hk:=vn hT (fn:=fn) hst ((hadv.trans hadv').trans hadv1) ((hke.trans (hke'.le hd0)).trans (Gl.le (Nat.le_trans hd0 hn'))) hend;have hp:bodyPost P fd (fun e w''=>∃v,e=.returned v/\∃v',(results fn a'.tmps).run P w''=.ok v' w''/\IV F R x0 m0 w0 (.returned v') w'') .ret a1 w1:=⟨Gp,_,hrun1,_,rfl,hk⟩;rcases zt with rfl |rfl;exact hp;exact hp;rintro e1 u1 w1 ⟨rfl,v,rfl,hk⟩;exact hk
 rcases hex with rfl |rfl;exact key;exact key
omit hT in
theorem OS{C:PG}(hT:iW C.prog T)(ops:Array Oper)(E:Exit->Act->World->Prop)(L:List Nat)(tail:List Oper){F:Nat->iZ->Prop}{x0:Cx}{m0:Nm}{w0:World}{df:List Deferred}(K:List U->Sg->Prop)(v8:MY C n0 x0 m0 w0)(tH:fK m0 x0.s w0)(ro:Option Nat)(hro:C.ro ro):
  ∀(rest:List Oper)(i:Nat),ops.toList.drop i=rest++tail->∀(x:Cx)(tm:List U)(tv:List Value)(m:Nm)(w:World)(a:Act),St F x tm tv m w a->a.defers=df->bD m0 x0.s w0 m x.s w->Ke n0 x0 x->n0<=x.σ.nx->RU C T ops.toList rest tm x.σ K->
   (∀y tm' tv' m' w' a',K tm' y.σ->St F y tm' tv' m' w' a'->bD m0 x0.s w0 m' y.s w'->Ke n0 x0 y->n0<=y.σ.nx->a'.defers=df->wpOpsIn (lT ro) 0 C.prog ops E L a' w')->wpOpsIn (lT ro) 0 C.prog ops E (List.range' i rest.length++L) a w
 |[],i,_,x,tm,tv,m,w,a,st,hd,hadv,hke,hn,h,hQ=>by simp only[zS,List.range'_zero,List.nil_append];exact hQ x tm tv m w a h st hadv hke hn hd
 |o::rest,i,hdr,x,tm,tv,m,w,a,st,hd,hadv,hke,hn,h,hQ=>by
  have ho:ops[i]? = some o:=by have:=congrArg (fun l=>l[0]?) hdr;simpa using this
  have hd':ops.toList.drop (i+1)=rest++tail:=by have:=congrArg List.tail hdr;simpa using this
  simp only[zO,List.range'_succ,List.cons_append,wpOpsIn,ho,Ar (st.act m (aH.refl _ _)) ops o];simp only[RU]at h;rcases h with⟨hw,u,σ',h1,h2⟩|⟨hw,f,args,R,h1,h2,h3⟩|⟨hw,h1⟩|⟨hw,t,xo,yo,ty,e,b,l,h1,h2,h3,h4,h5⟩|⟨hw,R,h1,h2⟩;rw[qP st.e hw];simp only[if_true];refine tZ (GF h1) (st.op hT o h1 fun y tv' aC w₁ aV e1 st' hadv' hke' hnx hdf=>?_);exact OS hT ops E L tail K v8 tH ro hro rest (i+1) hd' y _ tv' aC w₁ aV st' (hdf.trans hd) (hadv.trans hadv') (hke.trans (hke'.le hn)) (by omega) (e1 ▸ h2) hQ;rw[qP st.e hw];simp only[if_true];refine tZ (An h1) (st.call hT o h1 h2 fun y u tv' aC w₁ aV hR st' hadv' hke' hnx hdf=>?_);exact OS hT ops E L tail K v8 tH ro hro rest (i+1) hd' y _ tv' aC w₁ aV st' (hdf.trans hd) (hadv.trans hadv') (hke.trans (hke'.le hn)) (by omega) (h3 u y.σ hR) hQ;rw[qP st.e hw];simp only[Bool.false_eq_true,if_false];exact⟨fun _ _=>trivial,OS hT ops E L tail K v8 tH ro hro rest (i+1) hd' x _ _ m w _ (st.skip o.dst) ((H8 _ _ _).trans hd) hadv hke hn h1 hQ⟩;rw[qP st.e hw];simp only[if_true];refine tZ (by rw[h1];intro c hc;cases hc) (st.nilq hT o h1 h2 h3 h4 fun z y tv' aC w₁ aV hz e1 st' hadv' hke' hnx hdf=>?_);exact OS hT ops E L tail K v8 tH ro hro rest (i+1) hd' y _ tv' aC w₁ aV st' (hdf.trans hd) (hadv.trans hadv') (hke.trans (hke'.le hn)) (by omega) (e1 ▸ h5 z hz) hQ;rw[qP st.e hw];simp only[if_true];refine h1 F x tv m w a _ _ rfl st ⟨Nat.le_trans v8.nb hn,(v8.adv tH hadv hke).g⟩ (fun u y tv' aC w₁ aV hR st' hadv' hke' hnx hdf=>?_) ro hro;exact OS hT ops E L tail K v8 tH ro hro rest (i+1) hd' y _ tv' aC w₁ aV st' (hdf.trans hd) (hadv.trans hadv') (hke.trans (hke'.le hn)) (by omega) (h2 u y.σ hR) hQ
theorem uI.dfr{id:Nat}{ops:Array Oper}{q:Code}(k:Nat){o:Oper}{c:Call}(hk:ops.toList[k]? = some o)(ho:o.op=.defer c)(hg:o.guard=none)(hds:o.dst=none)
  (h:RU (PG.of P) T ops.toList (ops.toList.take k) tm σ (fun OA σ1=>∃g dus,i9 T OA (.call c)=some (g,dus)/\RU (PG.of P) T ops.toList (ops.toList.drop (k+1)) OA σ1 (fun Va IQ=>σ1=IQ/\WPU (PG.of P) IQ.nx q Va IQ (fun e tm' σ'=>(e=.normal\/e=.ret)/\N0 P T fn.results.toList n0 R g dus tm' σ')))):
  uI P T fn n0 R (.seq (.region id ops false) q) tm σ:=fun F x0 m0 w0 x tv m w a rJ hn hx st hadv hke hd=>by
 subst hx;obtain⟨hkl,hko⟩:=zG.1 hk;have hops:ops.toList=ops.toList.take k++o::ops.toList.drop (k+1):=by rw[<-hko,<-List.drop_eq_getElem_cons hkl,List.take_append_drop]
 generalize ops.toList.take k=pre at h hops;generalize ops.toList.drop (k+1)=post at h hops;refine wpIn_seq (wpIn_region ?_);rw[List.range_eq_range'];have hsz:ops.size=pre.length+(post.length+1):=by have:=congrArg List.length hops;simpa using this
 have hrg:List.range' 0 ops.size=List.range' 0 pre.length++(pre.length::List.range' (pre.length+1) post.length):=by rw[hsz,<-List.range'_append_1 (s:=0),Nat.zero_add,List.range'_succ]
 rw[hrg];refine OS (C:=PG.of P) (n0:=n0) hT ops _ _ (o::post) (F:=F) (x0:=x) (m0:=m) (w0:=w) (df:=a.defers) _ ⟨Nat.zero_le _,trivial⟩ st.fits none trivial pre 0 (by simpa using hops) x tm tv m w a st rfl (bD.refl st.fits) (Ke.refl _ _) hn h ?_;rintro y tm' tv' m' w' a' ⟨g,dus,hcall,hpost⟩ st' hadv' hke' hn' hdf';have hoi:ops[pre.length]? = some o:=by
  have:ops.toList[pre.length]? = some o:=by rw[hops];simp
  simpa using this
 have hwant:Region.wanted o (yielded ops a'.tmps)=true:=by simp[Region.wanted,hg]
 simp only[wpOpsIn,hoi,hwant,if_true];obtain⟨vs,h1,h2⟩:=br st'.e hcall;obtain⟨fv,cap,dargs,cargs,e1,e2,e3⟩:=z6i hT st'.act o ho w' h1;refine⟨fun _ _=>trivial,?_⟩;have e4:(o.semAt (lT none).round a'.eval)=execOp a'.eval o:=Oper.semAt_none _ _;rw[e4,e1];rw[Oper.uponIn_defer];rw[hds];have G6:St F y tm' tv' m' w' (({ a' with defers:=({ target:=.fn fv cap,args:=dargs }:Deferred)::a'.defers }:Act).put none undef):=
  ⟨st'.h,st'.fr,st'.e,st'.fits,fun m'' hm''=>st'.act m'' hm''⟩
 have key:=OS (C:=PG.of P) (n0:=y.σ.nx) hT ops (Exit.then (Code.wpIn (lT none) 0 P q (bodyPostDIn (lT none) 0 P fn (IV F R x0 m0 w0))) (bodyPostDIn (lT none) 0 P fn (IV F R x0 m0 w0))) [] [] (F:=F) (x0:=y) (m0:=m') (w0:=w') (df:={ target:=.fn fv cap,args:=dargs }::a'.defers) _ ⟨Nat.zero_le _,trivial⟩ st'.fits none trivial post (pre.length+1) (by rw[hops];simp) y _ _ m' w' _ G6 (H8 _ _ _) (bD.refl st'.fits) (Ke.refl _ _) (zF _) hpost ?_;rw[List.append_nil]at key;exact key;rintro z Va tv2 m2 w2 a2 ⟨hσ,hw⟩ JD hadv2 CP RP zx;simp only[wpOpsIn];refine uI.clos hT (tm:=Va) (σ:=z.σ) (fn:=fn) (n0:=n0) (R:=R) (by rw[<-hσ];exact hn') hw F x0 m0 w0 z tv2 m2 w2 a2 fv cap dargs cargs vs rJ rfl JD ((hadv.trans hadv').trans hadv2) ((hke.trans hke').trans (CP.le hn')) (by rw[zx,hdf',hd]) e2 (CP.E h2.bel h2) (fun m'' hm''=>e3 m'' (hadv2.agree.trans hm'' hadv2.nx))
end
class TbP(P:Program)(T:outParam Tb):Prop where
 ok:iW P T
class Ti(C:PG)(T:outParam Tb):Prop where
 ok:iW C.prog T
instance{P:Program}{T:Tb}[h:TbP P T]:Ti (PG.of P) T:=⟨h.ok⟩
section
variable{P:Program}{T:Tb}{ops r:List Oper}{o:Oper}{n:Nat}{l:List (Nat×U)}{σ σ':Sg}{u:U}
theorem aJ{C:PG}{K:List U->Sg->Prop}{d:Tmp}(he:o.dst=some d)(h:bB T σ (fr n l) o.op=some (u,σ'))(hk:RU C T ops r (fr n ((d,u)::l)) σ' K)(hw:bW ops (fr n l) o=some true:=by exact rfl)(hd:Nat.blt d n=true:=by exact rfl):RU C T ops (o::r) (fr n l) σ K:=RS.op hw h he hd hk
theorem aM{acc:List RK}{K:List RK->List U->Sg->Prop}{d:Tmp}(he:o.dst=some d)(h:bB T σ (fr n l) o.op=some (u,σ))(hk:RH P T ops r (fr n ((d,u)::l)) σ ((1,⟨fr n l,o,u,false,false,σ,σ⟩)::acc) K)(hw:bW ops (fr n l) o=some true:=by exact rfl)(hd:Nat.blt d n=true:=by exact rfl):RH P T ops (o::r) (fr n l) σ acc K:=RD.look hw h he hd hk
end
theorem st{A B:Prop}(h:B)(g:B->A:=by intro h;(repeat refine Go.Vx.gq ?_);(repeat refine Go.Vx.sq ?_);exact h):A:=g h
variable{n:Nat}
theorem zb2{F:Nat->iZ->Prop}{y:Cx}{K:Nat}{l:List U}{e:TypeId}{sz t:Nat}{h:List (Nat×B)}(hy:y.σ=⟨(K,.vec l e sz t)::h,K+1⟩)(hh:iC y)(hf:Fr F y)(hb:∀k b,gt h k=some b->k<K/\kH K b)(hl:aG 0 l):
  ∃y':Cx,y'.σ=⟨(K,.vec l e sz 0)::h,K+1⟩/\y'.s=y.s/\iC y'/\Fr F y'/\Ke K y y'/\∀v,aA y (.vl K t 0 n) v->aA y' (.vl K 0 0 n) v:=by
 have gy:∀j,gt y.σ.h j=if K=j then some (.vec l e sz t)else gt h j:=fun j=>by rw[hy];exact d8 _ _ _ _
 have gy':∀j,gt ((K,B.vec l e sz 0)::h) j=if K=j then some (.vec l e sz 0)else gt h j:=fun j=>d8 _ _ _ _;have hnx:y.σ.nx=K+1:=by rw[hy]
 let y':Cx:=⟨y.ρ,⟨(K,.vec l e sz 0)::h,K+1⟩,y.s⟩
 have hmo:Mo K y y':=by refine⟨fun j h1 h2=>⟨by show j<K+1;omega,fun b' hb'=>?_⟩,fun _ _ _ h=>h⟩;have nJ:gt ((K,B.vec l e sz 0)::h) j=some b':=hb';rw[gy',if_neg (by omega)]at nJ;exact⟨b',by rw[gy,if_neg (by omega)];exact nJ,zF _,fun _=>⟨rfl,fun l e sz st h=>⟨l,h⟩⟩⟩
 refine⟨y',rfl,rfl,⟨fun j b hbj=>?_,fun j j' b b' i hbj hbj' h1 h2=>?_,hh.bd⟩,fun i b J=>?_,hmo.ke,fun v hv=>?_⟩;have nJ:gt ((K,B.vec l e sz 0)::h) j=some b:=hbj;rw[gy']at nJ;by_cases e1:K=j;subst e1;rw[if_pos rfl]at nJ;cases nJ;refine⟨by show K<K+1;omega,?_⟩;obtain⟨_,q1,q2,q3⟩:=hh.ok K (.vec l e sz t) (by rw[gy,if_pos rfl]);refine⟨q1,q2,?_⟩;rcases q3 with q3 |⟨i,l',r1,r2,r3⟩;exact .inl q3;exact .inr ⟨i,l',r1,r2,hmo.ke.E (aG.le (Nat.zero_le _) l hl) r3⟩;rw[if_neg e1]at nJ;obtain⟨h1,h2⟩:=hb j b nJ;refine⟨by show j<K+1;omega,?_⟩;exact(hh.ok j b (by rw[gy,if_neg e1];exact nJ)).2.monoB h2 hmo rfl fun _ _ _ h=>h
 have key:∀j b,gt ((K,B.vec l e sz 0)::h) j=some b->∃c,gt y.σ.h j=some c:=fun j b hb=>by rw[gy']at hb;by_cases e1:K=j;exact⟨_,by rw[gy,if_pos e1]⟩;rw[if_neg e1]at hb;exact⟨b,by rw[gy,if_neg e1];exact hb⟩
 obtain⟨c,g1⟩:=key j b hbj;obtain⟨c',g2⟩:=key j' b' hbj';exact hh.inj j j' c c' i g1 g2 h1 h2;obtain⟨h1,h2⟩:=hf i b J;refine⟨h1,fun j c hc=>?_⟩;have RY:gt ((K,B.vec l e sz 0)::h) j=some c:=hc;rw[gy']at RY;by_cases e1:K=j;exact h2 j _ (by rw[gy,if_pos e1]);rw[if_neg e1]at RY;exact h2 j c (by rw[gy,if_neg e1];exact RY);simp only[aA]at hv ⊢;refine⟨hv.1,by show K<K+1;omega,fun b hb=>?_⟩;have nJ:gt ((K,B.vec l e sz 0)::h) K=some b:=hb;rw[gy',if_pos rfl]at nJ;cases nJ;obtain⟨_,g2⟩:=hv.2.2 (.vec l e sz t) (by rw[gy,if_pos rfl]);obtain⟨l2,e2,sz2,g3,g4⟩:=g2 rfl;cases g3;exact⟨zF _,fun _=>⟨l,e,sz,rfl,g4⟩⟩
theorem Kb{α:Type}(c:α->List U){P:Program}{f:FuncId}{ys:List α}{e:TypeId}{sz:Nat}{as:List U}[hc:BF c][ha:dQ 0 as]{k:Nat}
  (h:aY P f as ⟨[],0⟩ (fun u σ'=>∃t',u=.vl k t' 0 ys.length/\σ'=⟨[(k,.vec (ys.map c).flatten e sz t')],k+1⟩))
  (σ:Sg) (K:Nat) (hK:σ.nx+k=K):
  aY P f as σ (fun u σ'=>u=.vl K 0 0 ys.length/\σ'=⟨(K,.vec (ys.map c).flatten e sz 0)::σ.h,K+1⟩):=fun F x vs m w cargs hx hh hfr he hfit hargs=>by
 have h1:=aY.own1 c h σ K hK;refine(h1 F x vs m w cargs hx hh hfr he hfit hargs).mono ?_;rintro e' w₁ ⟨y,aC,u,v,cv,q1,⟨t',rfl,q3⟩,q4,q5,q6,q7,q8,q9,q10⟩;obtain⟨y',z1,z2,z3,z4,z5,z6⟩:=zb2 (F:=F) q3 q6 q7 (fun k b hb=>by
  have:=hh.ok k b (by rw[hx];exact hb);rw[hx]at this;refine⟨by omega,?_⟩;have hbel:=this.2.belB;rw[hx]at hbel;cases b with
  |row l e=>exact aG.le (by omega) l hbel|vec l e s st=>exact aG.le (by omega) l hbel
  |map es cl=>exact fun e he=>⟨aU.le (by omega) _ (hbel e he).1,aU.le (by omega) _ (hbel e he).2⟩) (uT 0 (hc.h 0) ys)
 exact⟨y',aC,_,v,cv,q1,⟨rfl,z1⟩,by rw[z2];exact q4,by rw[z2];exact q5,z3,z4,z6 v q8,q9.trans (z5.le (by rw[hx];omega)),by rw[z1,hx];show σ.nx<=K+1;omega⟩
theorem vE{P:Program}{T:Tb}{ops r:List Oper}{o:Oper}{l:List (Nat×U)}{σ σ1:Sg}{acc:List RK}{K:List RK->List U->Sg->Prop}{u:U}{f:FuncId}{args:List U}(hw:bW ops (fr n l) o=some true)(hc:i9 T (fr n l) o.op=some (f,args))(hev:aY P f args σ (fun u' σ'=>u'=u/\σ'=σ1)){d:Tmp}(he:o.dst=some d)(hd:Nat.blt d n=true)
  (hk:RH P T ops r (fr n ((d,u)::l)) σ1 ((3,⟨fr n l,o,u,true,true,σ,σ1⟩)::acc) K):RH P T ops (o::r) (fr n l) σ acc K :=
 RH.callM hw hc hev (by rw[he,oL (d:=some d) u hd];exact hk)
def yN(k:IntKind)(a b:Int):Int:=k.wrap (BitVec.ofInt k.bits a&&&BitVec.ofInt k.bits b).toNat
def X7(k:IntKind)(a b:Int):Int:=k.wrap (BitVec.ofInt k.bits a|||BitVec.ofInt k.bits b).toNat
def JX(k:IntKind)(a b:Int):Int:=k.wrap (BitVec.ofInt k.bits a &&& ~~~ BitVec.ofInt k.bits b).toNat
theorem te(k:IntKind)(a b:Int):iG .andNot k a k b=some (.int k (JX k a b)):=by simp[iG,JX]
theorem Uj(k:IntKind)(a b:Int):iG .and k a k b=some (.int k (yN k a b)):=by simp[iG,yN]
theorem Fh(k:IntKind)(a b:Int):iG .or k a k b=some (.int k (X7 k a b)):=by simp[iG,X7]
def OL(s:List UInt8)(i:Int):Option Int:=if 0<=i/\i<(s.length:Int)then(s[i.toNat]?).map fun b=>(b.toNat:Int)else none
theorem Vw{T:Tb}{σ:Sg}{l:List (Nat×U)}{t:TypeId}{x y:Operand}{s:List UInt8}{k:IntKind}{i z:Int}(hd:T.und t=some .string)(hx:bO n l x=some (.str s))(hy:bO n l y=some (.int k i))(h:OL s i=some z):bB T σ (fr n l) (.index t x y)=some (.int .u8 z,σ):=by
 unfold OL at h;split at h;rename_i hp;rcases hb:s[i.toNat]? with _|b;rw[hb]at h;cases h;rw[hb]at h;simp only[zM,zA]at h;subst h;have e1:o4 i s.length=true:=GL hp;refine qI ?_;simp only[eU,dY hx,dY hy,Ll,g2,toV,OY,hd,e1,zC,gG,hb,fU];cases h
theorem aY.viewT{P:Program}{f:FuncId}{args args':List U}{σ:Sg}{us:List U}{rs:List Value}(h:aY P f args ⟨[],0⟩ (fun u' _=>u'=.tup us/\aU 0 u'))(ha:aG 0 args)(hu:dK us=some rs)(hren:∀m,aE m rs=rs){σ1:Sg}(hg:Gh 0 args' σ args σ1):aY P f args' σ (fun u' σ'=>u'=.tup us/\σ'=σ):=fun F x vs m w cargs hx hh hfr he hfit hargs=>by
 obtain⟨y1,a1,a2,a3,a4,a5,a6⟩:=hg F x vs hx hh hfr he;have hadv1:=a1 m w hfit;have hadv2:=bD.less hadv1.fits (X' y1.s);have hmo:Mo 0 y1 (cx (wZ y1.s)):=⟨fun k hk=>by omega,fun i row e hl=>by show lk (wZ y1.s).h i=_;rw[PC,hl];rfl⟩;have hno:∀b,¬ IW m (wZ y1.s) b:=fun b ⟨i,c,hc,ho,_⟩=>by rw[PC]at hc;obtain⟨_,l,e,rfl⟩:=Az hc;simp[Rx.Own]at ho
 refine(h (fun _ _=>False) (cx (wZ y1.s)) vs m w cargs rfl ⟨fun k b hb=>by simp[cx,gt]at hb,fun k k' b b' i hb=>by simp[cx,gt]at hb,fun i b hb=>?_⟩ (fun _ _ J=>J.elim) (hmo.ke.E ha a5) hadv2.fits (hargs.ext (aH.refl _ _) (Nat.le_trans hadv1.nx hadv2.nx))).mono ?_;have hb':lk (wZ y1.s).h i=some b:=hb;rw[PC]at hb';exact a3.bd i b (Az hb').1;rintro e lD ⟨y2,xP,u',v',cv,rfl,⟨rfl,_⟩,hadv,hrel,_,_,hru,_,_⟩;simp only[aA]at hru;obtain⟨E8,rfl,zf,zd⟩:=hru;have hv:=(A3 us rs hu y2 E8).1 ⟨zf,zd⟩;subst hv;have hcv:cv=.tuple ⟨E8⟩:=by rw[<-hrel.at];simp only[aD,fQ,hren]
 subst hcv;have hsame:∀b,b<w.heap.size->lD.heap[b]? = w.heap[b]?:=fun b hlt=>hadv.same b hlt (hno b);refine⟨x,m,.tup us,.tuple ⟨E8⟩,.tuple ⟨E8⟩,rfl,⟨rfl,hx⟩,⟨aH.refl _ _,zF _,fun m' hm'=>?_,fun b h=>.inl h,fun b hlt _=>hsame b hlt,hadv.size,hadv.os,hadv.tape,hadv.output⟩,fun m' _=>by simp only[aD,fQ,hren],hh,hfr,by simp only[aA];exact⟨E8,rfl,((A3 us E8 hu x E8).2 rfl).1,((A3 us E8 hu x E8).2 rfl).2⟩,Ke.refl _ _,zF _⟩;have hfm:=hfit m' hm';exact⟨fun i b hb=>(hfm.ok i b hb).world (hsame _ (hfm.size hb)),hfm.inj,hfm.bd⟩
class eO{α:Type}(c:α->List U)(n:outParam Nat):Prop where
 h:∀x,(c x).length=n
instance(k:IntKind):eO (cI k) 1:=⟨jD k⟩
instance:eO cS 1:=⟨GK⟩
instance{α:Type}(c:α->List U):eO (cL c) 1:=⟨JT c⟩
abbrev U.iM{α:Type}(c:α->List U)(l:List α):U:=.isl false (l.map c)
abbrev U.i6(z:Int):U:=.int .i64 z
variable{P:Program}
variable{f:FuncId}
variable{args:List U}
variable{u:U}
theorem pC(h:aY P f args ⟨[],0⟩ (fun u' _=>u'=u/\aU 0 u'))[q:dQ 0 args](σ:Sg):aY P f args σ (fun u' σ'=>u'=u/\σ'=σ):=Ts h σ
theorem sI{α:Type}{a b:α}(h:some a=some b):a=b:=Option.some.inj h
class Nq(a b:Nat):Prop where
 h:Nat.beq a b=false
instance{b:Nat}:Nq 0 (b+1):=⟨rfl⟩
instance{b:Nat}:Nq (b+1) 0:=⟨rfl⟩
instance{a b:Nat}[q:Nq a b]:Nq (a+1) (b+1):=⟨q.h⟩
class vD(h:List (Nat×B))(K:Nat)(b:outParam B):Prop where
 h:gt h K=some b
instance(priority:=low){K k:Nat}{x b:B}{t:List (Nat×B)}[n:Nq k K][g:vD t K b]:vD ((k,x)::t) K b:=⟨by simp only[gt,n.h,zD,g.h]⟩
instance{K:Nat}{b:B}{t:List (Nat×B)}:vD ((K,b)::t) K b:=⟨by simp[gt]⟩
class Jv(b:B):Prop where
 h:∀es cl,b≠.map es cl
instance{l:List U}{e:TypeId}:Jv (.row l e):=⟨fun _ _=>nofun⟩
instance{l:List U}{e:TypeId}{s t:Nat}:Jv (.vec l e s t):=⟨fun _ _=>nofun⟩
class Ck(n sz:Nat)(l:List U)(r:outParam (List (List U))):Prop where
 h:n*sz<=l.length
 e:bT sz n l=r
instance{s:Nat}{l:List U}:Ck 0 s l []:=⟨by omega,by simp[bT]⟩
instance{n:Nat}{a:U}{l:List U}{r:List (List U)}[q:Ck n 1 l r]:Ck (n+1) 1 (a::l) ([a]::r):=⟨by have:=q.h;simp;omega,by have:=q.e;simp[bT,this]⟩
instance{n:Nat}{a b:U}{l:List U}{r:List (List U)}[q:Ck n 2 l r]:Ck (n+1) 2 (a::b::l) ([a,b]::r):=⟨by have:=q.h;simp;omega,by have:=q.e;simp[bT,this]⟩
instance{n:Nat}{a b c:U}{l:List U}{r:List (List U)}[q:Ck n 3 l r]:Ck (n+1) 3 (a::b::c::l) ([a,b,c]::r):=⟨by have:=q.h;simp;omega,by have:=q.e;simp[bT,this]⟩
instance(priority:=low){α:Type}{c:α->List U}{x:α}{sz:Nat}[q:eO c sz]:Ck 1 sz (c x) [c x]:=⟨by have:=q.h x;omega,by have:=q.h x;simp[bT,<-this]⟩
class qD(K:Nat)(b:B)(sz:Nat)(u:U)(u':outParam U):Prop where
 h:fz K b sz u=u'
class DQ(K:Nat)(b:B)(sz:Nat)(l:List U)(l':outParam (List U)):Prop where
 h:hJ K b sz l=l'
section
variable{K:Nat}{b:B}{sz:Nat}
instance(priority:=low){l:List U}[q:dQ K l]:DQ K b sz l l:=⟨oN b sz l q.h⟩
instance:DQ K b sz [] []:=⟨tC K b sz⟩
instance{u u':U}{l l':List U}[a:qD K b sz u u'][q:DQ K b sz l l']:DQ K b sz (u::l) (u'::l'):=⟨by rw[qO,a.h,q.h]⟩
instance{k:IntKind}{z:Int}:qD K b sz (.int k z) (.int k z):=⟨zE K b sz k z⟩
instance{x:Bool}:qD K b sz (.bool x) (.bool x):=⟨EL K b sz x⟩
instance{x:List UInt8}:qD K b sz (.str x) (.str x):=⟨EH K b sz x⟩
instance:qD K b sz .nils .nils:=⟨BR K b sz⟩
instance{t:Bool}{l:List (List U)}:qD K b sz (.isl t l) (.isl t l):=⟨EI K b sz t l⟩
instance{l l':List U}[q:DQ K b sz l l']:qD K b sz (.agg l) (.agg l'):=⟨by rw[BO,q.h]⟩
instance{l l':List U}[q:DQ K b sz l l']:qD K b sz (.tup l) (.tup l'):=⟨by rw[EG,q.h]⟩
instance{f:Fn}{a a' c c':List U}[q:DQ K b sz a a'][r:DQ K b sz c c']:qD K b sz (.fn f a c) (.fn f a' c'):=⟨by rw[EF,q.h,r.h]⟩
instance{k st off n:Nat}[q:Nq k K]:qD K b sz (.vl k st off n) (.vl k st off n):=⟨nW q.h b sz st off n⟩
instance{k off n c:Nat}[q:Nq k K]:qD K b sz (.sl k off n c) (.sl k off n c):=⟨pD q.h b sz off n c⟩
instance{k st off:Nat}[q:Nq k K]:qD K b sz (.ptr k st off) (.ptr k st off):=⟨pE q.h b sz st off⟩
end
instance{α:Type}{c:α->List U}{sz s K st:Nat}{l:List α}{e:TypeId}[q:eO c sz]:qD K (.vec (l.map c).flatten e sz st) s (.vl K st 0 l.length) (.isl false (l.map c)):=⟨XP q.h l K s e st⟩
instance{K sz n:Nat}{l:List U}{e:TypeId}{r:List (List U)}[q:Ck n sz l r]:qD K (.row l e) sz (.sl K 0 n n) (.isl false r):=⟨by rw[LS K l e sz n q.h,q.e]⟩
instance{K sz:Nat}{l:List U}{e:TypeId}:qD K (.row l e) sz (.ptr K 0 0) (.iptr l):=⟨Hh K l e sz⟩
instance{K sz:Nat}{b:B}{u u':U}[q:qD K b sz u u']:qD K b sz (mB [u]) u':=⟨q.h⟩
instance{K sz:Nat}{b:B}{u v u':U}{l:List U}[q:qD K b sz (.tup (u::v::l)) u']:qD K b sz (mB (u::v::l)) u':=⟨q.h⟩
class jk(K:Nat)(b:B)(sz:Nat)(x:B)(x':outParam B):Prop where
 h:sK K b sz x=x'
instance{K sz:Nat}{b:B}{l l':List U}{e:TypeId}[q:DQ K b sz l l']:jk K b sz (.row l e) (.row l' e):=⟨by rw[sK,q.h]⟩
instance{K sz:Nat}{b:B}{l l':List U}{e:TypeId}{s st:Nat}[q:DQ K b sz l l']:jk K b sz (.vec l e s st) (.vec l' e s st):=⟨by rw[sK,q.h]⟩
class MZ(K:Nat)(b:B)(sz:Nat)(h:List (Nat×B))(h':outParam (List (Nat×B))):Prop where
 h:nM K b sz h=h'
section
variable{K:Nat}{b:B}{sz:Nat}
instance:MZ K b sz [] []:=⟨rfl⟩
instance(priority:=low){k:Nat}{c c':B}{h h':List (Nat×B)}[n:Nq k K][p:jk K b sz c c'][q:MZ K b sz h h']:MZ K b sz ((k,c)::h) ((k,c')::h'):=⟨by simp only[nM,n.h,zD,p.h,q.h]⟩
instance{c:B}{h h':List (Nat×B)}[q:MZ K b sz h h']:MZ K b sz ((K,c)::h) h':=⟨by simp[nM,q.h]⟩
end
class Tn(K:Nat)(b:B)(sz:Nat)(l:List (Nat×U))(l':outParam (List (Nat×U))):Prop where
 h:fzS K b sz l=l'
instance{K:Nat}{b:B}{sz:Nat}:Tn K b sz [] []:=⟨rfl⟩
instance{K:Nat}{b:B}{sz i:Nat}{u u':U}{l l':List (Nat×U)}[a:qD K b sz u u'][q:Tn K b sz l l']:Tn K b sz ((i,u)::l) ((i,u')::l'):=⟨by rw[fzS,a.h,q.h]⟩
variable{n0:Nat}
variable{nx:Nat}
variable{h:List (Nat×B)}
variable{h':List (Nat×B)}
variable{b:B}
theorem jF{tm tm':List U}(K sz:Nat)[g:vD h K b][m:Jv b][t:DQ K b sz tm tm'][q:MZ K b sz h h']:Gh n0 tm ⟨h,nx⟩ tm' ⟨h',nx⟩:=Gh.fz K b sz g.h m.h t.h q.h
variable{n:Nat}
variable{l:List (Nat×U)}
variable{l':List (Nat×U)}
theorem AJ(K sz:Nat)[g:vD h K b][m:Jv b][t:Tn K b sz l l'][q:MZ K b sz h h']:Gh n0 (fr n l) ⟨h,nx⟩ (fr n l') ⟨h',nx⟩:=Gh.fzS K b sz g.h m.h t.h q.h
class TJ(h:List (Nat×B))(K:Nat)(b:B)(h':outParam (List (Nat×B))):Prop where
 h:ug h K b=h'
instance{K:Nat}{x b:B}{t:List (Nat×B)}:TJ ((K,x)::t) K b ((K,b)::t):=⟨by simp[ug]⟩
instance(priority:=low){K k:Nat}{x b:B}{t t':List (Nat×B)}[n:Nq k K][g:TJ t K b t']:TJ ((k,x)::t) K b ((k,x)::t'):=⟨by simp only[ug,n.h,zD,g.h]⟩
class MU(l:List U)(l':outParam (List U)):Prop where
 h:nO l l'
instance:MU [] []:=⟨.nil⟩
instance(priority:=low){u:U}{l l':List U}[q:MU l l']:MU (u::l) (u::l'):=⟨.cons (.refl _) q.h⟩
instance{l l':List U}[q:MU l l']:MU (.nils::l) (.isl false []::l'):=⟨.cons (.nil false) q.h⟩
theorem Gh.rowC{tm:List U}{q q':List U}{e:TypeId}(K:Nat)[g:vD h K (.row q e)][w:MU q q'][u:TJ h K (.row q' e) h'](hk:okL q'=true:=by exact rfl):Gh n0 tm ⟨h,nx⟩ tm ⟨h',nx⟩:=by
 have:=Gh.rowW (n0:=n0) (tm:=tm) (σ:=⟨h,nx⟩) g.h hk w.h;simp only[u.h]at this;exact this
theorem NZ:0<=n:=Nat.zero_le n
theorem NL{a b:Nat}(h:Nat.ble a b=true:=by exact rfl):a<=b:=zY h
theorem sB{a b:Nat}(h:Nat.ble a b=true):a<=b:=zY h
variable{T:Tb}
variable{fn:Func}
variable{k:Code}
variable{σ:Sg}
variable{R:U->Sg->Prop}
theorem xp[t:TbP P T](n:Nat)(hf:T.fn f=some fn)(h:WPU (PG.of P) σ.nx k (fr n []) σ fun e tm' σ'=>(e=.normal\/e=.ret)/\∃l,lR T σ' tm' fn.results.toList=some l/\∃u' bM,σ.nx<=bM.nx/\Gh σ.nx [mB l] σ' [u'] bM/\R u' bM)(hn:fn.ntmps=n:=by exact rfl)(hb:fn.body=some k:=by exact rfl)(hk:Nat.ble 0 n=true:=by exact rfl):aY P f [] σ R:=TP t.ok hf hb (bX (by rw[hn];exact FQ (sB hk)) (zF _) h)
theorem iA[t:TbP P T]{a:U}(n:Nat)(hf:T.fn f=some fn)(h:WPU (PG.of P) σ.nx k (fr n [(0,a)]) σ fun e tm' σ'=>(e=.normal\/e=.ret)/\∃l,lR T σ' tm' fn.results.toList=some l/\∃u' bM,σ.nx<=bM.nx/\Gh σ.nx [mB l] σ' [u'] bM/\R u' bM)(hn:fn.ntmps=n:=by exact rfl)(hb:fn.body=some k:=by exact rfl)(hk:Nat.ble 1 n=true:=by exact rfl):aY P f [a] σ R:=TP t.ok hf hb (bX (by rw[hn];exact FQ (sB hk)) (zF _) h)
theorem eW[t:TbP P T]{a b:U}(n:Nat)(hf:T.fn f=some fn)(h:WPU (PG.of P) σ.nx k (fr n [(0,a),(1,b)]) σ fun e tm' σ'=>(e=.normal\/e=.ret)/\∃l,lR T σ' tm' fn.results.toList=some l/\∃u' bM,σ.nx<=bM.nx/\Gh σ.nx [mB l] σ' [u'] bM/\R u' bM)(hn:fn.ntmps=n:=by exact rfl)(hb:fn.body=some k:=by exact rfl)(hk:Nat.ble 2 n=true:=by exact rfl):aY P f [a,b] σ R:=TP t.ok hf hb (bX (by rw[hn];exact FQ (sB hk)) (zF _) h)
variable{c:U}
theorem wC[t:TbP P T]{a b:U}(n:Nat)(hf:T.fn f=some fn)(h:WPU (PG.of P) σ.nx k (fr n [(0,a),(1,b),(2,c)]) σ fun e tm' σ'=>(e=.normal\/e=.ret)/\∃l,lR T σ' tm' fn.results.toList=some l/\∃u' bM,σ.nx<=bM.nx/\Gh σ.nx [mB l] σ' [u'] bM/\R u' bM)(hn:fn.ntmps=n:=by exact rfl)(hb:fn.body=some k:=by exact rfl)(hk:Nat.ble 3 n=true:=by exact rfl):aY P f [a,b,c] σ R:=TP t.ok hf hb (bX (by rw[hn];exact FQ (sB hk)) (zF _) h)
theorem xn[t:TbP P T]{a b d:U}(n:Nat)(hf:T.fn f=some fn)(h:WPU (PG.of P) σ.nx k (fr n [(0,a),(1,b),(2,c),(3,d)]) σ fun e tm' σ'=>(e=.normal\/e=.ret)/\∃l,lR T σ' tm' fn.results.toList=some l/\∃u' bM,σ.nx<=bM.nx/\Gh σ.nx [mB l] σ' [u'] bM/\R u' bM)(hn:fn.ntmps=n:=by exact rfl)(hb:fn.body=some k:=by exact rfl)(hk:Nat.ble 4 n=true:=by exact rfl):aY P f [a,b,c,d] σ R:=TP t.ok hf hb (bX (by rw[hn];exact FQ (sB hk)) (zF _) h)
theorem bg5[t:TbP P T]{a b d e:U}(n:Nat)(hf:T.fn f=some fn)(h:WPU (PG.of P) σ.nx k (fr n [(0,a),(1,b),(2,c),(3,d),(4,e)]) σ fun e tm' σ'=>(e=.normal\/e=.ret)/\∃l,lR T σ' tm' fn.results.toList=some l/\∃u' bM,σ.nx<=bM.nx/\Gh σ.nx [mB l] σ' [u'] bM/\R u' bM)(hn:fn.ntmps=n:=by exact rfl)(hb:fn.body=some k:=by exact rfl)(hk:Nat.ble 5 n=true:=by exact rfl):aY P f [a,b,c,d,e] σ R:=TP t.ok hf hb (bX (by rw[hn];exact FQ (sB hk)) (zF _) h)
class FO(u u':U):Prop where
 h:Wk u u'
class Js(l l':List U):Prop where
 h:nO l l'
instance(priority:=low){u:U}:FO u u:=⟨.refl u⟩
instance:FO .nils (.isl false []):=⟨.nil false⟩
instance{l l':List U}[q:Js l l']:FO (.agg l) (.agg l'):=⟨.agg q.h⟩
instance{l l':List U}[q:Js l l']:FO (.tup l) (.tup l'):=⟨.tup q.h⟩
instance{u u':U}[q:FO u u']:FO (mB [u]) u':=⟨q.h⟩
instance{u v u':U}{l:List U}[q:FO (.tup (u::v::l)) u']:FO (mB (u::v::l)) u':=⟨q.h⟩
instance:Js [] []:=⟨.nil⟩
instance{u u':U}{l l':List U}[a:FO u u'][q:Js l l']:Js (u::l) (u'::l'):=⟨.cons a.h q.h⟩
theorem lC{I:Nat->List U->Sg->Prop}{m n1:Nat}(hI:I m (fr n l') ⟨h',n1⟩)(ht:AK l l':=by((repeat refine⟨rfl,?_⟩);exact trivial))(hs:Vx.cut n1 h=h':=by exact rfl)(h1:n0<=n1:=by first |exact Nat.zero_le _ |exact zY rfl)(h2:n1<=nx:=by exact zY rfl)[hb:BS n1 l'][hh:BH n1 h']:∃n' tm' σ',n'<m+1/\I n' tm' σ'/\n0<=σ'.nx/\Gh n0 (fr n l) ⟨h,nx⟩ tm' σ':=⟨m,_,_,zN _,hI,h1,Gh.toC ht hs h1 h2⟩
theorem xC{E:List U->Sg->Prop}{n1:Nat}(hE:E (fr n l') ⟨h',n1⟩)(ht:AK l l':=by((repeat refine⟨rfl,?_⟩);exact trivial))(hs:Vx.cut n1 h=h':=by exact rfl)(h1:n0<=n1:=by first |exact Nat.zero_le _ |exact zY rfl)(h2:n1<=nx:=by exact zY rfl)[hb:BS n1 l'][hh:BH n1 h']:∃tm' σ',E tm' σ'/\n0<=σ'.nx/\Gh n0 (fr n l) ⟨h,nx⟩ tm' σ':=⟨_,_,hE,h1,Gh.toC ht hs h1 h2⟩
section
variable{T:Tb}{n:Nat}{l:List (Nat×U)}{σ:Sg}{rs:List ResultVar}
theorem rT{us:List U}(hr:lR T σ (fr n l) rs=some us)(hg:Gh 0 [mB us] σ [u] ⟨[],0⟩)[q:BU 0 u]:(Exit.ret=.normal\/Exit.ret=.ret)/\∃l',lR T σ (fr n l) rs=some l'/\∃u' bM,(⟨[],0⟩:Sg).nx<=bM.nx/\Gh (⟨[],0⟩:Sg).nx [mB l'] σ [u'] bM/\u'=u/\aU 0 u':=⟨.inr rfl,us,hr,u,⟨[],0⟩,zF _,hg,rfl,q.h⟩
theorem rt1{a:Tmp}{t:List ResultVar}{v:U}(ht:rs=.tmp a::t)(h:bO n l (.tmp a)=some v)(h0:t=[])(hu:v=u)[q:BU 0 u]:(Exit.ret=.normal\/Exit.ret=.ret)/\∃l',lR T σ (fr n l) rs=some l'/\∃u' bM,(⟨[],0⟩:Sg).nx<=bM.nx/\Gh (⟨[],0⟩:Sg).nx [mB l'] σ [u'] bM/\u'=u/\aU 0 u':=by
 subst ht;subst h0;subst hu;exact rT (d6 h cO) (pN _ rfl)
theorem sQ{a b:Tmp}{t:List ResultVar}{v w:U}(ht:rs=.tmp a :: .tmp b::t)(h:bO n l (.tmp a)=some v)(h':bO n l (.tmp b)=some w)(h0:t=[])(hu : .tup [v,w]=u)[q:BU 0 u]:(Exit.ret=.normal\/Exit.ret=.ret)/\∃l',lR T σ (fr n l) rs=some l'/\∃u' bM,(⟨[],0⟩:Sg).nx<=bM.nx/\Gh (⟨[],0⟩:Sg).nx [mB l'] σ [u'] bM/\u'=u/\aU 0 u':=by
 subst ht;subst h0;subst hu;exact rT (d6 h (d6 h' cO)) (pN _ rfl)
end
theorem fR{u0:U}(K sz:Nat)[g:vD h K b][m:Jv b][t:qD K b sz u0 u][q:MZ K b sz h h'][p:BU 0 u]:Gh 0 [u0] ⟨h,nx⟩ [u] ⟨[],0⟩:=Gh.trans (jF K sz) (pN u rfl)
theorem wR{u0:U}[w:FO u0 u][p:BU 0 u]:Gh 0 [u0] σ [u] ⟨[],0⟩:=Gh.trans (Gh.wk (.cons w.h .nil)) (pN u rfl)
section
variable{C:PG}{n0 n:Nat}{Q:Exit->List U->Sg->Prop}{l:List (Nat×U)}{σ:Sg}
theorem cF{β:Type}{c:Operand}{p q:Code}{t:Bool}{a b r:Option β}(J:cond t a b=r)(h1:t=true->a=r->WPU C n0 p (fr n l) σ Q)(h2:t=false->b=r->WPU C n0 q (fr n l) σ Q)(hc:bO n l c=some (.bool t):=by exact rfl):WPU C n0 (.cond c p q) (fr n l) σ Q:=tN hc (fun h=>h1 h (SU h J)) (fun h=>h2 h (SV h J))
end
class DO(op:BinOp)(k:IntKind)(a:Int)(k':IntKind)(b:Int)(r:outParam Value):Prop where
 h:iG op k a k' b=some r
section
variable{k:IntKind}{a b:Int}
instance:DO .add k a k b (.int k (k.wrap (a+b))):=⟨RC k a b⟩
instance:DO .sub k a k b (.int k (k.wrap (a-b))):=⟨kr k a b⟩
instance:DO .mul k a k b (.int k (k.wrap (a*b))):=⟨R6 k a b⟩
instance:DO .eql k a k b (.bool (a==b)):=⟨Ui k a b⟩
instance:DO .neq k a k b (.bool (a != b)):=⟨R5 k a b⟩
instance:DO .lss k a k b (.bool (decide (a<b))):=⟨R7 k a b⟩
instance:DO .leq k a k b (.bool (decide (a<=b))):=⟨R8 k a b⟩
instance:DO .gtr k a k b (.bool (decide (a>b))):=⟨R9 k a b⟩
instance:DO .geq k a k b (.bool (decide (a>=b))):=⟨RB k a b⟩
end
class eA(T:Tb)(t:TypeId)(d:outParam TypeDesc):Prop where
 h:T.und t=some d
class SzC(T:Tb)(t:TypeId)(n:outParam Nat):Prop where
 h:bZ T t=some n
section
variable{P:Program}{T:Tb}{ops r:List Oper}{o:Oper}{n:Nat}{l:List (Nat×U)}{σ σ':Sg}{u:U}
variable{d:Tmp}
theorem wT{j:Nat}{b:Bool}(hg:o.guard=some (j,true))(hj:uQ ops j=some d)(hl:bO n l (.tmp d)=some (.bool b))(hb:b=true):bW ops (fr n l) o=some true:=uN hg hj hl hb
theorem wF{j:Nat}{b:Bool}(hg:o.guard=some (j,false))(hj:uQ ops j=some d)(hl:bO n l (.tmp d)=some (.bool b))(hb:b=false):bW ops (fr n l) o=some true:=uN hg hj hl hb
theorem wA{A:Prop}(h:A:=by first |exact rfl |exact Go.Vx.wT rfl rfl rfl (by first |with_reducible_and_instances assumption |exact rfl)|exact Go.Vx.wF rfl rfl rfl (by first |with_reducible_and_instances assumption |exact rfl)):A:=h
variable{C:PG}
variable{K:List U->Sg->Prop}
theorem RS.w(he:o.dst=some d)(h:bB T σ (fr n l) o.op=some (u,σ'))(hk:RU C T ops r (fr n ((d,u)::l)) σ' K)(hw:bW ops (fr n l) o=some true:=by exact Go.Vx.wA)(hd:Nat.blt d n=true:=by exact rfl):RU C T ops (o::r) (fr n l) σ K:=RS.op hw h he hd hk
theorem RD.w{acc:List RK}{K:List RK->List U->Sg->Prop}(he:o.dst=some d)(h:bB T σ (fr n l) o.op=some (u,σ))(hk:RH P T ops r (fr n ((d,u)::l)) σ ((1,⟨fr n l,o,u,false,false,σ,σ⟩)::acc) K)(hw:bW ops (fr n l) o=some true:=by exact Go.Vx.wA)(hd:Nat.blt d n=true:=by exact rfl):RH P T ops (o::r) (fr n l) σ acc K:=RD.look hw h he hd hk
def XR(n:Nat)(l:List (Nat×U))(o:Oper):Option (Tmp×FuncId×List U):=match o.dst,o.op with
 |some d,.call c=>match c.callee with
  |.value f=>match bO n l f with
   |some (.fn (.func g) [] [])=>match DW n l c.args.toList with
    |some as=>some (d,g,as)|none=>none
   |_=>none
  |_=>none
 |_,_=>none
theorem V4{g:FuncId}{as:List U}(h:XR n l o=some (d,g,as))(hg:T.fn g=some fn)(hb:fn.body.isSome=true):o.dst=some d/\i9 T (fr n l) o.op=some (g,as):=by
 unfold XR at h;split at h
 ·next d' c h1 h2=>
  split at h
  ·next f h3=>
   split at h
   ·next g' h4=>
    split at h
    ·next as' h5=>simp only[zA,zB]at h;obtain⟨rfl,rfl,rfl⟩:=h;exact⟨h1,by rw[h2];exact fT h3 h4 hg hb h5 (by simp)⟩
    cases h
   cases h
  cases h
 cases h
theorem aK(h:XR n l o=some (d,f,args))(hev:aY C.prog f args σ (fun u' σ'=>u'=u/\σ'=σ))(hg:T.fn f=some fn)(hk:RU C T ops r (fr n ((d,u)::l)) σ K)(hb:fn.body.isSome=true:=by exact rfl)(hw:bW ops (fr n l) o=some true:=by exact Go.Vx.wA)(hd:Nat.blt d n=true:=by exact rfl):RU C T ops (o::r) (fr n l) σ K:=RS.call hw (V4 h hg hb).2 hev (V4 h hg hb).1 hd hk
theorem yG{args':List U}{σ1:Sg}(h:XR n l o=some (d,f,args))(hG:Gh σ.nx args σ args' σ1)(hev:aY C.prog f args' σ1 (fun u' σ'=>u'=u/\σ'=σ1))(hg:T.fn f=some fn)(hk:RU C T ops r (fr n ((d,u)::l)) σ1 K)(hn:σ.nx<=σ1.nx:=by exact zY rfl)(hb:fn.body.isSome=true:=by exact rfl)(hw:bW ops (fr n l) o=some true:=by exact Go.Vx.wA)(hd:Nat.blt d n=true:=by exact rfl):RU C T ops (o::r) (fr n l) σ K:=RS.fcall hw (V4 h hg hb).2 hG hn hev (V4 h hg hb).1 hd hk
theorem eN{acc:List RK}{K:List RK->List U->Sg->Prop}(h:XR n l o=some (d,f,args))(hev:∀s,aY P f args s (fun u' σ'=>u'=u/\σ'=s))(hg:T.fn f=some fn)(hk:RH P T ops r (fr n ((d,u)::l)) σ ((0,⟨fr n l,o,u,false,false,σ,σ⟩)::acc) K)(hb:fn.body.isSome=true:=by exact rfl)(hw:bW ops (fr n l) o=some true:=by exact Go.Vx.wA)(hd:Nat.blt d n=true:=by exact rfl):RH P T ops (o::r) (fr n l) σ acc K:=RD.free hw (V4 h hg hb).2 hev (V4 h hg hb).1 hd hk
end
theorem vw{args':List U}{v:Value}{σ1:Sg}(h:aY P f args ⟨[],0⟩ (fun u' _=>u'=u/\aU 0 u'))(hg:Gh 0 args' σ args σ1)[ha:dQ 0 args](hu:toV u=some v:=by simp only[toV,dK,okL,okC,zC]<;>rfl)(hren:∀m,aD m v=v:=by exact fun m=>by simp[aD,aE]):aY P f args' σ (fun u' σ'=>u'=u/\σ'=σ):=aY.view h ha.h hu hren hg
structure Hd(B:Prop):Prop where
 h:B
section
variable{C:PG}{n0:Nat}{tm:List U}{σ:Sg}{Q:Exit->List U->Sg->Prop}
theorem rg0[t:Ti C T]{i:Nat}{ops:Array Oper}{L:List Oper}(h:RU C T L L tm σ (fun tm' σ'=>Q .normal tm' σ'))(hl:ops.toList=L):WPU C n0 (.region i ops false) tm σ Q:=WPU.region t.ok (by rw[hl];exact h)
theorem rg1[t:Ti C T]{i:Nat}{ops:Array Oper}{o:Oper}{r:List Oper}(hl:ops.toList=o::r)(h:RU C T (o::r) (o::r) tm σ (fun tm' σ'=>Q .normal tm' σ')):WPU C n0 (.region i ops false) tm σ Q:=rg0 h hl
end
section
variable{C:PG}{T:Tb}{ops r:List Oper}{o:Oper}{n:Nat}{l:List (Nat×U)}{σ σ':Sg}{u:U}{K:List U->Sg->Prop}{d:Tmp}
theorem RS.nt{j:Nat}{b:Bool}{d':Tmp}(hg:o.guard=some (j,true))(hj:uQ ops j=some d')(hl:bO n l (.tmp d')=some (.bool b))(hb:b=false)(he:o.dst=some d)(hd:Nat.blt d n=true)(hk:RU C T ops r (fr n ((d,.tup [])::l)) σ K):RU C T ops (o::r) (fr n l) σ K:=RS.no (Kd hg hj hl hb) he hd hk
theorem RS.nf{j:Nat}{b:Bool}{d':Tmp}(hg:o.guard=some (j,false))(hj:uQ ops j=some d')(hl:bO n l (.tmp d')=some (.bool b))(hb:b=true)(he:o.dst=some d)(hd:Nat.blt d n=true)(hk:RU C T ops r (fr n ((d,.tup [])::l)) σ K):RU C T ops (o::r) (fr n l) σ K:=RS.no (Kd hg hj hl hb) he hd hk
variable{x:Operand}
theorem RS.mo(ho:o.op=.move x)(hx:bO n l x=some u)(he:o.dst=some d)(hw:bW ops (fr n l) o=some true)(hd:Nat.blt d n=true)(hk:RU C T ops r (fr n ((d,u)::l)) σ K):RU C T ops (o::r) (fr n l) σ K:=RS.w he (by rw[ho];exact g8 hx) hk hw hd
theorem RS.in{op:BinOp}{t t':TypeId}{y:Operand}{k k':IntKind}{a b:Int}{v:Value}(ho:o.op=.binOp op t x y t')(hx:bO n l x=some (.int k a))(hy:bO n l y=some (.int k' b))[h:DO op k a k' b v](hr:fU v=some u)(he:o.dst=some d)(hw:bW ops (fr n l) o=some true)(hd:Nat.blt d n=true)(hk:RU C T ops r (fr n ((d,u)::l)) σ K):RU C T ops (o::r) (fr n l) σ K:=RS.w he (by rw[ho];exact qL hx hy h.h hr) hk hw hd
theorem RS.p1{c a b:Operand}{t:Bool}(ho:o.op=.pick c a b)(hc:bO n l c=some (.bool t))(ht:t=true)(h:bO n l a=some u)(he:o.dst=some d)(hw:bW ops (fr n l) o=some true)(hd:Nat.blt d n=true)(hk:RU C T ops r (fr n ((d,u)::l)) σ K):RU C T ops (o::r) (fr n l) σ K:=RS.w he (by rw[ho];exact Wu hc ht h) hk hw hd
theorem RS.p0{c a b:Operand}{t:Bool}(ho:o.op=.pick c a b)(hc:bO n l c=some (.bool t))(ht:t=false)(h:bO n l b=some u)(he:o.dst=some d)(hw:bW ops (fr n l) o=some true)(hd:Nat.blt d n=true)(hk:RU C T ops r (fr n ((d,u)::l)) σ K):RU C T ops (o::r) (fr n l) σ K:=RS.w he (by rw[ho];exact Wv hc ht h) hk hw hd
theorem RS.ex{i:Nat}{q:List U}(ho:o.op=.extract x i)(hx:bO n l x=some (.tup q))(h:nth q i=some u)(he:o.dst=some d)(hw:bW ops (fr n l) o=some true)(hd:Nat.blt d n=true)(hk:RU C T ops r (fr n ((d,u)::l)) σ K):RU C T ops (o::r) (fr n l) σ K:=RS.w he (by rw[ho];exact kg hx h) hk hw hd
theorem RS.un{op:UnOp}{t:TypeId}{v:U}{v1 v2:Value}(ho:o.op=.unOp op t x)(hx:bO n l x=some v)(h:toV v=some v1)(hu:J4 op v1=some v2)(hq:fU v2=some u)(he:o.dst=some d)(hw:bW ops (fr n l) o=some true)(hd:Nat.blt d n=true)(hk:RU C T ops r (fr n ((d,u)::l)) σ K):RU C T ops (o::r) (fr n l) σ K:=RS.w he (by rw[ho];exact KZ hx h hu hq) hk hw hd
theorem RS.a(ho:o.op=.assign x)(hx:bO n l x=some u)(he:o.dst=some d)(hw:bW ops (fr n l) o=some true)(hd:Nat.blt d n=true)(hk:RU C T ops r (fr n ((d,u)::l)) σ K):RU C T ops (o::r) (fr n l) σ K:=RS.as hw ho hx he hk hd
end
class hO(T:Tb)(t:TypeId)(a b:outParam Nat)(z:outParam Value):Prop where
 h:T.inf t=some (a,b,z)
instance{T:Tb}{t:TypeId}{a b:Nat}{z:Value}[q:hO T t a b z]:SzC T t a:=⟨aR q.h⟩
class mL(T:Tb)(t:TypeId)(zu:outParam (List U)):Prop where
 h:∃a b z,T.inf t=some (a,b,z)/\mR z.cells.toList=some zu/\okL zu=true
class wH(u:U)(cs:outParam (List U)):Prop where
 h:sC u=some cs
instance{l:List U}:wH (.agg l) l:=⟨rfl⟩
instance{k:IntKind}{z:Int}:wH (.int k z) [.int k z]:=⟨rfl⟩
instance{b:Bool}:wH (.bool b) [.bool b]:=⟨rfl⟩
instance{s:List UInt8}:wH (.str s) [.str s]:=⟨rfl⟩
instance{t:Bool}{l:List (List U)}:wH (.isl t l) [.isl t l]:=⟨rfl⟩
instance{k st off:Nat}:wH (.ptr k st off) [.ptr k st off]:=⟨rfl⟩
instance{k st off n:Nat}:wH (.vl k st off n) [.vl k st off n]:=⟨rfl⟩
instance{k off n c:Nat}:wH (.sl k off n c) [.sl k off n c]:=⟨rfl⟩
instance{k:Nat}:wH (.map k) [.map k]:=⟨rfl⟩
instance{f:Fn}{a c:List U}:wH (.fn f a c) [.fn f a c]:=⟨rfl⟩
class FU(q:List U)(off n:Nat)(cs:outParam (List U)):Prop where
 h:iO q off n=some cs
instance{q:List U}:FU q 0 0 []:=⟨by simp[iO]⟩
instance{a:U}{q cs:List U}{n:Nat}[s:FU q 0 n cs]:FU (a::q) 0 (n+1) (a::cs):=⟨by
 have:=s.h;unfold iO at*;split at this
 ·next h=>cases this;rw[if_pos (by simp at*;omega)];simp
 cases this⟩
instance(priority:=low){α:Type}{c:α->List U}{x:α}{sz:Nat}[q:eO c sz]:FU (c x) 0 sz (c x):=⟨by
 unfold iO;rw[if_pos (by rw[q.h];omega),List.drop_zero,zW (by rw[q.h];exact zF _)]⟩
class TM(q:List U)(n:Nat):Prop where
 h:q.length=n
instance:TM [] 0:=⟨rfl⟩
instance{a:U}{q:List U}{n:Nat}[s:TM q n]:TM (a::q) (n+1):=⟨by simp[s.h]⟩
instance(priority:=low){α:Type}{c:α->List U}{x:α}{sz:Nat}[q:eO c sz]:TM (c x) sz:=⟨q.h x⟩
class DN(q:List U)(off:Nat)(cs:List U)(q':outParam (List U)):Prop where
 h:mQ q off cs=some q'
instance{q:List U}:DN q 0 [] q:=⟨by simp[mQ]⟩
instance{a b:U}{q cs q':List U}[s:DN q 0 cs q']:DN (a::q) 0 (b::cs) (b::q'):=⟨by
 have:=s.h;unfold mQ at*;split at this
 ·next h=>cases this;rw[if_pos (by simp at*;omega)];simp
 cases this⟩
instance{a:U}{q cs q':List U}{o:Nat}[s:DN q o cs q']:DN (a::q) (o+1) cs (a::q'):=⟨by
 have:=s.h;unfold mQ at*;split at this
 ·next h=>cases this;rw[if_pos (by simp at*;omega)];simp[show o+1+cs.length=(o+cs.length)+1 by omega]
 cases this⟩
instance(priority:=low){α:Type}{c:α->List U}{x:α}{sz:Nat}{q:List U}[s:eO c sz][t:TM q sz]:DN q 0 (c x) (c x):=⟨by
 unfold mQ;have h1:=s.h x;have h2:=t.h;rw[if_pos (by omega),List.drop_eq_nil_of_le (by omega)];simp⟩
class Tr(a b:List U)(c:outParam (List U)):Prop where
 h:a++b=c
instance{b:List U}:Tr [] b b:=⟨rfl⟩
instance{x:U}{a b c:List U}[s:Tr a b c]:Tr (x::a) b (x::c):=⟨by rw[List.cons_append,s.h]⟩
class Tj(pl:List (Nat×Nat))(i:Nat)(o s:outParam Nat):Prop where
 h:nth pl i=some (o,s)
instance{o s:Nat}{pl:List (Nat×Nat)}:Tj ((o,s)::pl) 0 o s:=⟨rfl⟩
instance{a:Nat×Nat}{i o s:Nat}{pl:List (Nat×Nat)}[q:Tj pl i o s]:Tj (a::pl) (i+1) o s:=⟨q.h⟩
variable{zu:List U}
variable{q':List U}
variable{cs:List U}
variable{s:Nat}
variable{qs:List (Nat×U)}
theorem vj{place:Nat->Option (Nat×Nat)}{c0:List U}{i o:Nat}{v:U}(hp:place i=some (o,s))(hc:sC v=some c0)(hl:c0.length=s)(hq:mQ zu o c0=some q')(hr:pU place q' qs=some cs):pU place zu ((i,v)::qs)=some cs:=by
 have:Nat.beq c0.length s=true:=by simp[beq_eq,hl]
 simp only[pU,hp,hc,this,zC,hq,hr]
class Tq(pl:List (Nat×Nat))(zu:List U)(qs:List (Nat×U))(cs:outParam (List U)):Prop where
 h:pU (nth pl) zu qs=some cs
instance{pl:List (Nat×Nat)}{zu:List U}:Tq pl zu [] zu:=⟨rfl⟩
instance{pl:List (Nat×Nat)}{zu q' cs c0:List U}{i o s:Nat}{v:U}{qs:List (Nat×U)}[p:Tj pl i o s][c:wH v c0][l:TM c0 s][q:DN zu o c0 q'][r:Tq pl q' qs cs]:Tq pl zu ((i,v)::qs) cs:=⟨vj p.h c.h l.h q.h r.h⟩
class Tl(a b:Nat)(c:outParam Nat):Prop where
 h:a*b=c
instance{b:Nat}:Tl 0 b 0:=⟨Nat.zero_mul b⟩
instance{b:Nat}:Tl 1 b b:=⟨Nat.one_mul b⟩
instance{a:Nat}:Tl (a+2) 1 (a+2):=⟨Nat.mul_one _⟩
class Tp(s:Nat)(zu:List U)(qs:List (Nat×U))(cs:outParam (List U)):Prop where
 h:pU (fun i=>some (i*s,s)) zu qs=some cs
instance{s:Nat}{zu:List U}:Tp s zu [] zu:=⟨rfl⟩
instance{zu q' cs c0:List U}{i o s:Nat}{v:U}{qs:List (Nat×U)}[m:Tl i s o][c:wH v c0][l:TM c0 s][q:DN zu o c0 q'][r:Tp s q' qs cs]:Tp s zu ((i,v)::qs) cs:=⟨vj (by rw[m.h]) c.h l.h q.h r.h⟩
class Th(z:List U)(k:Nat)(zs:outParam (List U)):Prop where
 h:qK z k=zs
instance{z:List U}:Th z 0 []:=⟨rfl⟩
instance{z a b:List U}{k:Nat}[q:Th z k a][p:Tr z a b]:Th z (k+1) b:=⟨by
 have:=q.h;have:=p.h;simp only[qK,List.replicate_succ,List.flatten_cons]at*;simp_all⟩
class DeC{α:Type}(c:α->List U)(cs:List U)(x:outParam α):Prop where
 h:c x=cs
instance{k:IntKind}{z:Int}:DeC (cI k) [.int k z] z:=⟨rfl⟩
instance{s:List UInt8}:DeC cS [.str s] s:=⟨rfl⟩
instance{α:Type}{c:α->List U}{l:List α}:DeC (cL c) [.isl false (l.map c)] l:=⟨rfl⟩
instance(priority:=low){α:Type}{c:α->List U}{x:α}:DeC c (c x) x:=⟨rfl⟩
instance(priority:=low){α:Type}{c:α->List U}{x:α}:MU (c x) (c x):=⟨nO.refl _⟩
class sL(T:Tb)(t:TypeId)(zu:outParam (List U))(pl:outParam (List (Nat×Nat))):Prop where
 h:jm T t zu pl
class qC(a:Nat)(b:outParam Nat):Prop where
 h:a+1=b
instance:qC 0 1:=⟨rfl⟩
instance:qC 1 2:=⟨rfl⟩
instance:qC 2 3:=⟨rfl⟩
instance:qC 3 4:=⟨rfl⟩
instance:qC 4 5:=⟨rfl⟩
instance:qC 5 6:=⟨rfl⟩
instance:qC 6 7:=⟨rfl⟩
instance:qC 7 8:=⟨rfl⟩
instance:qC 8 9:=⟨rfl⟩
instance:qC 9 10:=⟨rfl⟩
instance:qC 10 11:=⟨rfl⟩
instance:qC 11 12:=⟨rfl⟩
instance:qC 12 13:=⟨rfl⟩
instance:qC 13 14:=⟨rfl⟩
class AdC(a b:Nat)(c:outParam Nat):Prop where
 h:a+b=c
instance(priority:=low){a b:Nat}:AdC a b (a+b):=⟨rfl⟩
instance{b:Nat}:AdC 0 b b:=⟨Nat.zero_add b⟩
class Tk(a:Nat)(b:outParam Nat):Prop where
 h:a+1=b
instance{a b:Nat}[q:qC a b]:Tk a b:=⟨q.h⟩
instance(priority:=low){a:Nat}:Tk a (a+1):=⟨rfl⟩
section
variable{T:Tb}{n:Nat}{l:List (Nat×U)}{h h':List (Nat×B)}{nx nx':Nat}{u v w:U}{op:Op}
variable{e:TypeId}
theorem oAl(ho:op=.alloc e)[z:mL T e zu][hn:qC nx nx']:bB T ⟨h,nx⟩ (fr n l) op=some (.ptr nx 0 0,⟨(nx,.row zu e)::h,nx'⟩):=by
 subst ho;have hn':=hn.h;subst hn';obtain⟨a,b,q,h1,h2,h3⟩:=z.h;exact gf h1 h2 h3
variable{x:Operand}
theorem oBx(ho:op=.box e x)(hx:bO n l x=some v)[c:wH v cs](hk:okL cs=true)[hn:qC nx nx']:bB T ⟨h,nx⟩ (fr n l) op=some (.ptr nx 0 0,⟨(nx,.row cs e)::h,nx'⟩):=by
 subst ho;have hn':=hn.h;subst hn';exact QS hx c.h hk
variable{t:TypeId}
variable{a:Operand}
variable{k:Nat}
variable{off:Nat}
variable{sz:Nat}
variable{q:List U}
theorem oSt(ho:op=.store t a x)(ha:bO n l a=some (.ptr k 0 off))(hx:bO n l x=some v)[g:vD h k (.row q e)][s:SzC T t sz][c:wH v cs][p:DN q off cs q'][w:TJ h k (.row q' e) h'](hl:Nat.beq cs.length sz=true)(hk:okL cs=true):bB T ⟨h,nx⟩ (fr n l) op=some (.junk,⟨h',nx⟩):=by
 subst ho;refine ge s.h ha hx c.h hl hk (q:=q) (q':=q') ?_ ?_ ?_;simp only[cellsOf,g.h];rfl;simp only[yT,g.h];exact p.h;simp only[ED,g.h,w.h]
variable{d:TypeDesc}
theorem oLa(ho:op=.load t x)(hx:bO n l x=some (.ptr k 0 off))[hd:eA T t d](ha:nZ d=true)[g:vD h k (.row q e)][s:SzC T t sz][p:FU q off sz cs]:bB T ⟨h,nx⟩ (fr n l) op=some (.agg cs,⟨h,nx⟩):=by
 subst ho;exact fZ hd.h ha s.h hx (by simp only[cellsOf,g.h];rfl) p.h
theorem oLo(ho:op=.load t x)(hx:bO n l x=some (.ptr k 0 off))[hd:eA T t d](ha:nZ d=false)[g:vD h k (.row q e)](hu:nth q off=some u):bB T ⟨h,nx⟩ (fr n l) op=some (u,⟨h,nx⟩):=by
 subst ho;exact lV hd.h ha hx (by simp only[cellsOf,g.h];rfl) hu
theorem oIa(ho:op=.load t x)(hx:bO n l x=some (.iptr q))[hd:eA T t d](ha:nZ d=true)[s:SzC T t sz][p:FU q 0 sz cs]:bB T ⟨h,nx⟩ (fr n l) op=some (.agg cs,⟨h,nx⟩):=by
 subst ho;exact kp hd.h ha s.h hx p.h
theorem oIo(ho:op=.load t x)(hx:bO n l x=some (.iptr q))[hd:eA T t d](ha:nZ d=false)(hu:nth q 0=some u):bB T ⟨h,nx⟩ (fr n l) op=some (u,⟨h,nx⟩):=by
 subst ho;exact ZE hd.h ha hx hu
theorem oFa{f:Nat}{fs:Array Field}{fd:Field}{off':Nat}(ho:op=.fieldAddr t x f)(hx:bO n l x=some (.ptr k 0 off))[hd:eA T t (.struct fs)][g:vD h k (.row q e)](hf:nth fs.toList f=some fd)(hs:bZ T fd.type=some (s+1))(h2:off+fd.offset=off'):bB T ⟨h,nx⟩ (fr n l) op=some (.ptr k 0 off',⟨h,nx⟩):=by
 subst ho;exact i5 hd.h hf hs hx (by simp only[bH,g.h];rfl) h2
theorem oFi{f:Nat}{fs:Array Field}{fd:Field}(ho:op=.fieldAddr t x f)(hx:bO n l x=some (.iptr q))[hd:eA T t (.struct fs)](hf:nth fs.toList f=some fd)(hs:bZ T fd.type=some (s+1))(hq:q.drop fd.offset=q'):bB T ⟨h,nx⟩ (fr n l) op=some (.iptr q',⟨h,nx⟩):=by
 subst ho;exact Tu hd.h hf hs hx hq
variable{α:Type}
variable{c:α->List U}
variable{b:Bool}
variable{xs:List α}
theorem oIx{i:Operand}{k:IntKind}{z:Int}{y:α}(ho:op=.indexAddr t x i)(hx:bO n l x=some (.isl b (xs.map c)))(hi:bO n l i=some (.int k z))[hd:eA T t (.slice e)][hs:SzC T e sz][hc:eO c sz](hy:a8 xs z=some y):bB T ⟨h,nx⟩ (fr n l) op=some (.iptr (c y),⟨h,nx⟩):=by
 subst ho;exact d7 hx hi (UD c hd.h hs.h hc.h hy rfl)
variable{args:Array Operand}
variable{ts:Array TypeId}
theorem oLe{q:List TypeId}(ho:op=.call { callee:=.builtin .len,args:=args,argTypes:=ts })(ha:args.toList=[x])(ht:ts.toList=t::q)(hx:bO n l x=some (.isl b (xs.map c)))[hd:eA T t (.slice e)]:bB T ⟨h,nx⟩ (fr n l) op=some (.int .i64 xs.length,⟨h,nx⟩):=by
 subst ho;exact JS ha ht hx (zah c hd.h)
theorem oLv{e':TypeId}{q:List TypeId}{K st m:Nat}(ho:op=.call { callee:=.builtin .len,args:=args,argTypes:=ts })(ha:args.toList=[x])(ht:ts.toList=t::q)(hx:bO n l x=some (.vl K st 0 m))[hd:eA T t (.slice e)][g:vD h K (.vec cs e' sz st)]:bB T ⟨h,nx⟩ (fr n l) op=some (.int .i64 m,⟨h,nx⟩):=by
 subst ho;exact JS ha ht hx (kq hd.h g.h)
theorem oBd{pl:List (Nat×Nat)}{ps:Array (Nat×Operand)}(ho:op=.build t ps)[q:sL T t zu pl](he:AP n l ps.toList=some qs)(c:Tq pl zu qs cs)(hk:okL cs=true):bB T ⟨h,nx⟩ (fr n l) op=some (.agg cs,⟨h,nx⟩):=by
 subst ho;exact Le q.h he c.h hk
variable{z:Value}
theorem oBs{b:Nat}{zs:List U}{ps:Array (Nat×Operand)}(ho:op=.buildSlice t k ps)(he:AP n l ps.toList=some qs)[hd:eA T t (.slice e)][hi:hO T e sz b z][hz:mL T e zu](zc:Th zu k zs)(c:Tp sz zs qs cs)(hk:okL cs=true)(h1:Nat.ble (k*sz) 16777216=true)(h2:Nat.ble k 16777216=true)(h3:Nat.beq z.cells.toList.length sz=true)(hn:qC nx nx'):bB T ⟨h,nx⟩ (fr n l) op=some (.sl nx 0 k k,⟨(nx,.row cs e)::h,nx'⟩):=by
 subst ho;have hn':=hn.h;subst hn';obtain⟨a,b',q,g1,g2,g3⟩:=hz.h;have e1:=hi.h;rw[g1]at e1;cases e1;exact pF hd.h hi.h he h1 h2 h3 g2 (by rw[zc.h];exact c.h) hk
variable{σ:Sg}
theorem oMv(ho:op=.move x)(hx:bO n l x=some u):bB T σ (fr n l) op=some (u,σ):=by subst ho;exact g8 hx
theorem oAs(ho:op=.assign x)(hx:bO n l x=some u):bB T σ (fr n l) op=some (u,σ):=by subst ho;exact Xu hx
variable{y:Operand}
theorem oIn{b:BinOp}{t':TypeId}{k k':IntKind}{i j:Int}{r:Value}(ho:op=.binOp b t x y t')(hx:bO n l x=some (.int k i))(hy:bO n l y=some (.int k' j))[q:DO b k i k' j r](hr:fU r=some u):bB T σ (fr n l) op=some (u,σ):=by subst ho;exact qL hx hy q.h hr
theorem oP1{c b:Operand}{t:Bool}(ho:op=.pick c a b)(hc:bO n l c=some (.bool t))(ht:t=true)(hu:bO n l a=some u):bB T σ (fr n l) op=some (u,σ):=by subst ho;exact Wu hc ht hu
theorem oP0{c b:Operand}{t:Bool}(ho:op=.pick c a b)(hc:bO n l c=some (.bool t))(ht:t=false)(hu:bO n l b=some u):bB T σ (fr n l) op=some (u,σ):=by subst ho;exact Wv hc ht hu
theorem oEx{i:Nat}(ho:op=.extract x i)(hx:bO n l x=some (.tup q))(hu:nth q i=some u):bB T σ (fr n l) op=some (u,σ):=by subst ho;exact kg hx hu
theorem oUn{b:UnOp}{v1 v2:Value}(ho:op=.unOp b t x)(hx:bO n l x=some v)(h1:toV v=some v1)(h2:J4 b v1=some v2)(hq:fU v2=some u):bB T σ (fr n l) op=some (u,σ):=by subst ho;exact KZ hx h1 h2 hq
theorem oAp{xt e1 e2:TypeId}{a st st' K s0 s1 by_:Nat}{yv:α}{cs':List U}(ho:op=.call { callee:=.builtin .append,args:=args,argTypes:=ts })(ha:args.toList=[x,y])(ht:ts.toList=[t,xt])(hx:bO n l x=some (.vl a st 0 xs.length))(hy:bO n l y=some (.sl K 0 1 1))[d1:eA T t (.slice e)][d2:eA T xt (.slice e2)][g:vD h a (.vec (xs.map c).flatten e s0 st)][i:hO T e s1 by_ z][g2:vD h K (.row q e1)][s:FU q 0 s1 cs][w:MU cs cs'][d:DeC c cs' yv][lc:eO c s1][qk:Tk st st'][ug:TJ h a (.vec (List.map c (xs++[yv])).flatten e s1 st') h'](LH:s0=s1)(hp:Nat.ble 1 s1=true)(hc:nU cs=(List.map c [yv]).flatten)(hz:Nat.beq z.cells.toList.length s1=true)(hr:(xs.length+1)*by_<=140737488355328/\xs.length+1<=140737488355328):bB T ⟨h,nx⟩ (fr n l) op=some (.vl a st' 0 (xs++[yv]).length,⟨h',nx⟩):=by
 subst ho;subst LH;obtain⟨sz,rfl⟩:∃sz,s0=sz+1:=⟨s0-1,by have:=zY hp;omega⟩;have e1:=qk.h;subst e1;have:=pV (σ:=⟨h,nx⟩) ha ht hx hy (JU c [yv] d1.h d2.h i.h hz lc.h g.h (ZP c [yv] (q:=q) (by simp only[rowOf,g2.h]) (by rw[Nat.one_mul];exact s.h) rfl hc) hr);rw[ug.h]at this;exact this
theorem oAq{xt e2:TypeId}{a st st' s0 s1 by_:Nat}{ys:List α}(ho:op=.call { callee:=.builtin .append,args:=args,argTypes:=ts })(ha:args.toList=[x,y])(ht:ts.toList=[t,xt])(hx:bO n l x=some (.vl a st 0 xs.length))(hy:bO n l y=some (.isl b (ys.map c)))[d1:eA T t (.slice e)][d2:eA T xt (.slice e2)][g:vD h a (.vec (xs.map c).flatten e s0 st)][i:hO T e s1 by_ z][lc:eO c s1][qk:Tk st st'][ug:TJ h a (.vec (List.map c (xs++ys)).flatten e s1 st') h'](LH:s0=s1)(hp:Nat.ble 1 s1=true)(hz:Nat.beq z.cells.toList.length s1=true)(hr:(xs.length+ys.length)*by_<=140737488355328/\xs.length+ys.length<=140737488355328):bB T ⟨h,nx⟩ (fr n l) op=some (.vl a st' 0 (xs++ys).length,⟨h',nx⟩):=by
 subst ho;subst LH;obtain⟨sz,rfl⟩:∃sz,s0=sz+1:=⟨s0-1,by have:=zY hp;omega⟩;have e1:=qk.h;subst e1;have:=pV (σ:=⟨h,nx⟩) ha ht hx hy (JU c ys d1.h d2.h i.h hz lc.h g.h (zR c lc.h) hr);rw[ug.h]at this;exact this
end
variable{A:Prop}
theorem opx (h:A:=by first
 |exact Go.Vx.oIo rfl rfl rfl rfl
 |exact Go.Vx.oLo rfl rfl rfl rfl
 |exact Go.Vx.oFi rfl rfl (by exact rfl) (by exact Go.Vx.SzC.h) (by exact rfl)
 |exact Go.Vx.oFa rfl rfl (by exact rfl) (by exact Go.Vx.SzC.h) (by exact Go.Vx.AdC.h)
 |exact Go.Vx.oLa rfl rfl rfl
 |exact Go.Vx.oIa rfl rfl rfl
 |exact Go.Vx.oLe rfl rfl rfl rfl
 |exact Go.Vx.oLv rfl rfl rfl rfl
 |exact Go.Vx.oBx rfl rfl rfl
 |exact Go.Vx.oAl rfl
 |exact Go.Vx.oSt rfl rfl rfl rfl rfl
 |exact Go.Vx.oBd rfl rfl (by exact inferInstance) rfl):A:=h
theorem opy (h:A:=by first
 |exact Go.Vx.oMv rfl rfl
 |exact Go.Vx.oAs rfl rfl
 |exact Go.Vx.oIn rfl rfl rfl rfl
 |exact Go.Vx.oEx rfl rfl rfl
 |exact Go.Vx.oP1 rfl rfl (by first |with_reducible_and_instances assumption |exact rfl) rfl
 |exact Go.Vx.oP0 rfl rfl (by first |with_reducible_and_instances assumption |exact rfl) rfl
 |exact Go.Vx.oUn rfl rfl rfl rfl rfl
 |exact Go.Vx.opx):A:=h
theorem opz (h:A:=by first
 |exact Go.Vx.oBs rfl rfl (by exact inferInstance) (by exact inferInstance) rfl rfl rfl rfl (by exact inferInstance)
 |exact Go.Vx.oAp rfl rfl rfl rfl rfl rfl rfl rfl rfl (by with_reducible assumption)
 |exact Go.Vx.oAq rfl rfl rfl rfl rfl rfl rfl rfl (by with_reducible assumption)
 |exact Go.Vx.opx):A:=h
section
variable{T:Tb}{ops r:List Oper}{o:Oper}{n:Nat}{l:List (Nat×U)}{σ σ':Sg}{u:U}
variable{C:PG}
variable{K:List U->Sg->Prop}
variable{d:Tmp}
theorem bI(hk:RU C T ops r (fr n ((d,u)::l)) σ' K)(h:bB T σ (fr n l) o.op=some (u,σ'):=by exact Go.Vx.opz)(he:o.dst=some d:=by exact rfl)(hw:bW ops (fr n l) o=some true:=by exact Go.Vx.wA)(hd:Nat.blt d n=true:=by exact rfl):RU C T ops (o::r) (fr n l) σ K:=RS.op hw h he hd hk
variable{P:Program}
variable{acc:List RK}
variable{K:List RK->List U->Sg->Prop}
theorem dA(hk:RH P T ops r (fr n ((d,u)::l)) σ' ((3,⟨fr n l,o,u,true,true,σ,σ'⟩)::acc) K)(h:bB T σ (fr n l) o.op=some (u,σ'):=by exact Go.Vx.opz)(he:o.dst=some d:=by exact rfl)(hw:bW ops (fr n l) o=some true:=by exact Go.Vx.wA)(hd:Nat.blt d n=true:=by exact rfl):RH P T ops (o::r) (fr n l) σ acc K:=RD.act hw h he hd hk
theorem n8(hk:RH P T ops r (fr n l) σ' ((3,⟨fr n l,o,u,true,true,σ,σ'⟩)::acc) K)(h:bB T σ (fr n l) o.op=some (u,σ'):=by exact Go.Vx.opz)(he:o.dst=none:=by exact rfl)(hw:bW ops (fr n l) o=some true:=by exact Go.Vx.wA):RH P T ops (o::r) (fr n l) σ acc K:=RD.actn hw h he hk
theorem RD.ou(hk:RH P T ops r (fr n ((d,u)::l)) σ ((1,⟨fr n l,o,u,false,false,σ,σ⟩)::acc) K)(h:bB T σ (fr n l) o.op=some (u,σ):=by exact Go.Vx.opy)(he:o.dst=some d:=by exact rfl)(hw:bW ops (fr n l) o=some true:=by exact Go.Vx.wA)(hd:Nat.blt d n=true:=by exact rfl):RH P T ops (o::r) (fr n l) σ acc K:=RD.look hw h he hd hk
theorem RD.nt{d':Tmp}{j:Nat}{b:Bool}(hg:o.guard=some (j,true))(hj:uQ ops j=some d')(hl:bO n l (.tmp d')=some (.bool b))(hb:b=false)(he:o.dst=some d)(hk:RH P T ops r (fr n ((d,.tup [])::l)) σ ((0,⟨fr n l,o,.tup [],false,false,σ,σ⟩)::acc) K)(hd:Nat.blt d n=true:=by exact rfl):RH P T ops (o::r) (fr n l) σ acc K:=RD.no (Kd hg hj hl hb) he hd hk
theorem RD.nf{d':Tmp}{j:Nat}{b:Bool}(hg:o.guard=some (j,false))(hj:uQ ops j=some d')(hl:bO n l (.tmp d')=some (.bool b))(hb:b=true)(he:o.dst=some d)(hk:RH P T ops r (fr n ((d,.tup [])::l)) σ ((0,⟨fr n l,o,.tup [],false,false,σ,σ⟩)::acc) K)(hd:Nat.blt d n=true:=by exact rfl):RH P T ops (o::r) (fr n l) σ acc K:=RD.no (Kd hg hj hl hb) he hd hk
theorem aS{K:List U->Sg->Prop}{α:Type}{xs:List α}{z:Int}{y:α}(hy:a8 xs z=some y)(hk:RU C T ops r (fr n ((d,u)::l)) σ K)(h:a8 xs z=some y->bB T σ (fr n l) o.op=some (u,σ):=by intro hy;exact Go.Vx.oIx rfl rfl rfl hy)(he:o.dst=some d:=by exact rfl)(hw:bW ops (fr n l) o=some true:=by exact Go.Vx.wA)(hd:Nat.blt d n=true:=by exact rfl):RU C T ops (o::r) (fr n l) σ K:=RS.op hw (h hy) he hd hk
theorem bS{α:Type}{xs:List α}{z:Int}{y:α}(hy:a8 xs z=some y)(hk:RH P T ops r (fr n ((d,u)::l)) σ ((1,⟨fr n l,o,u,false,false,σ,σ⟩)::acc) K)(h:a8 xs z=some y->bB T σ (fr n l) o.op=some (u,σ):=by intro hy;exact Go.Vx.oIx rfl rfl rfl hy)(he:o.dst=some d:=by exact rfl)(hw:bW ops (fr n l) o=some true:=by exact Go.Vx.wA)(hd:Nat.blt d n=true:=by exact rfl):RH P T ops (o::r) (fr n l) σ acc K:=RD.look hw (h hy) he hd hk
theorem RS.ou{K:List U->Sg->Prop}(hk:RU C T ops r (fr n ((d,u)::l)) σ' K)(h:bB T σ (fr n l) o.op=some (u,σ'):=by exact Go.Vx.opx)(he:o.dst=some d:=by exact rfl)(hw:bW ops (fr n l) o=some true:=by exact Go.Vx.wA)(hd:Nat.blt d n=true:=by exact rfl):RU C T ops (o::r) (fr n l) σ K:=RS.op hw h he hd hk
theorem RS.oz{K:List U->Sg->Prop}(hk:RU C T ops r (fr n l) σ' K)(h:bB T σ (fr n l) o.op=some (u,σ'):=by exact Go.Vx.opx)(he:o.dst=none:=by exact rfl)(hw:bW ops (fr n l) o=some true:=by exact Go.Vx.wA):RU C T ops (o::r) (fr n l) σ K:=FP hw h he hk
end
theorem gd{B:Prop}(h:B) (g:Hd B->A:=by
 intro h
 repeat' first
  |(refine Go.Vx.RD.nt rfl rfl rfl ?_ rfl ?_;· first |with_reducible_and_instances assumption |exact rfl)
  |(refine Go.Vx.RD.nf rfl rfl rfl ?_ rfl ?_;· first |with_reducible_and_instances assumption |exact rfl)
  |refine Go.Vx.RD.ou ?_
 exact h.h):A:=g ⟨h⟩
theorem gs{B: Prop}(h:B) (g:Hd B->A:=by
  intro h
  first
    |refine Go.Vx.gq ?_
    |with_reducible refine Go.Vx.sq ?_
    |with_reducible refine Go.Vx.WPU.skip ?_
    |with_reducible refine Go.Vx.RS.done ?_
    |with_reducible refine Go.Vx.WPU.ret ?_
    |with_reducible refine Go.Vx.WPU.exit ?_
    |(refine Go.Vx.RS.nt rfl rfl rfl ?_ rfl rfl ?_;· first |with_reducible_and_instances assumption |exact rfl)
    |(refine Go.Vx.RS.nf rfl rfl rfl ?_ rfl rfl ?_;· first |with_reducible_and_instances assumption |exact rfl)
    |(refine Go.Vx.RS.mo rfl rfl rfl ?_ rfl ?_;· exact Go.Vx.wA)
    |(refine Go.Vx.RS.in rfl rfl rfl rfl rfl ?_ rfl ?_;· exact Go.Vx.wA)
    | (refine Go.Vx.RS.p1 rfl rfl ?_ rfl rfl ?_ rfl ?_; · first | with_reducible_and_instances assumption | exact rfl
       exact Go.Vx.wA)
    | (refine Go.Vx.RS.p0 rfl rfl ?_ rfl rfl ?_ rfl ?_; · first | with_reducible_and_instances assumption | exact rfl
       exact Go.Vx.wA)
    |(refine Go.Vx.RS.a rfl rfl rfl ?_ rfl ?_;· exact Go.Vx.wA)
    |(refine Go.Vx.RS.ex rfl rfl rfl rfl ?_ rfl ?_;· exact Go.Vx.wA)
    |(refine Go.Vx.RS.un rfl rfl rfl rfl rfl rfl ?_ rfl ?_;· exact Go.Vx.wA)
    |refine Go.Vx.RS.ou ?_
    |refine Go.Vx.RS.oz ?_
  exact h.h):A:=g ⟨h⟩
theorem go{B:Prop}(h:B)(g:Hd B->A:=by intro h;(repeat' first |refine Go.Vx.gs ?_ |refine Go.Vx.rg1 rfl ?_);exact h.h):A:=g ⟨h⟩
theorem gn{B:Prop}(h:B)(g:Hd B->A:=by intro h;(repeat' refine Go.Vx.gs ?_);exact h.h):A:=g ⟨h⟩
theorem gr{B:Prop}(h:B)(g:Hd B->A:=by intro h;refine Go.Vx.gn ?_;refine Go.Vx.rg1 rfl ?_;refine Go.Vx.gn ?_;exact h.h):A:=g ⟨h⟩
theorem gx{α:Type}{a b:α}(h:some a=some b)(g:a=b->A:=by intro e;subst e;refine Go.Vx.go ?_;exact Go.Vx.rt1 rfl rfl rfl rfl):A:=g (sI h)
theorem gy{α:Type}{a b:α}(h:some a=some b)(g:a=b->A:=by intro e;subst e;refine Go.Vx.go ?_;exact Go.Vx.xC ⟨rfl,rfl⟩):A:=g (sI h)
theorem gB{β:Type}{t:Bool}{a b r:Option β}(h:cond t a b=r):(t=true/\a=r)\/(t=false/\b=r):=by cases t;exact .inr ⟨rfl,h⟩;exact .inl ⟨rfl,h⟩
abbrev B.bv{α:Type}(c:α->List U)(l:List α)(e:TypeId)(sz st:Nat):B:=.vec (l.map c).flatten e sz st
abbrev cB(P:Program)(f:FuncId)(args:List U)(u:U):Prop:=aY P f args ⟨[],0⟩ (fun u' _=>u'=u/\aU 0 u')
section
variable{C:PG}{n0 n:Nat}{Q:Exit->List U->Sg->Prop}{l:List (Nat×U)}{h:List (Nat×B)}{nx:Nat}{c:Code}
theorem gV(i:Nat)(e:TypeId)(sz n1:Nat)(hw:WPU C n0 c (fr n ((i,.vl nx 0 0 0)::l)) ⟨(nx,.vec [] e sz 0)::h,n1⟩ Q)(hi:bO n l (.tmp i)=some .nils:=by exact rfl)(hs:Nat.blt 0 sz=true:=by exact rfl)(hn:nx+1=n1:=by exact rfl)(h0:n0<=nx:=by first |exact Nat.zero_le _ |exact zY rfl)(hd:xg n (some i)=true:=by exact rfl):WPU C n0 c (fr n l) ⟨h,nx⟩ Q:=by
 subst hn;refine bX (Gh.nilS i e sz ?_ h0 hi hd) (Nat.le_succ_of_le h0) hw;exact Nat.lt_of_succ_le (zY hs)
theorem gL{l':List (Nat×U)}{σ:Sg}{id:Nat}(I:Nat->List U->Sg->Prop)(E:List U->Sg->Prop)(k:Nat)(h0:I k (fr n l') σ)
  (out:∀tm σ,E tm σ->Q .normal tm σ)
  (round:∀m tm σ,I m tm σ->WPU C n0 c tm σ (wY (fun tm' σ'=>∃n' tm'' bM,n'<m/\I n' tm'' bM/\n0<=bM.nx/\Gh n0 tm' σ' tm'' bM) (uS id (JM n0 E Q))))
  (hn:n0<=σ.nx:=by first |exact Nat.zero_le _ |exact zY rfl) (ht:AK l l':=by((repeat refine⟨rfl,?_⟩);exact trivial)):WPU C n0 (.block id (.loop c)) (fr n l) σ Q:=bX (Gh.sub ht) hn (WPU.loopK I E k h0 out round)
theorem dE{T:Tb}[t:Ti C T]{tm:List U}{σ:Sg}{id:Nat}{ops:Array Oper}(pr:List (Nat×Nat))(h:RH C.prog T ops.toList ops.toList tm σ [] (fun ks tm' σ'=>Ix ops.toList (ks.reverse.map (·.1)) pr=true/\P5 T ks.reverse pr/\Q .normal tm' σ'))(hst:ES ops.toList=true:=by kernel_rfl):WPU C n0 (.region id ops true) tm σ Q:=WPU.drawE t.ok pr hst h
end
theorem gF{β:Type}{t:Bool}{a b r:Option β}{A A1 A2:Prop}(J:cond t a b=r)(h1:t=true->a=r->A1)(h2:t=false->b=r->A2) (g:cond t a b=r->Hd (t=true->a=r->A1)->Hd (t=false->b=r->A2)->A:=by
 intro e h k;refine Go.Vx.go ?_;exact Go.Vx.cF e h.h k.h):A:=g J ⟨h1⟩ ⟨h2⟩
end Go.Vx
