import Derived.DefersIn
import Derived.Test.YtldlchbgolpkaaaGreatP11
set_option linter.all false
namespace Go.Vx
open Go Go.Rx
section
variable{P:Program}{T:Tb}(hT:lP P T)
include hT
def z7l{m:Nm}{n:Nat}{tm:I M}{a:Act}(ha:xJ m n tm a)(o:Oper){c:Call}(ho:o.op=.defer c)(w:World){f:FuncId}{args:I M}(h:callOf T tm (.call c)=some (f,args)):
  ∃fv cap dargs bI,(execOp a.eval o).run P w=.ok (.defer { target:=.fn fv cap,args:=dargs }) w/\(∀w',(invoke (.fn fv cap) dargs).run P w'=.ok (.enter f bI.toArray) w')/\nZ m n args bI:=by
 obtain⟨dst,op,type,pos,after,guard⟩:=o;simp only at ho;subst ho;unfold callOf at h;obtain⟨callee,a7,ats⟩:=c;simp only at h;cases callee with
 |value g=>
  simp only at h;rcases hg:evalO tm g with _|u;simp[hg]at h;cases u with
  |func fn first cap=>
   cases fn with
   |func k=>
    simp only[hg]at h;rcases hk:T.fn k with _|fn;simp[hk]at h;simp only[hk]at h;rcases hb:fn.body.isSome with _|_;simp[hb]at h;simp only[hb,zC]at h;rcases hl:kS tm a7.toList with _|vs;simp[hl]at h;simp only[hl,zA,zB]at h;obtain⟨rfl,rfl⟩:=h;obtain⟨hfn,KD⟩:=hT.fn k fn hk;obtain⟨first⟩:=first
    obtain⟨cap⟩:=cap;have e0:=lF (ha m (aN.refl _ _)) hg;have e1:=uJ (ha m (aN.refl _ _)) hl;have hnb:fn.body.isNone=false:=by cases hbb:fn.body<;>simp_all
    refine⟨.func k,(aJ m cap).toArray,(aJ m first++aJ m vs).toArray,aJ m first++aJ m vs++aJ m cap,?_,fun w'=>?_,fun m' dK=>?_⟩;simp only[aI,iJ]at e0;simp only[execOp,zK,resolve,e0,e1,Deferred.ofValue,zL,zJ];simp;simp only[invoke,callFunc,zK,run_program,zJ,hfn,KD hb,hnb,Bool.false_eq_true,if_false];simp;have QY:=lF (ha m' dK) hg;have QX:=uJ (ha m' dK) hl;rw[e0]at QY;rw[e1]at QX;simp_all[aI,yJ]
   |_=>simp[hg]at h
  |_=>simp[hg]at h
 |_=>simp at h
abbrev Fh(T:Tb)(rs:I ResultVar)(n0:Nat)(R:U->Sg->Prop)(tm:I U)(O:Sg):Prop :=
 ∃l,oZ T O tm rs=some l/\∃u' c6,n0<=c6.nx/\Gh n0 [oG l] O [u'] c6/\R u' c6
def RB(F:Nat->lU->Prop)(R:U->Sg->Prop)(x:Cx)(m:Nm)(w:World):Ending->World->Prop:=fun e w₁=>
 ∃y aH u v cv,e=.returned cv/\R u y.O/\bQ m x.s w aH y.s w₁/\fI aH y.s.nx v cv/\kM y/\Fr F y/\aD y u v/\Ke x.O.nx x y/\x.O.nx<=y.O.nx
def z9r{fn:Func}{R:U->Sg->Prop}{F:Nat->lU->Prop}{x y:Cx}{tm:I U}{tv:I M}{m m':Nm}{w w':World}{a:Act}(st:St F y tm tv m' w' a)(aS:bQ m x.s w m' y.s w')(eR:Ke x.O.nx x y)(h:Fh T fn.results.toList x.O.nx R tm y.O):
  ∃v,(results fn a.tmps).run P w'=.ok v w'/\RB F R x m w (.returned v) w':=by
 obtain⟨l,lI,u',c6,jT,Xa,hR⟩:=h;obtain⟨ls,K6,B1⟩:=Pa st.h st.e lI;have cX:∀m'',aN y.s.nx m' m''->(results fn a.tmps).run P w'=.ok (aI m'' (xF ls)) w':=fun m'' m6=>by rw[st.act m'' m6];exact n_ hT (st.fits m'' m6) K6
 have hO:fI m' y.s.nx (xF ls) (aI m' (xF ls)):=fun m'' m6=>by have e1:=cX m'' m6;rw[cX m' (aN.refl _ _)]at e1;simp at e1;exact e1.symm
 obtain⟨z,z1,z2,z3,z4,z5,z6⟩:=Xa F y [xF ls] rfl st.h st.fr (bF.cons (z56 B1) (bF.nil y));obtain⟨v0,Md,e0,z7,_⟩:=z5.inv;cases e0;have d9:=z1 m' w' st.fits;exact⟨_,cX m' (aN.refl _ _),z,m',u',xF ls,_,rfl,z2 ▸ hR,aS.trans d9,hO.ext (aN.refl _ _) d9.nx,z3,z4,z7,eR.trans z6,by rw[z2];exact jT⟩
omit hT in
def BA(P:Program)(T:Tb)(fn:Func)(n0:Nat)(R:U->Sg->Prop)(c:Code)(tm:I U)(O:Sg):Prop :=
 ∀F x0 m0 w0 x tv m w a,x0.O.nx=n0->n0<=O.nx->x.O=O->St F x tm tv m w a->bQ m0 x0.s w0 m x.s w->Ke n0 x0 x->a.defers=[]->c.wpIn (pB none) 0 P (bodyPostDIn (pB none) 0 P fn (RB F R x0 m0 w0)) a w
def bE.of_bodyD{f:FuncId}{fn:Func}{c:Code}{args:I U}{O:Sg}{R:U->Sg->Prop}(hf:T.fn f=some fn)(hb:fn.body=some c)
  (h:BA P T fn O.nx R c (D3 fn.ntmps args) O):bE P f args O R:=fun F x vs m w bI hx hh mJ he fT dB=>by
 obtain⟨yZ,_⟩:=hT.fn f fn hf;have eS:bI.length=vs.length:=by rw[<-dB.at];simp
 refine(callsIn_wide (n:=0)).1 (callsIn_of_wp_defers (F:=pB none) yZ hb trivial ?_);have nS:xJ m x.s.nx (pad fn.ntmps vs) { tmps:=bI.toArray++Array.replicate (fn.ntmps-bI.toArray.size) undef,defers:=[] }:=fun m' dK=>by simp only[T',yJ,dB m' dK,eS,List.size_toArray];apply Array.ext';simp[mY,aI,undef]
 exact h F x m w x _ m w _ (by rw[hx]) (zF _) hx ⟨hh,mJ,Pd _ he,fT,nS⟩ (bQ.refl fT) (Ke.refl _ _) rfl
variable{fn:Func}{n0:Nat}{R:U->Sg->Prop}{tm:I U}{O:Sg}
omit hT in
def BA.ghost{c:Code}{tm':I U}{O':Sg}(h:Gh n0 tm O tm' O')(yU:n0<=O'.nx)(hw:BA P T fn n0 R c tm' O'):BA P T fn n0 R c tm O:=fun F x0 m0 w0 x tv m w a vT hn hx st aS eR hd=>by
 obtain⟨y,h1,h2,h3,h4,h5,h6⟩:=h F x tv hx st.h st.fr st.e;have jK:=h1 m w st.fits;exact hw F x0 m0 w0 y tv m w a vT yU h2 ⟨h3,h4,h5,jK.fits,st.act.ext jK.agree jK.nx⟩ (aS.trans jK) (eR.trans h6) hd
def BA.seq{p q:Code}(h:WPU (PG.of P) n0 p tm O (EL (fun tm' O'=>BA P T fn n0 R q tm' O') (fun e tm' O'=>e=.ret/\Fh T fn.results.toList n0 R tm' O'))):BA P T fn n0 R (.seq p q) tm O:=fun F x0 m0 w0 x tv m w a vT hn hx st aS eR hd=>by
 refine wpIn_seq (wpIn_mono (h hn F x tv m w a 0 hx st ⟨Nat.zero_le _,trivial⟩ ⟨fun _=>rfl,fun h=>by cases h⟩ none trivial) ?_);rintro e a' w' ⟨y,tm',cZ,m',hq,cT,bO,d8,yU,j6⟩;have fL:a'.defers=[]:=(j6.eq rfl).trans hd;cases e with
 |normal=>exact hq F x0 m0 w0 y cZ m' w' a' vT yU rfl cT (aS.trans bO) (eR.trans d8) fL|ret=>obtain⟨_,Cj⟩:=hq;subst vT;show LeavesIn _ _ _ _ _ _ a'.defers _ _;rw[fL];exact z9r hT (fn:=fn) cT (aS.trans bO) (eR.trans d8) Cj
 |exit id=>cases hq.1|goto l=>cases hq.1
 |panic ch=>cases hq.1|outgrown=>cases hq.1
abbrev W9(P:Program)(T:Tb)(rs:I ResultVar)(n0:Nat)(R:U->Sg->Prop)(g:FuncId)(QZ:I U)(tm:I U)(O:Sg):Prop :=
 ∃fd cd,T.fn g=some fd/\fd.body=some cd/\WPU (PG.of P) O.nx cd (D3 fd.ntmps QZ) O (fun e tm' O'=>(e=.normal\/e=.ret)/\(∃l,oZ T O' tm' fd.results.toList=some l)/\Fh T rs n0 R tm O')
def BA.clos{c:Code}{g:FuncId}{QZ:I U}(hd0:n0<=O.nx)(h:WPU (PG.of P) O.nx c tm O (fun e tm' O'=>(e=.normal\/e=.ret)/\W9 P T fn.results.toList n0 R g QZ tm' O')):
  ∀F x0 m0 w0 x tv m w a fv cap dargs bI vs,x0.O.nx=n0->x.O=O->St F x tm tv m w a->bQ m0 x0.s w0 m x.s w->Ke n0 x0 x->a.defers=[{ target:=.fn fv cap,args:=dargs }]->(∀w',(invoke (.fn fv cap) dargs).run P w'=.ok (.enter g bI.toArray) w')->bF x QZ vs->nZ m x.s.nx vs bI->
   c.wpIn (pB none) 0 P (bodyPostDIn (pB none) 0 P fn (RB F R x0 m0 w0)) a w:=fun F x0 m0 w0 x tv m w a fv cap dargs bI vs vT hx st aS eR hd Cg hdu KL=>by
 refine wpIn_mono (h (zF _) F x tv m w a 0 hx st ⟨Nat.zero_le _,trivial⟩ ⟨fun _=>rfl,fun h=>by cases h⟩ none trivial) ?_;rintro e a' w' ⟨y,tm',cZ,m',⟨xT,fd,cd,Ci,B6,Xo⟩,cT,bO,d8,yU,j6⟩;have fL:a'.defers=[{ target:=.fn fv cap,args:=dargs }]:=(j6.eq rfl).trans hd;subst hx;have hdu':bF y QZ vs:=d8.E hdu.bel hdu;have hdl':nZ m' y.s.nx vs bI:=fun m'' m6=>KL m'' ((bO.agree).trans m6 bO.nx);obtain⟨co,_⟩:=hT.fn g fd Ci;have eS:bI.length=vs.length:=by rw[<-KL.at];simp
 have nS:xJ m' y.s.nx (pad fd.ntmps vs) { tmps:=bI.toArray++Array.replicate (fd.ntmps-bI.toArray.size) undef,defers:=[] }:=fun m'' m6=>by simp only[T',yJ,hdl' m'' m6,eS,List.size_toArray];apply Array.ext';simp[mY,aI,undef]
 have key:LeavesIn (pB none) 0 P fn a'.tmps (RB F R x0 m0 w0) a'.defers .returning w':=by
  rw[fL];refine leavesIn_cons (by simp) (fun h=>by simp[pB,Fence.wide]at h) (Cg w') (fun _ _=>trivial) ?_;refine(callsDIn_of_wp (R:=fun e w''=>∃v,e=.returned v/\∃v',(results fn a'.tmps).run P w''=.ok v' w''/\RB F R x0 m0 w0 (.returned v') w'') co B6 trivial ?_).mono ?_;refine wpIn_mono (Xo (zF _) F y _ m' w' _ 0 rfl ⟨cT.h,cT.fr,Pd _ hdu',cT.fits,nS⟩ ⟨Nat.zero_le _,trivial⟩ ⟨fun _=>rfl,fun h=>by cases h⟩ none trivial) ?_;rintro e1 a1 w1 ⟨z,XP,tv1,m1,⟨hex1,⟨l1,CC⟩,Cj⟩,O3,jK,Wt,UO,hdf1⟩;have Xj:a1.defers=[]:=hdf1.eq rfl;obtain⟨ls1,Wg,_⟩:=Pa O3.h O3.e CC;have We:(results fd a1.tmps).run P w1=.ok (aI m1 (xF ls1)) w1:=by rw[O3.act m1 (aN.refl _ _)];exact n_ hT (O3.fits m1 (aN.refl _ _)) Wg
  subst vT;have bZ:St F z tm' cZ m1 w1 a':=⟨O3.h,O3.fr,Wt.E cT.e.bel cT.e,O3.fits,cT.act.ext jK.agree jK.nx⟩;have hk:=z9r hT (fn:=fn) bZ ((aS.trans bO).trans jK) ((eR.trans (d8.le hd0)).trans (Wt.le (Nat.le_trans hd0 yU))) Cj;have hp:bodyPost P fd (fun e w''=>∃v,e=.returned v/\∃v',(results fn a'.tmps).run P w''=.ok v' w''/\RB F R x0 m0 w0 (.returned v') w'') .ret a1 w1:=⟨Xj,_,We,_,rfl,hk⟩;rcases hex1 with rfl |rfl;exact hp;exact hp;rintro e1 u1 w1 ⟨rfl,v,rfl,hk⟩;exact hk
 rcases xT with rfl |rfl;exact key;exact key
omit hT in
def Y6{C:PG}(hT:lP C.prog T)(a9:Array Oper)(E:Exit->Act->World->Prop)(L:I Nat)(tail:I Oper){F:Nat->lU->Prop}{x0:Cx}{m0:Nm}{w0:World}{df:I Deferred}(K:I U->Sg->Prop)(CL:W7 C n0 x0 m0 w0)(yZ:iA m0 x0.s w0)(ro:V Nat)(jI:C.ro ro):
  ∀(rest:I Oper)(i:Nat),a9.toList.drop i=rest++tail->∀(x:Cx)(tm:I U)(tv:I M)(m:Nm)(w:World)(a:Act),St F x tm tv m w a->a.defers=df->bQ m0 x0.s w0 m x.s w->Ke n0 x0 x->n0<=x.O.nx->RU C T a9.toList rest tm x.O K-> (∀y tm' cZ m' w' a',K tm' y.O->St F y tm' cZ m' w' a'->bQ m0 x0.s w0 m' y.s w'->Ke n0 x0 y->n0<=y.O.nx->a'.defers=df->wpOpsIn (pB ro) 0 C.prog a9 E L a' w')->wpOpsIn (pB ro) 0 C.prog a9 E (List.range' i rest.length++L) a w
 |[],i,_,x,tm,tv,m,w,a,st,hd,aS,eR,hn,h,hQ=>by simp only[zS,List.range'_zero,List.nil_append];exact hQ x tm tv m w a h st aS eR hn hd
 |o::rest,i,HG,x,tm,tv,m,w,a,st,hd,aS,eR,hn,h,hQ=>by
  have ho:a9[i]? = some o:=by have:=congrArg (fun l=>l[0]?) HG;simpa using this
  have bG:a9.toList.drop (i+1)=rest++tail:=by have:=congrArg List.tail HG;simpa using this
  simp only[zO,List.range'_succ,List.cons_append,wpOpsIn,ho,Qb (st.act m (aN.refl _ _)) a9 o];simp only[RU]at h;rcases h with⟨hw,u,O',h1,h2⟩|⟨hw,f,args,R,h1,h2,h3⟩|⟨hw,h1⟩|⟨hw,t,xo,yo,ty,e,b,l,h1,h2,h3,h4,h5⟩|⟨hw,R,h1,h2⟩;rw[vQ st.e hw];simp only[if_true];refine AO (OE h1) (st.op hT o h1 fun y cZ aH w₁ bB e1 cT bO d8 jT j6=>?_);exact Y6 hT a9 E L tail K CL yZ ro jI rest (i+1) bG y _ cZ aH w₁ bB cT (j6.trans hd) (aS.trans bO) (eR.trans (d8.le hn)) (by omega) (e1 ▸ h2) hQ;rw[vQ st.e hw];simp only[if_true];refine AO (Px h1) (st.call hT o h1 h2 fun y u cZ aH w₁ bB hR cT bO d8 jT j6=>?_);exact Y6 hT a9 E L tail K CL yZ ro jI rest (i+1) bG y _ cZ aH w₁ bB cT (j6.trans hd) (aS.trans bO) (eR.trans (d8.le hn)) (by omega) (h3 u y.O hR) hQ;rw[vQ st.e hw];simp only[Bool.false_eq_true,if_false];exact⟨fun _ _=>trivial,Y6 hT a9 E L tail K CL yZ ro jI rest (i+1) bG x _ _ m w _ (st.skip o.dst) ((P1 _ _ _).trans hd) aS eR hn h1 hQ⟩;rw[vQ st.e hw];simp only[if_true];refine AO (by rw[h1];intro c hc;cases hc) (st.nilq hT o h1 h2 h3 h4 fun z y cZ aH w₁ bB hz e1 cT bO d8 jT j6=>?_);exact Y6 hT a9 E L tail K CL yZ ro jI rest (i+1) bG y _ cZ aH w₁ bB cT (j6.trans hd) (aS.trans bO) (eR.trans (d8.le hn)) (by omega) (e1 ▸ h5 z hz) hQ;rw[vQ st.e hw];simp only[if_true];refine h1 F x tv m w a _ _ rfl st ⟨Nat.le_trans CL.nb hn,(CL.adv yZ aS eR).g⟩ (fun u y cZ aH w₁ bB hR cT bO d8 jT j6=>?_) ro jI;exact Y6 hT a9 E L tail K CL yZ ro jI rest (i+1) bG y _ cZ aH w₁ bB cT (j6.trans hd) (aS.trans bO) (eR.trans (d8.le hn)) (by omega) (h2 u y.O hR) hQ
def BA.dfr{id:Nat}{a9:Array Oper}{q:Code}(k:Nat){o:Oper}{c:Call}(hk:a9.toList[k]? = some o)(ho:o.op=.defer c)(hg:o.guard=none)(hds:o.dst=none)
  (h:RU (PG.of P) T a9.toList (a9.toList.take k) tm O (fun XP O1=>∃g QZ,kH T XP (.call c)=some (g,QZ)/\RU (PG.of P) T a9.toList (a9.toList.drop (k+1)) XP O1 (fun dr R5=>O1=R5/\WPU (PG.of P) R5.nx q dr R5 (fun e tm' O'=>(e=.normal\/e=.ret)/\W9 P T fn.results.toList n0 R g QZ tm' O')))):
  BA P T fn n0 R (.seq (.region id a9 false) q) tm O:=fun F x0 m0 w0 x tv m w a vT hn hx st aS eR hd=>by
 subst hx;obtain⟨hkl,hko⟩:=zG.1 hk;have FQ:a9.toList=a9.toList.take k++o::a9.toList.drop (k+1):=by rw[<-hko,<-List.drop_eq_getElem_cons hkl,List.take_append_drop]
 generalize a9.toList.take k=pre at h FQ;generalize a9.toList.drop (k+1)=post at h FQ;refine wpIn_seq (wpIn_region ?_);rw[List.range_eq_range'];have dS:a9.size=pre.length+(post.length+1):=by have:=congrArg List.length FQ;simpa using this
 have hrg:List.range' 0 a9.size=List.range' 0 pre.length++(pre.length::List.range' (pre.length+1) post.length):=by rw[dS,<-List.range'_append_1 (s:=0),Nat.zero_add,List.range'_succ]
 rw[hrg];refine Y6 (C:=PG.of P) (n0:=n0) hT a9 _ _ (o::post) (F:=F) (x0:=x) (m0:=m) (w0:=w) (df:=a.defers) _ ⟨Nat.zero_le _,trivial⟩ st.fits none trivial pre 0 (by simpa using FQ) x tm tv m w a st rfl (bQ.refl st.fits) (Ke.refl _ _) hn h ?_;rintro y tm' cZ m' w' a' ⟨g,QZ,zR,DJ⟩ cT bO d8 yU fL;have hoi:a9[pre.length]? = some o:=by
  have:a9.toList[pre.length]? = some o:=by rw[FQ];simp
  simpa using this
 have Vz:Region.wanted o (yielded a9 a'.tmps)=true:=by simp[Region.wanted,hg]
 simp only[wpOpsIn,hoi,Vz,if_true];obtain⟨vs,h1,h2⟩:=qyi cT.e zR;obtain⟨fv,cap,dargs,bI,e1,e2,e3⟩:=z7l hT cT.act o ho w' h1;refine⟨fun _ _=>trivial,?_⟩;have e4:(o.semAt (pB none).round a'.eval)=execOp a'.eval o:=Oper.semAt_none _ _;rw[e4,e1];rw[Oper.uponIn_defer];rw[hds];have O3:St F y tm' cZ m' w' (({ a' with defers:=({ target:=.fn fv cap,args:=dargs }:Deferred)::a'.defers }:Act).put none undef):=
  ⟨cT.h,cT.fr,cT.e,cT.fits,fun m'' m6=>cT.act m'' m6⟩
 have key:=Y6 (C:=PG.of P) (n0:=y.O.nx) hT a9 (Exit.then (Code.wpIn (pB none) 0 P q (bodyPostDIn (pB none) 0 P fn (RB F R x0 m0 w0))) (bodyPostDIn (pB none) 0 P fn (RB F R x0 m0 w0))) [] [] (F:=F) (x0:=y) (m0:=m') (w0:=w') (df:={ target:=.fn fv cap,args:=dargs }::a'.defers) _ ⟨Nat.zero_le _,trivial⟩ cT.fits none trivial post (pre.length+1) (by rw[FQ];simp) y _ _ m' w' _ O3 (P1 _ _ _) (bQ.refl cT.fits) (Ke.refl _ _) (zF _) DJ ?_;rw[List.append_nil]at key;exact key;rintro z dr tv2 m2 w2 a2 ⟨DB,hw⟩ S2 d9 KG Q3 hdf2;simp only[wpOpsIn];refine BA.clos hT (tm:=dr) (O:=z.O) (fn:=fn) (n0:=n0) (R:=R) (by rw[<-DB];exact yU) hw F x0 m0 w0 z tv2 m2 w2 a2 fv cap dargs bI vs vT rfl S2 ((aS.trans bO).trans d9) ((eR.trans d8).trans (KG.le yU)) (by rw[hdf2,fL,hd]) e2 (KG.E h2.bel h2) (fun m'' m6=>e3 m'' (d9.agree.trans m6 d9.nx))
end
variable{q:I U}
variable{p:I U}
variable{a:Nat}
def qzx{n:Nat}(h:lB q a n=some p):a+n<=q.length/\(q.drop a).take n=p:=by unfold lB at h;split at h;rename_i hj;exact⟨hj,Option.some.inj h⟩;cases h
variable{sz:Nat}
variable{fo:Nat}
def An{u:U}(h:lB q a sz=some p)(h2:nth p fo=some u):nth q (a+fo)=some u:=by obtain⟨h1,rfl⟩:=qzx h;rw[jA]at h2 ⊢;have hl:=(zG.1 h2).1;rw[List.length_take]at hl;rw[List.getElem?_take_of_lt (by omega),List.getElem?_drop]at h2;exact h2
def Ad{p' cs:I U}(h:lB q a sz=some p)(h2:qG p fo cs=some p'):qG q (a+fo) cs=qG q a p':=by
 obtain⟨h1,rfl⟩:=qzx h;unfold qG at h2;split at h2
 ·rename_i hj;have hp:=Option.some.inj h2;rw[List.length_take,List.length_drop]at hj;have hl:p'.length=sz:=by rw[<-hp];simp;omega
  unfold qG;rw[if_pos (by omega),if_pos (by omega),<-hp];congr 1;have e1:List.take fo (List.take sz (List.drop a q))=List.take fo (List.drop a q):=by rw[List.take_take,Nat.min_eq_left (by omega)]
  have e2:List.take (a+fo) q=List.take a q++List.take fo (List.drop a q):=List.take_add;have e3:List.drop (a+fo+cs.length) q=List.drop (fo+cs.length) (List.take sz (List.drop a q))++List.drop (a+sz) q:=by
   have:List.drop a q=List.take sz (List.drop a q)++List.drop (a+sz) q:=by rw[<-List.drop_drop,List.take_append_drop]
   rw[Nat.add_assoc,<-List.drop_drop]
   conv=>lhs;rw[this]
   rw[List.drop_append_of_le_length (by rw[List.length_take,List.length_drop];omega)]
  rw[e1,e2,e3];simp[zT,hl];omega
 cases h2
section
variable{T:Tb}{O O':Sg}{n:Nat}{l:I (Nat×U)}{u v w:U}
def wH{v11:Type}(c:v11->I U){t e':X}{d:TypeDesc}{K st off m:Nat}{xs:I v11}{i:Int}{x:v11}{o:Operand}(hd:T.und t=some d)(ha:sE d=false)(hc:∀x,(c x).length=sz)(ho:c7 n l o=some (.ptr K st (off*sz+i.toNat*sz+fo)))(hv:gt O.h K=some (.vec (xs.map c).flatten e' sz st))(hx:iU xs off m i=some x)(hu:nth (c x) fo=some u):bM T O (fr n l) (.load t o)=some (u,O):=by
 refine NP rfl ?_;have hb:Nat.beq st st=true:=by simp[beq_eq]
 have hg:=ij hc (YT hx).2.2;rw[Nat.add_mul]at hg;simp only[nI,fN ho,cellsOf,hv,hb,zC,GQ,hd,ha,zD,An hg hu]
def A'{v11:Type}(c:v11->I U){t e':X}{s K st off m:Nat}{xs:I v11}{i:Int}{x y:v11}{o z:Operand}{cs:I U}{h':I (Nat×B)}(hs:cO T t=some s)(hc:∀x,(c x).length=sz)(ho:c7 n l o=some (.ptr K st (off*sz+i.toNat*sz+fo)))(hz:c7 n l z=some v)(uP:xL v=some cs)(hk:okL cs=true)(hl:Nat.beq cs.length s=true)(hv:gt O.h K=some (.vec (xs.map c).flatten e' sz st))(hx:iU xs off m i=some x)(hy:qG (c x) fo (rZ cs)=some (c y))(DB:ug O.h K (.vec ((xs.set (off+i.toNat) y).map c).flatten e' sz st)=h'):bM T O (fr n l) (.store t o z)=some (.junk,⟨h',O.nx⟩):=by
 subst DB;have hb:Nat.beq st st=true:=by simp
 have hj:=(zG.1 (YT hx).2.2).1;have hg:=ij hc (YT hx).2.2;have hp:=Ad hg hy;rw[ny hc hj y,Nat.add_mul]at hp;exact HX rfl rfl (by simp only[nX,fN ho,fN hz,Y4,hs,uP,hl,hk,zC,cellsOf,hv,hb,GL,hp,M8])
end
def uH{O:Sg}{k t e:Nat}{l:I U}(h:gt O.h k=some (.vec l e sz t)):bW O k t=true:=by simp only[bW,h,B.st,beq_eq,yC]
def V4{A v09:Type}(K:Nat)(b:B)(sz:Nat)(kU:A->U)(vU:v09->U)[p:Lo vU](es:I (A×v09×Nat)):
  (es.map (mE kU vU)).map (fun e=>{ e with val:=fz K b sz e.val })=es.map (mE kU vU):=by rw[List.map_map];refine List.map_congr_left fun e _=>?_;simp only[Function.comp,mE,xi b sz _ (p.h K e.2.1)]
variable{T:Tb}
variable{t:X}
variable{e:X}
variable{sz:Nat}
variable{z:M}
def qvr{P:Program}(hT:lP P T){m:Nm}{s:S}(w:World){by_ n:Nat}{ps:I (Nat×M)}{cps:I (Nat×M)}{cs:I M}
  (Kt:∀m',aN s.nx m m'->ps.map (fun p=>(p.1,aI m' p.2))=cps) (hd:T.und t=some (.slice e)) (hi:T.inf e=some (sz,by_,z)) (h1:Nat.ble (n*sz) 16777216=true) (h2:z.cells.toList.length=sz) (h3:EO (fun i=>some (i*sz,sz)) (cC z.cells.toList n) ps=some cs):
  ∃cl,nZ m s.nx cs cl/\(Instr.buildSlice t n cps.toArray).run P w=.ok (.slice (some ⟨w.heap.size,0,none⟩) n n) (w.alloc (.cells ⟨cl⟩ e)):=by
 have dS:cO T e=some sz:=by simp[cO,hi]
 have hz:=fun m'=>J7 hT m' w hi;have vS:=Hs hT hi;simp only at hz vS;have xU:n*sz<=16777216:=by simpa[Nat.ble_eq]using h1
 have m8:∀m',aN s.nx m m'->Instr.fill (fun i=>some (i*sz,sz)) ⟨cC z.cells.toList n⟩ cps=some ⟨aJ m' cs⟩:=fun m' ha=>by have:=Pf m' _ ps _ _ h3;rw[Kt m' ha,Qa vS]at this;exact this
 have eS:nZ m s.nx cs (aJ m cs):=fun m' ha=>by have e1:=m8 m' ha;have e2:=m8 m (aN.refl _ _);rw[e1]at e2;simpa using e2
 have iD:z.cells.size=sz:=by simpa using h2
 refine⟨aJ m cs,eS,?_⟩;have gA:(Array.range (n*sz)).map (fun i=>(if n*sz=0 then(#[]:Array M)else z.cells)[i%(if n*sz=0 then(#[]:Array M)else z.cells).size]!)=⟨cC z.cells.toList n⟩:=by
  by_cases h0:n*sz=0;rw[h0];apply Array.ext';have:(cC z.cells.toList n).length=0:=by rw[jy,h2,h0]
  simp[List.length_eq_zero_iff.1 this];simp only[if_neg h0];have:=Ph z.cells n;rw[iD]at this;rw[<-this];simp[iD]
 have UV:=m8 m (aN.refl _ _);have hnot:¬ n*sz>2^24:=by omega
 have Q0:=(hz m).1;by_cases h0:n*sz=0;simp only[if_pos h0]at gA;simp only[Instr.buildSlice,zK,iK hT w hd,zJ,o6 hT w dS,Sem.run_ite,if_neg hnot,zL,if_pos h0];rw[gA,UV];simp[Go.newRow];simp only[if_neg h0]at gA;simp only[Instr.buildSlice,zK,iK hT w hd,zJ,o6 hT w dS,Sem.run_ite,if_neg hnot,zL,if_neg h0,Q0];rw[gA,UV];simp[Go.newRow]
def IX.bslw{C:PG}(hT:lP C.prog T){O:Sg}{tm:I U}{o:Oper}{k b:Nat}{zu cs0 cs:I U}{ps:Array (Nat×Operand)}{qs:I (Nat×U)}(ho:o.op=.buildSlice t k ps)(hd:T.und t=some (.slice e))(hi:T.inf e=some (sz,b,z))
  (h:AN tm ps.toList=some qs) (h1:Nat.ble (k*sz) 16777216=true) (h3:Nat.beq z.cells.toList.length sz=true) (hz:qH z.cells.toList=some zu) (hf:uY (fun i=>some (i*sz,sz)) (vN zu k) qs=some cs0) (hw:rQ cs0 cs) (hk:okL cs=true) (hl:Nat.beq cs.length (k*sz)=true) (hs:Nat.blt 0 sz=true):
  IX C O tm o (fun u O'=>u=.vl O.nx 0 0 k/\O'=newU O (.vec cs e sz 0)):=fun F x tv m w a next Q v5 st hG hn ro jI=>by
 subst v5;obtain⟨vs,ev,hp⟩:=f_ st.e h;have uN:=(ON _ _ hz).2 x;obtain⟨rv,f1,f2⟩:=Pv hp (Hi uN k) hf;have f2:bF x cs rv:=⟨hw.rel f2.1,by rw[hw.len];exact f2.2⟩;have h2:z.cells.toList.length=sz:=by simpa[beq_eq]using h3
 obtain⟨cl,g1,g2⟩:=qvr hT (m:=m) (s:=x.s) w (cps:=ps.toList.map fun p=>(p.1,a.eval p.2)) (fun m' dK=>(oc (st.act m' dK) ev).symm) hd hi h1 h2 f1;have e1:(ps.map fun(i,x)=>(i,a.eval x))=(ps.toList.map fun p=>(p.1,a.eval p.2)).toArray:=by cases ps;simp
 have cX:(execOp a.eval o).run C.prog w=.ok (.value (.slice (some ⟨w.heap.size,0,none⟩) k k)) (w.alloc (.cells ⟨cl⟩ e)):=by simp only[execOp,ho];rw[e1];simp only[zK,g2,zJ,zL]
 have bA:rv.length=k*sz:=by
  have h5:=f2.2;have h6:cs.length=k*sz:=by simpa[beq_eq]using hl
  rw[<-h5,h6]
 have aS:bQ m x.s w (m.set x.s.nx w.heap.size 0 k) (Rx.newRow x.s rv e (sz+2)) (w.alloc (.cells ⟨cl⟩ e)):=by have:=yr st.fits (rest:=[]) g1 e k sz (by simpa using bA);simpa using this
 have dS:0<sz:=by simpa[Nat.blt_eq]using hs
 have kP:=vf st.h f2 hk e dS;have hO:fI (m.set x.s.nx w.heap.size 0 k) (x.s.nx+1) (.slice (some ⟨x.s.nx,0,none⟩) k bY) (.slice (some ⟨w.heap.size,0,none⟩) k k):=fun m' ha=>by obtain⟨q1,q2,q3⟩:=ha x.s.nx (zN _);obtain⟨r1,r2,r3⟩:=D8 m x.s.nx w.heap.size 0 k;simp[aI,q1,q2,r1,r2,bX,bR,q3,r3]
 refine AO (by rw[ho];intro c hc;cases hc) ?_;unfold Oper.wp;rw[cX];exact hn _ ⟨mL x.Y x.O.nx (some x.s.nx),newU x.O (.vec cs e sz 0),Rx.newRow x.s rv e (sz+2)⟩ (NO tv o.dst (.slice (some ⟨x.s.nx,0,none⟩) k bY)) _ _ _ ⟨rfl,rfl⟩
  ⟨kP.h,kP.fr F st.fr,Pc (kP.mo.ke.E st.e.bel st.e) kx _,aS.fits,(st.act.ext aS.agree aS.nx).put hO o.dst⟩ aS kP.mo.ke kP.mo.nx (P1 _ _ _)
def IX.bslv{C:PG}(hT:lP C.prog T){O:Sg}{tm:I U}{o:Oper}{k b:Nat}{zu cs:I U}{ps:Array (Nat×Operand)}{qs:I (Nat×U)}(ho:o.op=.buildSlice t k ps)(hd:T.und t=some (.slice e))(hi:T.inf e=some (sz,b,z))
  (h:AN tm ps.toList=some qs) (h1:Nat.ble (k*sz) 16777216=true) (h3:Nat.beq z.cells.toList.length sz=true) (hz:qH z.cells.toList=some zu) (hf:uY (fun i=>some (i*sz,sz)) (vN zu k) qs=some cs) (hk:okL cs=true) (hl:Nat.beq cs.length (k*sz)=true) (hs:Nat.blt 0 sz=true):
  IX C O tm o (fun u O'=>u=.vl O.nx 0 0 k/\O'=newU O (.vec cs e sz 0)):=IX.bslw hT ho hd hi h h1 h3 hz hf (rQ.refl _) hk hl hs
def AV(K K2 k:Nat):Nat:=cond (Nat.beq k K) K2 k
def N6(K K2:Nat):I (Nat×B)->I (Nat×B)
 |[]=>[]|(k,b)::h=>cond (Nat.beq k K) (N6 K K2 h) (cond (Nat.beq k K2) ((K,b)::N6 K K2 h) ((k,b)::N6 K K2 h))
def ab{K K2:Nat}(d5:K≠K2):∀(h:I (Nat×B))(j:Nat),gt (N6 K K2 h) j=if j=K then gt h K2 else if j=K2 then none else gt h j
 |[],j=>by simp[N6,gt]
 |(k,b)::h,j=>by have ih:=ab d5 h j;simp only[N6,beq_eq];by_cases e1:k=K;subst e1;simp only[yC,zC,ih,eA];by_cases e2:j=k;subst e2;simp[d5];simp[e2,Ne.symm e2];by_cases e2:k=K2;subst e2;simp only[e1,yB,zD,yC,zC,eA,ih];by_cases e3:j=K;subst e3;simp;by_cases e4:j=k;simp[e4,e1,Ne.symm e3];intro h;exact absurd h.symm e1;simp[e3,e4,Ne.symm e3,Ne.symm e4];simp only[e1,e2,yB,zD,eA,ih];by_cases e3:j=K;subst e3;simp[e1,e2];by_cases e4:j=K2;subst e4;simp[e3,e2];simp[e3,e4]
def rS(Z:Nat->Nat):I (Nat×U)->I (Nat×U)
 |[]=>[]|(i,u)::l=>(i,rU Z u)::rS Z l
def qz5(Z:Nat->Nat):∀(l:I (Nat×U))(i:Nat),o4 (rS Z l) i=(o4 l i).map (rU Z)
 |[],i=>rfl|(j,u)::l,i=>by simp only[rS,o4,beq_eq,qz5 Z l i];by_cases e:j=i<;>simp[e]
def z5i(Z:Nat->Nat):∀(l:I U)(i:Nat),(jG Z l)[i]? = (l[i]?).map (rU Z)
 |[],i=>by simp[jG]
 |u::l,0=>by simp[jG]
 |u::l,i+1=>by simp[jG,z5i Z l i]
def XX(Z:Nat->Nat)(n:Nat)(l:I (Nat×U)):jG Z (fr n l)=fr n (rS Z l):=by apply List.ext_getElem?;intro k;rw[z5i];by_cases hk:k<n;rw[OL n l hk,OL n _ hk,qz5];rcases o4 l k with _|w;simp[rU];rfl;rw[List.getElem?_eq_none (by simp[GY];omega),List.getElem?_eq_none (by simp[GY];omega)];rfl
def qw(Z:Nat->Nat):I (Nat×B)->Prop
 |[]=>True|(_,b)::h=>rB Z b=b/\qw Z h
def z9g{Z:Nat->Nat}:∀{h:I (Nat×B)},qw Z h->∀k b,gt h k=some b->rB Z b=b
 |[],_,k,b,hg=>by cases hg
 |(j,c)::h,ha,k,b,hg=>by rw[eA]at hg;by_cases e:j=k;rw[if_pos e]at hg;cases hg;exact ha.1;rw[if_neg e]at hg;exact z9g ha.2 k b hg
def Gh.mv{n0 n:Nat}{l l':I (Nat×U)}{O:Sg}{h':I (Nat×B)}(K K2:Nat)(h0:n0<=K)(hK:Nat.blt K O.nx=true)(d5:Nat.beq K K2=false)(hl:rS (AV K K2) l'=l)(hm:N6 K K2 O.h=h')(ha:qw (AV K K2) h')[hb:BS O.nx l']:Gh n0 (fr n l) O (fr n l') ⟨h',O.nx⟩:=fun F x tv hx hr hf he=>by
 subst hx;subst hl;subst hm;have hK':K<x.O.nx:=by simpa[Nat.blt_eq]using hK
 have By:K≠K2:=by simpa[beq_eq]using d5
 have key:∀k b,gt (N6 K K2 x.O.h) k=some b->gt x.O.h (AV K K2 k)=some b:=fun k b hg=>by rw[ab By]at hg;simp only[AV,beq_eq];by_cases e:k=K;rw[if_pos e]at hg;simpa[e]using hg;rw[if_neg e]at hg;by_cases e2:k=K2;rw[if_pos e2]at hg;cases hg;rw[if_neg e2]at hg;simpa[e]using hg
 let y:Cx:=⟨fun k=>x.Y (AV K K2 k),⟨N6 K K2 x.O.h,x.O.nx⟩,x.s⟩
 have hU:YF x.O.nx (AV K K2) x y:=⟨fun k st off v hk h=>by
   simp only[aD,Ref]at h ⊢;exact⟨h.1,hk,fun b hb=>h.2.2 b (key k b hb)⟩,fun k off m c v hk h=>by
   simp only[aD,Ref]at h ⊢;exact⟨h.1,hk,fun b hb=>h.2.2 b (key k b hb)⟩,fun k st off m v hk h=>by
   simp only[aD]at h ⊢;exact⟨h.1,hk,fun b hb=>h.2.2 b (key k b hb)⟩,fun k v hk h=>by
   simp only[aD,Ref]at h ⊢;exact⟨h.1,hk,fun b hb=>h.2.2 b (key k b hb)⟩,fun _ _ _ h=>h⟩
 have Xs:∀u,bC n0 u->rU (AV K K2) u=u:=fun u ee=>by
  have:=z5j (Z:=id) (κ:=AV K K2) (n:=n0) (fun k hk=>by
   have:¬ k=K:=by omega
   simp[AV,beq_eq,this]) u ee
  rwa [dw]at this
 refine⟨y,fun m w hf=>bQ.refl hf,rfl,⟨fun k b hb=>?_,fun k k' b b' i hb cV h1 h2=>?_,hr.bd⟩,fun i b J=>?_,?_,fun u v ee hv=>?_⟩;have hg:=key k b hb;obtain⟨g1,g2⟩:=hr.ok _ _ hg;have hkl:k<x.O.nx:=by
  by_cases e:k=K;omega;have e2:AV K K2 k=k:=by simp[AV,beq_eq,e]
  rw[e2]at g1;exact g1
 refine⟨hkl,oS.unleaf hU g2.belB rfl (fun _ _ _ h=>h) ?_⟩;rw[z9g ha k b hb];exact g2;have e:=hr.inj _ _ b b' i (key k b hb) (key k' b' cV) h1 h2;have Q3:∀k b,gt (N6 K K2 x.O.h) k=some b->k≠K2:=fun k b hb h=>by subst h;rw[ab By,if_neg (Ne.symm By),if_pos rfl]at hb;cases hb
 have q1:=Q3 k b hb;have q2:=Q3 k' b' cV;simp only[AV,beq_eq]at e;by_cases e1:k=K;by_cases e2:k'=K;rw[e1,e2];simp[e1,e2]at e;exact absurd e.symm q2;by_cases e2:k'=K;simp[e1,e2]at e;exact absurd e q1;simpa[e1,e2]using e;obtain⟨h1,h2⟩:=hf i b J;exact⟨h1,fun k c hc=>h2 _ c (key k c hc)⟩;refine bF.unleaf hU (je hb.h) ?_;rw[XX];exact he;exact aD.unleaf hU u v (bC.le (by omega) u ee) (by rw[Xs u ee];exact hv)
variable{T:Tb}{O:Sg}
variable{e:X}
def EN{t:X}{m sz k st off:Nat}{i:Int}{kd:IntKind}(hd:T.und t=some (.array m e))(hs:cO T e=some sz)(hl:bW O k st=true)(hi:0<=i/\i<m){iL:Nat}(ho:off+i.toNat*sz=iL):BQ T O t (.ptr k st off) (.int kd i)=some (.ptr k st iL):=by subst ho;simp only[BQ,hd,hs,hl,zC,if_pos hi]
def Uu{t:X}{k st off:Nat}{op:BinOp}{u:U}(hd:T.und t=some (.pointer e))(hl:bW O k st=true)(hu:WE op=some u):OG T O op t (.ptr k st off) .nilp=some u:=by simp only[OG,uF,hd,eU,hl,ES,hu,zC,Nat.beq,zD]
def zo{v11:Type}(c:v11->I U){n0 n:Nat}{l l':I (Nat×U)}{O O':Sg}{K:Nat}{xs:I v11}{sz st:Nat}(hc:∀x,(c x).length=sz)(hg:gt O.h K=some (.vec (xs.map c).flatten e sz st))(j:Nat)(ht:HW l l')(hs:(⟨ug O.h K (.vec ((xs.take j).map c).flatten e sz st),O.nx⟩:Sg)=O'):Gh n0 (fr n l) O (fr n l') O' :=
 Gh.trans (Gh.truncL c hc hg j) (oT ht hs)
end Go.Vx
namespace Go.Proofs
open Go Go.Rx
def fn5:tb.fn 5=some Tryz.f5:=by kernel_rfl
def fn9:tb.fn 9=some Tryz.f9:=by kernel_rfl
def Zz:tb.fn 10=some Tryz.f10:=by kernel_rfl
def LA:tb.fn 11=some Tryz.f11:=by kernel_rfl
def Du:tb.fn 12=some Tryz.f12:=by kernel_rfl
def Zy:tb.fn 13=some Tryz.f13:=by kernel_rfl
def Zx:tb.fn 14=some Tryz.f14:=by kernel_rfl
def Zw:tb.fn 16=some Tryz.f16:=by kernel_rfl
def QW:tb.fn 17=some Tryz.f17:=by kernel_rfl
def KY:tb.fn 18=some Tryz.f18:=by kernel_rfl
def KX:tb.fn 19=some Tryz.f19:=by kernel_rfl
def A4:tb.fn 20=some Tryz.f20:=by kernel_rfl
def QV:tb.fn 21=some Tryz.f21:=by kernel_rfl
def Dt:tb.fn 22=some Tryz.f22:=by kernel_rfl
def FZ:tb.fn 23=some Tryz.f23:=by kernel_rfl
def QU:tb.fn 24=some Tryz.f24:=by kernel_rfl
def A3:tb.fn 25=some Tryz.f25:=by kernel_rfl
def Zv:tb.fn 26=some Tryz.f26:=by kernel_rfl
def CN:tb.fn 28=some Tryz.f28:=by kernel_rfl
def QT:tb.fn 31=some Tryz.f31:=by kernel_rfl
def Zu:tb.fn 32=some Tryz.f32:=by kernel_rfl
def Zt:tb.fn 33=some Tryz.f33:=by kernel_rfl
def QS:tb.fn 34=some Tryz.f34:=by kernel_rfl
def FY:tb.fn 35=some Tryz.f35:=by kernel_rfl
def QR:tb.fn 36=some Tryz.f36:=by kernel_rfl
def Zs:tb.fn 37=some Tryz.f37:=by kernel_rfl
def Zr:tb.fn 38=some Tryz.f38:=by kernel_rfl
def Zq:tb.fn 39=some Tryz.f39:=by kernel_rfl
def Zp:tb.fn 40=some Tryz.f40:=by kernel_rfl
def Zo:tb.fn 41=some Tryz.f41:=by kernel_rfl
def Ds:tb.fn 43=some Tryz.f43:=by kernel_rfl
def Dr:tb.fn 44=some Tryz.f44:=by kernel_rfl
def QQ:tb.fn 45=some Tryz.f45:=by kernel_rfl
def Zn:tb.fn 46=some Tryz.f46:=by kernel_rfl
def Zm:tb.fn 47=some Tryz.f47:=by kernel_rfl
def QO:tb.fn 48=some Tryz.f48:=by kernel_rfl
def Zl:tb.fn 49=some Tryz.f49:=by kernel_rfl
def Zk:tb.fn 50=some Tryz.f50:=by kernel_rfl
def Zj:tb.fn 51=some Tryz.f51:=by kernel_rfl
def Zi:tb.fn 52=some Tryz.f52:=by kernel_rfl
def Dq:tb.fn 56=some Tryz.f56:=by kernel_rfl
def Zh:tb.fn 59=some Tryz.f59:=by kernel_rfl
def KW:tb.fn 60=some Tryz.f60:=by kernel_rfl
def Zg:tb.fn 61=some Tryz.f61:=by kernel_rfl
def Zf:tb.fn 62=some Tryz.f62:=by kernel_rfl
def oP:tb.fn 63=some Tryz.f63:=by kernel_rfl
def Ze:tb.fn 64=some Tryz.f64:=by kernel_rfl
def QM:tb.fn 65=some Tryz.f65:=by kernel_rfl
def Zd:tb.fn 66=some Tryz.f66:=by kernel_rfl
def Zc:tb.fn 67=some Tryz.f67:=by kernel_rfl
def Dp:tb.fn 68=some Tryz.f68:=by kernel_rfl
def Zb:tb.fn 69=some Tryz.f69:=by kernel_rfl
def Za:tb.fn 70=some Tryz.f70:=by kernel_rfl
def Yz:tb.fn 71=some Tryz.f71:=by kernel_rfl
def Yy:tb.fn 72=some Tryz.f72:=by kernel_rfl
def Yx:tb.fn 73=some Tryz.f73:=by kernel_rfl
def Yw:tb.fn 74=some Tryz.f74:=by kernel_rfl
def Yv:tb.fn 75=some Tryz.f75:=by kernel_rfl
def Do:tb.fn 76=some Tryz.f76:=by kernel_rfl
def Yu:tb.fn 77=some Tryz.f77:=by kernel_rfl
def Yt:tb.fn 78=some Tryz.f78:=by kernel_rfl
def Ys:tb.fn 79=some Tryz.f79:=by kernel_rfl
def Dn:tb.fn 80=some Tryz.f80:=by kernel_rfl
def Yr:tb.fn 81=some Tryz.f81:=by kernel_rfl
def Dm:tb.fn 89=some Tryz.f89:=by kernel_rfl
def QL:tb.fn 90=some Tryz.f90:=by kernel_rfl
def Dl:tb.fn 91=some Tryz.f91:=by kernel_rfl
def Yq:tb.fn 92=some Tryz.f92:=by kernel_rfl
def Yp:tb.fn 93=some Tryz.f93:=by kernel_rfl
def Dk:tb.fn 94=some Tryz.f94:=by kernel_rfl
def Yo:tb.fn 95=some Tryz.f95:=by kernel_rfl
def Yn:tb.fn 96=some Tryz.f96:=by kernel_rfl
def Ym:tb.fn 97=some Tryz.f97:=by kernel_rfl
def Yl:tb.fn 98=some Tryz.f98:=by kernel_rfl
def KV:tb.fn 99=some Tryz.f99:=by kernel_rfl
def LC:tb.fn 100=some Tryz.f100:=by kernel_rfl
def DY:tb.fn 101=some Tryz.f101:=by kernel_rfl
def VV:tb.fn 102=some Tryz.f102:=by kernel_rfl
def VU:tb.fn 103=some Tryz.f103:=by kernel_rfl
def VT:tb.fn 104=some Tryz.f104:=by kernel_rfl
def VS:tb.fn 105=some Tryz.f105:=by kernel_rfl
def LB:tb.fn 106=some Tryz.f106:=by kernel_rfl
def VR:tb.fn 107=some Tryz.f107:=by kernel_rfl
def DX:tb.fn 108=some Tryz.f108:=by kernel_rfl
def VQ:tb.fn 111=some Tryz.f111:=by kernel_rfl
def VP:tb.fn 116=some Tryz.f116:=by kernel_rfl
def tY:tb.fn 117=some Tryz.f117:=by kernel_rfl
def L9:tb.fn 118=some Tryz.f118:=by kernel_rfl
def DW:tb.fn 119=some Tryz.f119:=by kernel_rfl
def A5:tb.fn 120=some Tryz.f120:=by kernel_rfl
def DV:tb.fn 121=some Tryz.f121:=by kernel_rfl
def VO:tb.fn 122=some Tryz.f122:=by kernel_rfl
def VN:tb.fn 123=some Tryz.f123:=by kernel_rfl
def VM:tb.fn 124=some Tryz.f124:=by kernel_rfl
def VL:tb.fn 125=some Tryz.f125:=by kernel_rfl
def VK:tb.fn 126=some Tryz.f126:=by kernel_rfl
def nC:tb.fn 127=some Tryz.f127:=by kernel_rfl
def VJ:tb.fn 128=some Tryz.f128:=by kernel_rfl
def VI:tb.fn 129=some Tryz.f129:=by kernel_rfl
def VH:tb.fn 130=some Tryz.f130:=by kernel_rfl
def L8:tb.fn 131=some Tryz.f131:=by kernel_rfl
def L7:tb.fn 132=some Tryz.f132:=by kernel_rfl
def L6:tb.fn 133=some Tryz.f133:=by kernel_rfl
def DU:tb.fn 134=some Tryz.f134:=by kernel_rfl
def VG:tb.fn 135=some Tryz.f135:=by kernel_rfl
def L5:tb.fn 136=some Tryz.f136:=by kernel_rfl
def L4:tb.fn 137=some Tryz.f137:=by kernel_rfl
def VF:tb.fn 138=some Tryz.f138:=by kernel_rfl
def VE:tb.fn 140=some Tryz.f140:=by kernel_rfl
def VD:tb.fn 145=some Tryz.f145:=by kernel_rfl
def L3:tb.fn 146=some Tryz.f146:=by kernel_rfl
def VC:tb.fn 147=some Tryz.f147:=by kernel_rfl
def tX:tb.fn 148=some Tryz.f148:=by kernel_rfl
def VB:tb.fn 149=some Tryz.f149:=by kernel_rfl
def VA:tb.fn 150=some Tryz.f150:=by kernel_rfl
def V9:tb.fn 151=some Tryz.f151:=by kernel_rfl
def V8:tb.fn 152=some Tryz.f152:=by kernel_rfl
def V7:tb.fn 153=some Tryz.f153:=by kernel_rfl
def L2:tb.fn 165=some Tryz.f165:=by kernel_rfl
def L1:tb.fn 171=some Tryz.f171:=by kernel_rfl
def V6:tb.fn 172=some Tryz.f172:=by kernel_rfl
def V5:tb.fn 174=some Tryz.f174:=by kernel_rfl
def KZ:tb.fn 175=some Tryz.f175:=by kernel_rfl
end Go.Proofs
