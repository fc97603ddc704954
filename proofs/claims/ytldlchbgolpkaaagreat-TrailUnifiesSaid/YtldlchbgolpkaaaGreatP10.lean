/-
  Texts of the walk: MpO.
-/
import Derived.DefersIn
import Derived.Test.YtldlchbgolpkaaaGreatP9
set_option linter.unusedSimpArgs false
set_option linter.unusedVariables false
section
namespace Go.Vx
open Go Go.Rx
section
variable {P:Program} {T:Tb} (hT:qfp P T)
include hT
theorem z1y {m:Nm} {n:Nat} {tm:List Value} {a:Act} (ha:qqq m n tm a) (o:Oper) {c:Call} (ho:o.op = .defer c) (w:World) {f:FuncId} {args:List Value} (h:callOf T tm (.call c)=some (f,args)) :
  ∃ fv cap dargs cargs,(execOp a.eval o).run P w = .ok (.defer { target:=.fn fv cap,args:=dargs }) w∧(∀ w',(invoke (.fn fv cap) dargs).run P w' = .ok (.enter f cargs.toArray) w')∧qi9 m n args cargs:=by
 obtain ⟨dst,op,type,pos,after,guard⟩:=o
 simp only at ho
 subst ho
 unfold callOf at h
 obtain ⟨callee,as,ats⟩:=c
 simp only at h
 cases callee with
 | value g =>
  simp only at h
  cases hg:evalO tm g with
  | none=>simp [hg] at h
  | some u =>
   cases u with
   | func fn first cap =>
    cases fn with
    | func k =>
     simp only [hg] at h
     cases hk:T.fn k with
     | none=>simp [hk] at h
     | some fn =>
      simp only [hk] at h
      cases hb:fn.body.isSome with
      | false=>simp [hb] at h
      | true =>
       simp only [hb,zC] at h
       cases hl:q6o tm as.toList with
       | none=>simp [hl] at h
       | some vs =>
        simp only [hl,zA,zB] at h
        obtain ⟨rfl,rfl⟩:=h
        obtain ⟨hfn,hname⟩:=hT.fn k fn hk
        obtain ⟨first⟩:=first
        obtain ⟨cap⟩:=cap
        have e0:=q18 (ha m (Agree.refl _ _)) hg
        have e1:=q3f (ha m (Agree.refl _ _)) hl
        have hnb:fn.body.isNone=false:=by cases hbb:fn.body<;>simp_all
        refine ⟨.func k,(renL m cap).toArray,(renL m first++renL m vs).toArray,renL m first++renL m vs++renL m cap,?_,fun w'=>?_,fun m' hm'=>?_⟩
        ·simp only [ren,renA_mk] at e0
         simp only [execOp,zK,resolve,e0,e1,Deferred.ofValue,zL,zJ]
         simp
        ·simp only [invoke,callFunc,zK,run_program,zJ,hfn,hname hb,hnb,Bool.false_eq_true,if_false]
         simp
        ·have e0':=q18 (ha m' hm') hg
         have e1':=q3f (ha m' hm') hl
         rw [e0] at e0'
         rw [e1] at e1'
         simp_all [ren,q28]
    | _=>simp [hg] at h
   | _=>simp [hg] at h
 | _=>simp at h
abbrev EndU (T:Tb) (rs:List ResultVar) (n0:Nat) (R:U→Sg→Prop) (tm:List U) (σ:Sg):Prop :=
 ∃ l,qjs T σ tm rs=some l∧∃ u' σ'',n0≤σ''.nx∧Gh n0 [qlh l] σ [u'] σ''∧R u' σ''
def z3q (F:Nat→Blk→Prop) (R:U→Sg→Prop) (x:Cx) (m:Nm) (w:World):Ending→World→Prop:=fun e w₁ =>
 ∃ y m₁ u v cv,e = .returned cv∧R u y.σ∧Adv m x.s w m₁ y.s w₁∧q8f m₁ y.s.nx v cv∧qfj y∧Fr F y∧Rel y u v∧Ke x.σ.nx x y∧x.σ.nx≤y.σ.nx
theorem z45 {fn:Func} {R:U→Sg→Prop} {F:Nat→Blk→Prop} {x y:Cx} {tm:List U} {tv:List Value} {m m':Nm} {w w':World} {a:Act} (st:St F y tm tv m' w' a) (hadv:Adv m x.s w m' y.s w') (hke:Ke x.σ.nx x y) (h:EndU T fn.results.toList x.σ.nx R tm y.σ) :
  ∃ v,(results fn a.tmps).run P w' = .ok v w'∧z3q F R x m w (.returned v) w':=by
 obtain ⟨l,hres,u',σ'',hnx,hgh,hR⟩:=h
 obtain ⟨ls,hres',hrl⟩:=qnd st.h st.e hres
 have hrun:∀ m'',Agree y.s.nx m' m''→(results fn a.tmps).run P w' = .ok (ren m'' (qqr ls)) w':=fun m'' hm''=>by
  rw [st.act m'' hm'']
  exact qkh hT (st.fits m'' hm'') hres'
 have hrel:q8f m' y.s.nx (qqr ls) (ren m' (qqr ls)):=fun m'' hm''=>by
  have e1:=hrun m'' hm''
  rw [hrun m' (Agree.refl _ _)] at e1
  simp at e1
  exact e1.symm
 obtain ⟨z,z1,z2,z3,z4,z5,z6⟩:=hgh F y [qqr ls] rfl st.h st.fr (q1o.cons (qzn hrl) (q1o.nil y))
 obtain ⟨v0,vs0,e0,z7,_⟩:=z5.inv
 cases e0
 have hadv2:=z1 m' w' st.fits
 exact ⟨_,hrun m' (Agree.refl _ _),z,m',u',qqr ls,_,rfl,z2 ▸ hR,hadv.trans hadv2,hrel.ext (Agree.refl _ _) hadv2.nx,z3,z4,z7,hke.trans z6,by rw [z2]; exact hnx⟩
omit hT in
def BdU (P:Program) (T:Tb) (fn:Func) (n0:Nat) (R:U→Sg→Prop) (c:Code) (tm:List U) (σ:Sg):Prop :=
 ∀ F x0 m0 w0 x tv m w a,x0.σ.nx=n0→n0≤σ.nx→x.σ=σ→St F x tm tv m w a→Adv m0 x0.s w0 m x.s w→Ke n0 x0 x→a.defers=[]→c.wpIn (qku none) 0 P (bodyPostDIn (qku none) 0 P fn (z3q F R x0 m0 w0)) a w
theorem EvU.of_bodyD {f:FuncId} {fn:Func} {c:Code} {args:List U} {σ:Sg} {R:U→Sg→Prop} (hf:T.fn f=some fn) (hb:fn.body=some c)
  (h:BdU P T fn σ.nx R c (qvi fn.ntmps args) σ):EvU P f args σ R:=fun F x vs m w cargs hx hh hfr he hfit hargs=>by
 obtain ⟨hf0,_⟩:=hT.fn f fn hf
 have hcl:cargs.length=vs.length:=by rw [← hargs.at]; simp
 refine (callsIn_wide (n:=0)).1 (callsIn_of_wp_defers (F:=qku none) hf0 hb trivial ?_)
 have hact:qqq m x.s.nx (pad fn.ntmps vs) { tmps:=cargs.toArray++Array.replicate (fn.ntmps - cargs.toArray.size) undef,defers:=[] }:=fun m' hm'=>by
  simp only [qzr,q28,hargs m' hm',hcl,List.size_toArray]
  apply Array.ext'
  simp [q2s,ren,undef]
 exact h F x m w x _ m w _ (by rw [hx]) (zF _) hx ⟨hh,hfr,qn3 _ he,hfit,hact⟩ (Adv.refl hfit) (Ke.refl _ _) rfl
variable {fn:Func} {n0:Nat} {R:U→Sg→Prop} {tm:List U} {σ:Sg}
omit hT in
theorem BdU.ghost {c:Code} {tm':List U} {σ':Sg} (h:Gh n0 tm σ tm' σ') (hn':n0≤σ'.nx) (hw:BdU P T fn n0 R c tm' σ'):BdU P T fn n0 R c tm σ:=fun F x0 m0 w0 x tv m w a hx0 hn hx st hadv hke hd=>by
 obtain ⟨y,h1,h2,h3,h4,h5,h6⟩:=h F x tv hx st.h st.fr st.e
 have hadv1:=h1 m w st.fits
 exact hw F x0 m0 w0 y tv m w a hx0 hn' h2 ⟨h3,h4,h5,hadv1.fits,st.act.ext hadv1.agree hadv1.nx⟩ (hadv.trans hadv1) (hke.trans h6) hd
theorem BdU.seq {p q:Code} (h:WPU (PG.of P) n0 p tm σ (qkl (fun tm' σ'=>BdU P T fn n0 R q tm' σ') (fun e tm' σ'=>e = .ret∧EndU T fn.results.toList n0 R tm' σ'))):BdU P T fn n0 R (.seq p q) tm σ:=fun F x0 m0 w0 x tv m w a hx0 hn hx st hadv hke hd=>by
 refine wpIn_seq (wpIn_mono (h hn F x tv m w a 0 hx st ⟨Nat.zero_le _,trivial⟩ ⟨fun _=>rfl,fun h=>by cases h⟩ none trivial) ?_)
 rintro e a' w' ⟨y,tm',tv',m',hq,st',hadv',hke',hn',hdf⟩
 have hdf':a'.defers=[]:=(hdf.eq rfl).trans hd
 cases e with
 | normal=>exact hq F x0 m0 w0 y tv' m' w' a' hx0 hn' rfl st' (hadv.trans hadv') (hke.trans hke') hdf'
 | ret =>
  obtain ⟨_,hend⟩:=hq
  subst hx0
  show LeavesIn _ _ _ _ _ _ a'.defers _ _
  rw [hdf']; exact z45 hT (fn:=fn) st' (hadv.trans hadv') (hke.trans hke') hend
 | exit id=>cases hq.1
 | goto l=>cases hq.1
 | panic ch=>cases hq.1
 | outgrown=>cases hq.1
abbrev ClosU (P:Program) (T:Tb) (rs:List ResultVar) (n0:Nat) (R:U→Sg→Prop) (g:FuncId) (dus:List U) (tm:List U) (σ:Sg):Prop :=
 ∃ fd cd,T.fn g=some fd∧fd.body=some cd∧WPU (PG.of P) σ.nx cd (qvi fd.ntmps dus) σ (fun e tm' σ'=>(e = .normal∨e = .ret)∧(∃ l,qjs T σ' tm' fd.results.toList=some l)∧EndU T rs n0 R tm σ')
theorem BdU.clos {c:Code} {g:FuncId} {dus:List U} (hd0:n0≤σ.nx) (h:WPU (PG.of P) σ.nx c tm σ (fun e tm' σ'=>(e = .normal∨e = .ret)∧ClosU P T fn.results.toList n0 R g dus tm' σ')) :
  ∀ F x0 m0 w0 x tv m w a fv cap dargs cargs vs,x0.σ.nx=n0→x.σ=σ→St F x tm tv m w a→Adv m0 x0.s w0 m x.s w→Ke n0 x0 x→a.defers=[{ target:=.fn fv cap,args:=dargs }]→(∀ w',(invoke (.fn fv cap) dargs).run P w' = .ok (.enter g cargs.toArray) w')→q1o x dus vs→qi9 m x.s.nx vs cargs →
   c.wpIn (qku none) 0 P (bodyPostDIn (qku none) 0 P fn (z3q F R x0 m0 w0)) a w:=fun F x0 m0 w0 x tv m w a fv cap dargs cargs vs hx0 hx st hadv hke hd hinv hdu hdl=>by
 refine wpIn_mono (h (zF _) F x tv m w a 0 hx st ⟨Nat.zero_le _,trivial⟩ ⟨fun _=>rfl,fun h=>by cases h⟩ none trivial) ?_
 rintro e a' w' ⟨y,tm',tv',m',⟨hex,fd,cd,hfd,hcd,hclos⟩,st',hadv',hke',hn',hdf⟩
 have hdf':a'.defers=[{ target:=.fn fv cap,args:=dargs }]:=(hdf.eq rfl).trans hd
 subst hx
 have hdu':q1o y dus vs:=hke'.E hdu.bel hdu
 have hdl':qi9 m' y.s.nx vs cargs:=fun m'' hm''=>hdl m'' ((hadv'.agree).trans hm'' hadv'.nx)
 obtain ⟨hg0,_⟩:=hT.fn g fd hfd
 have hcl:cargs.length=vs.length:=by rw [← hdl.at]; simp
 have hact:qqq m' y.s.nx (pad fd.ntmps vs) { tmps:=cargs.toArray++Array.replicate (fd.ntmps - cargs.toArray.size) undef,defers:=[] }:=fun m'' hm''=>by
  simp only [qzr,q28,hdl' m'' hm'',hcl,List.size_toArray]
  apply Array.ext'
  simp [q2s,ren,undef]
 have key:LeavesIn (qku none) 0 P fn a'.tmps (z3q F R x0 m0 w0) a'.defers .returning w':=by
  rw [hdf']
  refine leavesIn_cons (by simp) (fun h=>by simp [qku,Fence.wide] at h) (hinv w') (fun _ _=>trivial) ?_
  refine (callsDIn_of_wp (R:=fun e w''=>∃ v,e = .returned v∧∃ v',(results fn a'.tmps).run P w'' = .ok v' w''∧z3q F R x0 m0 w0 (.returned v') w'') hg0 hcd trivial ?_).mono ?_
  ·refine wpIn_mono (hclos (zF _) F y _ m' w' _ 0 rfl ⟨st'.h,st'.fr,qn3 _ hdu',st'.fits,hact⟩ ⟨Nat.zero_le _,trivial⟩ ⟨fun _=>rfl,fun h=>by cases h⟩ none trivial) ?_
   rintro e1 a1 w1 ⟨z,tm1,tv1,m1,⟨hex1,⟨l1,hl1⟩,hend⟩,st1,hadv1,hke1,hn1,hdf1⟩
   have hdf1':a1.defers=[]:=hdf1.eq rfl
   obtain ⟨ls1,hres1,_⟩:=qnd st1.h st1.e hl1
   have hrun1:(results fd a1.tmps).run P w1 = .ok (ren m1 (qqr ls1)) w1:=by
    rw [st1.act m1 (Agree.refl _ _)]
    exact qkh hT (st1.fits m1 (Agree.refl _ _)) hres1
   subst hx0
   have hst:St F z tm' tv' m1 w1 a':=⟨st1.h,st1.fr,hke1.E st'.e.bel st'.e,st1.fits,st'.act.ext hadv1.agree hadv1.nx⟩
   have hk:=z45 hT (fn:=fn) hst ((hadv.trans hadv').trans hadv1) ((hke.trans (hke'.le hd0)).trans (hke1.le (Nat.le_trans hd0 hn'))) hend
   have hp:bodyPost P fd (fun e w''=>∃ v,e = .returned v∧∃ v',(results fn a'.tmps).run P w'' = .ok v' w''∧z3q F R x0 m0 w0 (.returned v') w'') .ret a1 w1:=⟨hdf1',_,hrun1,_,rfl,hk⟩
   rcases hex1 with rfl | rfl
   ·exact hp
   ·exact hp
  ·rintro e1 u1 w1 ⟨rfl,v,rfl,hk⟩
   exact hk
 rcases hex with rfl | rfl
 ·exact key
 ·exact key
omit hT in
theorem qne {C:PG} (hT:qfp C.prog T) (ops:Array Oper) (E:Exit→Act→World→Prop) (L:List Nat) (tail:List Oper) {F:Nat→Blk→Prop} {x0:Cx} {m0:Nm} {w0:World} {df:List Deferred} (K:List U→Sg→Prop) (hG0:GOk C n0 x0 m0 w0) (hf0:q48 m0 x0.s w0) (ro:Option Nat) (hro:C.ro ro) :
  ∀ (rest:List Oper) (i:Nat),ops.toList.drop i=rest++tail→∀ (x:Cx) (tm:List U) (tv:List Value) (m:Nm) (w:World) (a:Act),St F x tm tv m w a→a.defers=df→Adv m0 x0.s w0 m x.s w→Ke n0 x0 x→n0≤x.σ.nx→RU C T ops.toList rest tm x.σ K →
   (∀ y tm' tv' m' w' a',K tm' y.σ→St F y tm' tv' m' w' a'→Adv m0 x0.s w0 m' y.s w'→Ke n0 x0 y→n0≤y.σ.nx→a'.defers=df→wpOpsIn (qku ro) 0 C.prog ops E L a' w')→wpOpsIn (qku ro) 0 C.prog ops E (List.range' i rest.length++L) a w
 | [],i,_,x,tm,tv,m,w,a,st,hd,hadv,hke,hn,h,hQ=>by
  simp only [zS,List.range'_zero,List.nil_append]
  exact hQ x tm tv m w a h st hadv hke hn hd
 | o::rest,i,hdr,x,tm,tv,m,w,a,st,hd,hadv,hke,hn,h,hQ=>by
  have ho:ops[i]? = some o:=by
   have:=congrArg (fun l=>l[0]?) hdr
   simpa using this
  have hd':ops.toList.drop (i+1)=rest++tail:=by
   have:=congrArg List.tail hdr
   simpa using this
  simp only [zO,List.range'_succ,List.cons_append,wpOpsIn,ho,qnp (st.act m (Agree.refl _ _)) ops o]
  simp only [RU] at h
  rcases h with ⟨hw,u,σ',h1,h2⟩ | ⟨hw,f,args,R,h1,h2,h3⟩ | ⟨hw,h1⟩ | ⟨hw,t,xo,yo,ty,e,b,l,h1,h2,h3,h4,h5⟩ | ⟨hw,R,h1,h2⟩
  ·rw [q3n st.e hw]
   simp only [if_true]
   refine qby (qot h1) (st.op hT o h1 fun y tv' m₁ w₁ a₁ e1 st' hadv' hke' hnx hdf=>?_)
   exact qne hT ops E L tail K hG0 hf0 ro hro rest (i+1) hd' y _ tv' m₁ w₁ a₁ st' (hdf.trans hd) (hadv.trans hadv') (hke.trans (hke'.le hn)) (by omega) (e1 ▸ h2) hQ
  ·rw [q3n st.e hw]
   simp only [if_true]
   refine qby (qlo h1) (st.call hT o h1 h2 fun y u tv' m₁ w₁ a₁ hR st' hadv' hke' hnx hdf=>?_)
   exact qne hT ops E L tail K hG0 hf0 ro hro rest (i+1) hd' y _ tv' m₁ w₁ a₁ st' (hdf.trans hd) (hadv.trans hadv') (hke.trans (hke'.le hn)) (by omega) (h3 u y.σ hR) hQ
  ·rw [q3n st.e hw]
   simp only [Bool.false_eq_true,if_false]
   exact ⟨fun _ _=>trivial,qne hT ops E L tail K hG0 hf0 ro hro rest (i+1) hd' x _ _ m w _ (st.skip o.dst) ((q8y _ _ _).trans hd) hadv hke hn h1 hQ⟩
  ·rw [q3n st.e hw]
   simp only [if_true]
   refine qby (by rw [h1]; intro c hc; cases hc) (st.nilq hT o h1 h2 h3 h4 fun z y tv' m₁ w₁ a₁ hz e1 st' hadv' hke' hnx hdf=>?_)
   exact qne hT ops E L tail K hG0 hf0 ro hro rest (i+1) hd' y _ tv' m₁ w₁ a₁ st' (hdf.trans hd) (hadv.trans hadv') (hke.trans (hke'.le hn)) (by omega) (e1 ▸ h5 z hz) hQ
  ·rw [q3n st.e hw]
   simp only [if_true]
   refine h1 F x tv m w a _ _ rfl st ⟨Nat.le_trans hG0.nb hn,(hG0.adv hf0 hadv hke).g⟩ (fun u y tv' m₁ w₁ a₁ hR st' hadv' hke' hnx hdf=>?_) ro hro
   exact qne hT ops E L tail K hG0 hf0 ro hro rest (i+1) hd' y _ tv' m₁ w₁ a₁ st' (hdf.trans hd) (hadv.trans hadv') (hke.trans (hke'.le hn)) (by omega) (h2 u y.σ hR) hQ
theorem BdU.dfr {id:Nat} {ops:Array Oper} {q:Code} (k:Nat) {o:Oper} {c:Call} (hk:ops.toList[k]? = some o) (ho:o.op = .defer c) (hg:o.guard=none) (hds:o.dst=none)
  (h:RU (PG.of P) T ops.toList (ops.toList.take k) tm σ (fun tm1 σ1=>∃ g dus,q6z T tm1 (.call c)=some (g,dus)∧RU (PG.of P) T ops.toList (ops.toList.drop (k+1)) tm1 σ1 (fun tm2 σ2=>σ1=σ2∧WPU (PG.of P) σ2.nx q tm2 σ2 (fun e tm' σ'=>(e = .normal∨e = .ret)∧ClosU P T fn.results.toList n0 R g dus tm' σ')))) :
  BdU P T fn n0 R (.seq (.region id ops false) q) tm σ:=fun F x0 m0 w0 x tv m w a hx0 hn hx st hadv hke hd=>by
 subst hx
 obtain ⟨hkl,hko⟩:=zG.1 hk
 have hops:ops.toList=ops.toList.take k++o::ops.toList.drop (k+1):=by
  rw [← hko,← List.drop_eq_getElem_cons hkl,List.take_append_drop]
 generalize ops.toList.take k=pre at h hops
 generalize ops.toList.drop (k+1)=post at h hops
 refine wpIn_seq (wpIn_region ?_)
 rw [List.range_eq_range']
 have hsz:ops.size=pre.length+(post.length+1):=by
  have:=congrArg List.length hops
  simpa using this
 have hrg:List.range' 0 ops.size=List.range' 0 pre.length++(pre.length::List.range' (pre.length+1) post.length):=by
  rw [hsz,← List.range'_append_1 (s:=0),Nat.zero_add,List.range'_succ]
 rw [hrg]
 refine qne (C:=PG.of P) (n0:=n0) hT ops _ _ (o::post) (F:=F) (x0:=x) (m0:=m) (w0:=w) (df:=a.defers) _ ⟨Nat.zero_le _,trivial⟩ st.fits none trivial pre 0 (by simpa using hops) x tm tv m w a st rfl (Adv.refl st.fits) (Ke.refl _ _) hn h ?_
 rintro y tm' tv' m' w' a' ⟨g,dus,hcall,hpost⟩ st' hadv' hke' hn' hdf'
 have hoi:ops[pre.length]? = some o:=by
  have:ops.toList[pre.length]? = some o:=by rw [hops]; simp
  simpa using this
 have hwant:Region.wanted o (yielded ops a'.tmps)=true:=by simp [Region.wanted,hg]
 simp only [wpOpsIn,hoi,hwant,if_true]
 obtain ⟨vs,h1,h2⟩:=quj st'.e hcall
 obtain ⟨fv,cap,dargs,cargs,e1,e2,e3⟩:=z1y hT st'.act o ho w' h1
 refine ⟨fun _ _=>trivial,?_⟩
 have e4:(o.semAt (qku none).round a'.eval)=execOp a'.eval o:=Oper.semAt_none _ _
 rw [e4,e1]
 rw [Oper.uponIn_defer]
 rw [hds]
 have st1:St F y tm' tv' m' w' (({ a' with defers:=({ target:=.fn fv cap,args:=dargs }:Deferred)::a'.defers }:Act).put none undef) :=
  ⟨st'.h,st'.fr,st'.e,st'.fits,fun m'' hm''=>st'.act m'' hm''⟩
 have key:=qne (C:=PG.of P) (n0:=y.σ.nx) hT ops (Exit.then (Code.wpIn (qku none) 0 P q (bodyPostDIn (qku none) 0 P fn (z3q F R x0 m0 w0))) (bodyPostDIn (qku none) 0 P fn (z3q F R x0 m0 w0))) [] [] (F:=F) (x0:=y) (m0:=m') (w0:=w') (df:={ target:=.fn fv cap,args:=dargs }::a'.defers) _ ⟨Nat.zero_le _,trivial⟩ st'.fits none trivial post (pre.length+1) (by
   rw [hops]; simp) y _ _ m' w' _ st1 (q8y _ _ _) (Adv.refl st'.fits) (Ke.refl _ _) (zF _) hpost ?_
 ·rw [List.append_nil] at key
  exact key
 rintro z tm2 tv2 m2 w2 a2 ⟨hσ,hw⟩ st2 hadv2 hke2 hn2 hdf2
 simp only [wpOpsIn]
 refine BdU.clos hT (tm:=tm2) (σ:=z.σ) (fn:=fn) (n0:=n0) (R:=R) (by rw [← hσ]; exact hn') hw F x0 m0 w0 z tv2 m2 w2 a2 fv cap dargs cargs vs hx0 rfl st2 ((hadv.trans hadv').trans hadv2) ((hke.trans hke').trans (hke2.le hn')) (by rw [hdf2,hdf',hd]) e2 (hke2.E h2.bel h2) (fun m'' hm''=>e3 m'' (hadv2.agree.trans hm'' hadv2.nx))
end
class TbP (P:Program) (T:outParam Tb):Prop where
 ok:qfp P T
class TbI (C:PG) (T:outParam Tb):Prop where
 ok:qfp C.prog T
instance {P:Program} {T:Tb} [h:TbP P T]:TbI (PG.of P) T:=⟨h.ok⟩
section
variable {P:Program} {T:Tb} {ops r:List Oper} {o:Oper} {n:Nat} {l:List (Nat×U)} {σ σ':Sg} {u:U}
theorem RS.q {C:PG} {K:List U→Sg→Prop} {d:Tmp} (he:o.dst=some d) (h:opU T σ (fr n l) o.op=some (u,σ')) (hk:RU C T ops r (fr n ((d,u)::l)) σ' K) (hw:q0c ops (fr n l) o=some true:=by exact rfl) (hd:Nat.blt d n=true:=by exact rfl):RU C T ops (o::r) (fr n l) σ K:=RS.op hw h he hd hk
theorem RD.q {acc:List RK} {K:List RK→List U→Sg→Prop} {d:Tmp} (he:o.dst=some d) (h:opU T σ (fr n l) o.op=some (u,σ)) (hk:RH P T ops r (fr n ((d,u)::l)) σ ((1,⟨fr n l,o,u,false,false,σ,σ⟩)::acc) K) (hw:q0c ops (fr n l) o=some true:=by exact rfl) (hd:Nat.blt d n=true:=by exact rfl):RH P T ops (o::r) (fr n l) σ acc K:=RD.look hw h he hd hk
end
theorem st {A B:Prop} (h:B) (g:B→A:=by intro h; (repeat refine Go.Vx.gq ?_); (repeat refine Go.Vx.sq ?_); exact h):A:=g h
variable {n:Nat}
theorem z6m {F:Nat→Blk→Prop} {y:Cx} {K:Nat} {l:List U} {e:TypeId} {sz t:Nat} {h:List (Nat×B)} (hy:y.σ=⟨(K,.vec l e sz t)::h,K+1⟩) (hh:qfj y) (hf:Fr F y) (hb:∀ k b,gt h k=some b→k<K∧qsw K b) (hl:BelL 0 l) :
  ∃ y':Cx,y'.σ=⟨(K,.vec l e sz 0)::h,K+1⟩∧y'.s=y.s∧qfj y'∧Fr F y'∧Ke K y y'∧∀ v,Rel y (.vl K t 0 n) v→Rel y' (.vl K 0 0 n) v:=by
 have gy:∀ j,gt y.σ.h j=if K=j then some (.vec l e sz t) else gt h j:=fun j=>by rw [hy]; exact q2b _ _ _ _
 have gy':∀ j,gt ((K,B.vec l e sz 0)::h) j=if K=j then some (.vec l e sz 0) else gt h j:=fun j=>q2b _ _ _ _
 have hnx:y.σ.nx=K+1:=by rw [hy]
 let y':Cx:=⟨y.ρ,⟨(K,.vec l e sz 0)::h,K+1⟩,y.s⟩
 have hmo:Mo K y y':=by
  refine ⟨fun j h1 h2=>⟨by show j<K+1; omega,fun b' hb'=>?_⟩,fun _ _ _ h=>h⟩
  have hb2:gt ((K,B.vec l e sz 0)::h) j=some b':=hb'
  rw [gy',if_neg (by omega)] at hb2
  exact ⟨b',by rw [gy,if_neg (by omega)]; exact hb2,zF _,fun _=>⟨rfl,fun l e sz st h=>⟨l,h⟩⟩⟩
 refine ⟨y',rfl,rfl,⟨fun j b hbj=>?_,fun j j' b b' i hbj hbj' h1 h2=>?_,hh.bd⟩,fun i b hF=>?_,hmo.ke,fun v hv=>?_⟩
 ·have hb2:gt ((K,B.vec l e sz 0)::h) j=some b:=hbj
  rw [gy'] at hb2
  by_cases e1:K=j
  ·subst e1
   rw [if_pos rfl] at hb2
   cases hb2
   refine ⟨by show K<K+1; omega,?_⟩
   obtain ⟨_,q1,q2,q3⟩:=hh.ok K (.vec l e sz t) (by rw [gy,if_pos rfl])
   refine ⟨q1,q2,?_⟩
   rcases q3 with q3 | ⟨i,l',r1,r2,r3⟩
   ·exact .inl q3
   ·exact .inr ⟨i,l',r1,r2,hmo.ke.E (BelL.le (Nat.zero_le _) l hl) r3⟩
  ·rw [if_neg e1] at hb2
   obtain ⟨h1,h2⟩:=hb j b hb2
   refine ⟨by show j<K+1; omega,?_⟩
   exact (hh.ok j b (by rw [gy,if_neg e1]; exact hb2)).2.monoB h2 hmo rfl fun _ _ _ h=>h
 ·have key:∀ j b,gt ((K,B.vec l e sz 0)::h) j=some b→∃ c,gt y.σ.h j=some c:=fun j b hb=>by
   rw [gy'] at hb
   by_cases e1:K=j
   ·exact ⟨_,by rw [gy,if_pos e1]⟩
   ·rw [if_neg e1] at hb; exact ⟨b,by rw [gy,if_neg e1]; exact hb⟩
  obtain ⟨c,g1⟩:=key j b hbj
  obtain ⟨c',g2⟩:=key j' b' hbj'
  exact hh.inj j j' c c' i g1 g2 h1 h2
 ·obtain ⟨h1,h2⟩:=hf i b hF
  refine ⟨h1,fun j c hc=>?_⟩
  have hc2:gt ((K,B.vec l e sz 0)::h) j=some c:=hc
  rw [gy'] at hc2
  by_cases e1:K=j
  ·exact h2 j _ (by rw [gy,if_pos e1])
  ·rw [if_neg e1] at hc2; exact h2 j c (by rw [gy,if_neg e1]; exact hc2)
 ·simp only [Rel] at hv ⊢
  refine ⟨hv.1,by show K<K+1; omega,fun b hb=>?_⟩
  have hb2:gt ((K,B.vec l e sz 0)::h) K=some b:=hb
  rw [gy',if_pos rfl] at hb2
  cases hb2
  obtain ⟨_,g2⟩:=hv.2.2 (.vec l e sz t) (by rw [gy,if_pos rfl])
  obtain ⟨l2,e2,sz2,g3,g4⟩:=g2 rfl
  cases g3
  exact ⟨zF _,fun _=>⟨l,e,sz,rfl,g4⟩⟩
theorem EvU.own0 {α:Type} (c:α→List U) {P:Program} {f:FuncId} {ys:List α} {e:TypeId} {sz:Nat} {as:List U} [hc:BF c] [ha:BUL 0 as] {k:Nat}
  (h:EvU P f as ⟨[],0⟩ (fun u σ'=>∃ t',u = .vl k t' 0 ys.length∧σ'=⟨[(k,.vec (ys.map c).flatten e sz t')],k+1⟩))
  (σ:Sg) (K:Nat) (hK:σ.nx+k=K) :
  EvU P f as σ (fun u σ'=>u = .vl K 0 0 ys.length∧σ'=⟨(K,.vec (ys.map c).flatten e sz 0)::σ.h,K+1⟩):=fun F x vs m w cargs hx hh hfr he hfit hargs=>by
 have h1:=EvU.own1 c h σ K hK
 refine (h1 F x vs m w cargs hx hh hfr he hfit hargs).mono ?_
 rintro e' w₁ ⟨y,m₁,u,v,cv,q1,⟨t',rfl,q3⟩,q4,q5,q6,q7,q8,q9,q10⟩
 obtain ⟨y',z1,z2,z3,z4,z5,z6⟩:=z6m (F:=F) q3 q6 q7 (fun k b hb=>by
  have:=hh.ok k b (by rw [hx]; exact hb)
  rw [hx] at this
  refine ⟨by omega,?_⟩
  have hbel:=this.2.belB
  rw [hx] at hbel
  cases b with
  | row l e=>exact BelL.le (by omega) l hbel
  | vec l e s st=>exact BelL.le (by omega) l hbel
  | map es cl=>exact fun e he=>⟨Bel.le (by omega) _ (hbel e he).1,Bel.le (by omega) _ (hbel e he).2⟩) (q8g 0 (hc.h 0) ys)
 exact ⟨y',m₁,_,v,cv,q1,⟨rfl,z1⟩,by rw [z2]; exact q4,by rw [z2]; exact q5,z3,z4,z6 v q8,q9.trans (z5.le (by rw [hx]; omega)),by rw [z1,hx]; show σ.nx≤K+1; omega⟩
theorem z79 {P:Program} {T:Tb} {ops r:List Oper} {o:Oper} {l:List (Nat×U)} {σ σ1:Sg} {acc:List RK} {K:List RK→List U→Sg→Prop} {u:U} {f:FuncId} {args:List U} (hw:q0c ops (fr n l) o=some true) (hc:q6z T (fr n l) o.op=some (f,args)) (hev:EvU P f args σ (fun u' σ'=>u'=u∧σ'=σ1)) {d:Tmp} (he:o.dst=some d) (hd:Nat.blt d n=true)
  (hk:RH P T ops r (fr n ((d,u)::l)) σ1 ((3,⟨fr n l,o,u,true,true,σ,σ1⟩)::acc) K):RH P T ops (o::r) (fr n l) σ acc K :=
 RH.callM hw hc hev (by rw [he,qbh (d:=some d) u hd]; exact hk)
def qxk (k:IntKind) (a b:Int):Int:=k.wrap (BitVec.ofInt k.bits a &&& BitVec.ofInt k.bits b).toNat
def orI (k:IntKind) (a b:Int):Int:=k.wrap (BitVec.ofInt k.bits a ||| BitVec.ofInt k.bits b).toNat
def qfr (k:IntKind) (a b:Int):Int:=k.wrap (BitVec.ofInt k.bits a &&& ~~~ BitVec.ofInt k.bits b).toNat
theorem qro (k:IntKind) (a b:Int):qfg .andNot k a k b=some (.int k (qfr k a b)):=by simp [qfg,qfr]
theorem qyy (k:IntKind) (a b:Int):qfg .and k a k b=some (.int k (qxk k a b)):=by simp [qfg,qxk]
theorem ix_or (k:IntKind) (a b:Int):qfg .or k a k b=some (.int k (orI k a b)):=by simp [qfg,orI]
def qu6 (s:List UInt8) (i:Int):Option Int:=if 0≤i∧i<(s.length:Int) then (s[i.toNat]?).map fun b=>(b.toNat:Int) else none
theorem qtu {T:Tb} {σ:Sg} {l:List (Nat×U)} {t:TypeId} {x y:Operand} {s:List UInt8} {k:IntKind} {i z:Int} (hd:T.und t=some .string) (hx:evS n l x=some (.str s)) (hy:evS n l y=some (.int k i)) (h:qu6 s i=some z):opU T σ (fr n l) (.index t x y)=some (.int .u8 z,σ):=by
 unfold qu6 at h
 split at h
 ·rename_i hp
  cases hb:s[i.toNat]? with
  | none=>rw [hb] at h; cases h
  | some b =>
   rw [hb] at h
   simp only [zM,zA] at h
   subst h
   have e1:inR i s.length=true:=qiu hp
   refine qpr ?_
   simp only [q59,q33 hx,q33 hy,quw,g2,toV,qmp,hd,e1,zC,q2o,hb,ofV]
 ·cases h
theorem EvU.viewT {P:Program} {f:FuncId} {args args':List U} {σ:Sg} {us:List U} {rs:List Value} (h:EvU P f args ⟨[],0⟩ (fun u' _=>u' = .tup us∧Bel 0 u')) (ha:BelL 0 args) (hu:toVL us=some rs) (hren:∀ m,renL m rs=rs) {σ1:Sg} (hg:Gh 0 args' σ args σ1):EvU P f args' σ (fun u' σ'=>u' = .tup us∧σ'=σ):=fun F x vs m w cargs hx hh hfr he hfit hargs=>by
 obtain ⟨y1,a1,a2,a3,a4,a5,a6⟩:=hg F x vs hx hh hfr he
 have hadv1:=a1 m w hfit
 have hadv2:=Adv.less hadv1.fits (qon y1.s)
 have hmo:Mo 0 y1 (cx (qkd y1.s)):=⟨fun k hk=>by omega,fun i row e hl=>by show lk (qkd y1.s).h i=_; rw [qey,hl]; rfl⟩
 have hno:∀ b,¬ z3o m (qkd y1.s) b:=fun b ⟨i,c,hc,ho,_⟩=>by
  rw [qey] at hc
  obtain ⟨_,l,e,rfl⟩:=qg4 hc
  simp [Rx.Own] at ho
 refine (h (fun _ _=>False) (cx (qkd y1.s)) vs m w cargs rfl ⟨fun k b hb=>by simp [cx,gt] at hb,fun k k' b b' i hb=>by simp [cx,gt] at hb,fun i b hb=>?_⟩ (fun _ _ hF=>hF.elim) (hmo.ke.E ha a5) hadv2.fits (hargs.ext (Agree.refl _ _) (Nat.le_trans hadv1.nx hadv2.nx))).mono ?_
 ·have hb':lk (qkd y1.s).h i=some b:=hb
  rw [qey] at hb'
  exact a3.bd i b (qg4 hb').1
 rintro e w₂ ⟨y2,m₂,u',v',cv,rfl,⟨rfl,_⟩,hadv,hrel,_,_,hru,_,_⟩
 simp only [Rel] at hru
 obtain ⟨vs2,rfl,hv1,hv2⟩:=hru
 have hv:=(q8s us rs hu y2 vs2).1 ⟨hv1,hv2⟩
 subst hv
 have hcv:cv = .tuple ⟨vs2⟩:=by rw [← hrel.at]; simp only [ren,renA_mk,hren]
 subst hcv
 have hsame:∀ b,b<w.heap.size→w₂.heap[b]? = w.heap[b]?:=fun b hlt=>hadv.same b hlt (hno b)
 refine ⟨x,m,.tup us,.tuple ⟨vs2⟩,.tuple ⟨vs2⟩,rfl,⟨rfl,hx⟩,⟨Agree.refl _ _,zF _,fun m' hm'=>?_,fun b h=>.inl h,fun b hlt _=>hsame b hlt,hadv.size,hadv.os,hadv.tape,hadv.output⟩,fun m' _=>by simp only [ren,renA_mk,hren],hh,hfr,by simp only [Rel]; exact ⟨vs2,rfl,((q8s us vs2 hu x vs2).2 rfl).1,((q8s us vs2 hu x vs2).2 rfl).2⟩,Ke.refl _ _,zF _⟩
 have hfm:=hfit m' hm'
 exact ⟨fun i b hb=>(hfm.ok i b hb).world (hsame _ (hfm.size hb)),hfm.inj,hfm.bd⟩
class LenC {α:Type} (c:α→List U) (n:outParam Nat):Prop where
 h:∀ x,(c x).length=n
instance (k:IntKind):LenC (cI k) 1:=⟨q4c k⟩
instance:LenC cS 1:=⟨qix⟩
instance {α:Type} (c:α→List U):LenC (cL c) 1:=⟨qg5 c⟩
abbrev U.iM {α:Type} (c:α→List U) (l:List α):U:=.isl false (List.map c l)
abbrev U.i6 (z:Int):U:=.int .i64 z
variable {P:Program}
variable {f:FuncId}
variable {args:List U}
variable {u:U}
theorem pC (h:EvU P f args ⟨[],0⟩ (fun u' _=>u'=u∧Bel 0 u')) [q:BUL 0 args] (σ:Sg):EvU P f args σ (fun u' σ'=>u'=u∧σ'=σ):=z7k h σ
theorem sI {α:Type} {a b:α} (h:some a=some b):a=b:=Option.some.inj h
class Nq (a b:Nat):Prop where
 h:Nat.beq a b=false
instance {b:Nat}:Nq 0 (b+1):=⟨rfl⟩
instance {b:Nat}:Nq (b+1) 0:=⟨rfl⟩
instance {a b:Nat} [q:Nq a b]:Nq (a+1) (b+1):=⟨q.h⟩
class GtC (h:List (Nat×B)) (K:Nat) (b:outParam B):Prop where
 h:gt h K=some b
instance (priority:=low) {K k:Nat} {x b:B} {t:List (Nat×B)} [n:Nq k K] [g:GtC t K b]:GtC ((k,x)::t) K b:=⟨by simp only [gt,n.h,zD,g.h]⟩
instance {K:Nat} {b:B} {t:List (Nat×B)}:GtC ((K,b)::t) K b:=⟨by simp [gt]⟩
class NMp (b:B):Prop where
 h:∀ es cl,b ≠ .map es cl
instance {l:List U} {e:TypeId}:NMp (.row l e):=⟨fun _ _=>nofun⟩
instance {l:List U} {e:TypeId} {s t:Nat}:NMp (.vec l e s t):=⟨fun _ _=>nofun⟩
class Ck (n sz:Nat) (l:List U) (r:outParam (List (List U))):Prop where
 h:n*sz≤l.length
 e:chunks sz n l=r
instance {s:Nat} {l:List U}:Ck 0 s l []:=⟨by omega,by simp [chunks]⟩
instance {n:Nat} {a:U} {l:List U} {r:List (List U)} [q:Ck n 1 l r]:Ck (n+1) 1 (a::l) ([a]::r):=⟨by have:=q.h; simp; omega,by have:=q.e; simp [chunks,this]⟩
instance {n:Nat} {a b:U} {l:List U} {r:List (List U)} [q:Ck n 2 l r]:Ck (n+1) 2 (a::b::l) ([a,b]::r):=⟨by have:=q.h; simp; omega,by have:=q.e; simp [chunks,this]⟩
instance {n:Nat} {a b c:U} {l:List U} {r:List (List U)} [q:Ck n 3 l r]:Ck (n+1) 3 (a::b::c::l) ([a,b,c]::r):=⟨by have:=q.h; simp; omega,by have:=q.e; simp [chunks,this]⟩
instance (priority:=low) {α:Type} {c:α→List U} {x:α} {sz:Nat} [q:LenC c sz]:Ck 1 sz (c x) [c x]:=⟨by have:=q.h x; omega,by have:=q.h x; simp [chunks,← this]⟩
class FzU (K:Nat) (b:B) (sz:Nat) (u:U) (u':outParam U):Prop where
 h:fz K b sz u=u'
class FzL (K:Nat) (b:B) (sz:Nat) (l:List U) (l':outParam (List U)):Prop where
 h:fzL K b sz l=l'
section
variable {K:Nat} {b:B} {sz:Nat}
instance (priority:=low) {l:List U} [q:BUL K l]:FzL K b sz l l:=⟨q70 b sz l q.h⟩
instance:FzL K b sz [] []:=⟨qg0 K b sz⟩
instance {u u':U} {l l':List U} [a:FzU K b sz u u'] [q:FzL K b sz l l']:FzL K b sz (u::l) (u'::l'):=⟨by rw [qal,a.h,q.h]⟩
instance {k:IntKind} {z:Int}:FzU K b sz (.int k z) (.int k z):=⟨qkw K b sz k z⟩
instance {x:Bool}:FzU K b sz (.bool x) (.bool x):=⟨qg1 K b sz x⟩
instance {x:List UInt8}:FzU K b sz (.str x) (.str x):=⟨qky K b sz x⟩
instance:FzU K b sz .nils .nils:=⟨qg3 K b sz⟩
instance {t:Bool} {l:List (List U)}:FzU K b sz (.isl t l) (.isl t l):=⟨qkx K b sz t l⟩
instance {l l':List U} [q:FzL K b sz l l']:FzU K b sz (.agg l) (.agg l'):=⟨by rw [qkv,q.h]⟩
instance {l l':List U} [q:FzL K b sz l l']:FzU K b sz (.tup l) (.tup l'):=⟨by rw [qkz,q.h]⟩
instance {f:Fn} {a a' c c':List U} [q:FzL K b sz a a'] [r:FzL K b sz c c']:FzU K b sz (.fn f a c) (.fn f a' c'):=⟨by rw [qrj,q.h,r.h]⟩
instance {k st off n:Nat} [q:Nq k K]:FzU K b sz (.vl k st off n) (.vl k st off n):=⟨qdh q.h b sz st off n⟩
instance {k off n c:Nat} [q:Nq k K]:FzU K b sz (.sl k off n c) (.sl k off n c):=⟨qdg q.h b sz off n c⟩
instance {k st off:Nat} [q:Nq k K]:FzU K b sz (.ptr k st off) (.ptr k st off):=⟨qdf q.h b sz st off⟩
end
instance {α:Type} {c:α→List U} {sz s K st:Nat} {l:List α} {e:TypeId} [q:LenC c sz]:FzU K (.vec (l.map c).flatten e sz st) s (.vl K st 0 l.length) (.isl false (l.map c)):=⟨z5y q.h l K s e st⟩
instance {K sz n:Nat} {l:List U} {e:TypeId} {r:List (List U)} [q:Ck n sz l r]:FzU K (.row l e) sz (.sl K 0 n n) (.isl false r):=⟨by rw [fz_sl K l e sz n q.h,q.e]⟩
instance {K sz:Nat} {l:List U} {e:TypeId}:FzU K (.row l e) sz (.ptr K 0 0) (.iptr l):=⟨fz_p0 K l e sz⟩
instance {K sz:Nat} {b:B} {u u':U} [q:FzU K b sz u u']:FzU K b sz (qlh [u]) u':=⟨q.h⟩
instance {K sz:Nat} {b:B} {u v u':U} {l:List U} [q:FzU K b sz (.tup (u::v::l)) u']:FzU K b sz (qlh (u::v::l)) u':=⟨q.h⟩
class FzB (K:Nat) (b:B) (sz:Nat) (x:B) (x':outParam B):Prop where
 h:fzB K b sz x=x'
instance {K sz:Nat} {b:B} {l l':List U} {e:TypeId} [q:FzL K b sz l l']:FzB K b sz (.row l e) (.row l' e):=⟨by rw [fzB,q.h]⟩
instance {K sz:Nat} {b:B} {l l':List U} {e:TypeId} {s st:Nat} [q:FzL K b sz l l']:FzB K b sz (.vec l e s st) (.vec l' e s st):=⟨by rw [fzB,q.h]⟩
class FzH (K:Nat) (b:B) (sz:Nat) (h:List (Nat×B)) (h':outParam (List (Nat×B))):Prop where
 h:fzH K b sz h=h'
section
variable {K:Nat} {b:B} {sz:Nat}
instance:FzH K b sz [] []:=⟨rfl⟩
instance (priority:=low) {k:Nat} {c c':B} {h h':List (Nat×B)} [n:Nq k K] [p:FzB K b sz c c'] [q:FzH K b sz h h']:FzH K b sz ((k,c)::h) ((k,c')::h'):=⟨by simp only [fzH,n.h,zD,p.h,q.h]⟩
instance {c:B} {h h':List (Nat×B)} [q:FzH K b sz h h']:FzH K b sz ((K,c)::h) h':=⟨by simp [fzH,q.h]⟩
end
class FzS (K:Nat) (b:B) (sz:Nat) (l:List (Nat×U)) (l':outParam (List (Nat×U))):Prop where
 h:fzS K b sz l=l'
instance {K:Nat} {b:B} {sz:Nat}:FzS K b sz [] []:=⟨rfl⟩
instance {K:Nat} {b:B} {sz i:Nat} {u u':U} {l l':List (Nat×U)} [a:FzU K b sz u u'] [q:FzS K b sz l l']:FzS K b sz ((i,u)::l) ((i,u')::l'):=⟨by rw [fzS,a.h,q.h]⟩
variable {n0:Nat}
variable {nx:Nat}
variable {h:List (Nat×B)}
variable {h':List (Nat×B)}
variable {b:B}
theorem z77 {tm tm':List U} (K sz:Nat) [g:GtC h K b] [m:NMp b] [t:FzL K b sz tm tm'] [q:FzH K b sz h h']:Gh n0 tm ⟨h,nx⟩ tm' ⟨h',nx⟩:=Gh.fz K b sz g.h m.h t.h q.h
variable {n:Nat}
variable {l:List (Nat×U)}
variable {l':List (Nat×U)}
theorem z7g (K sz:Nat) [g:GtC h K b] [m:NMp b] [t:FzS K b sz l l'] [q:FzH K b sz h h']:Gh n0 (fr n l) ⟨h,nx⟩ (fr n l') ⟨h',nx⟩:=Gh.fzS K b sz g.h m.h t.h q.h
class UgC (h:List (Nat×B)) (K:Nat) (b:B) (h':outParam (List (Nat×B))):Prop where
 h:ug h K b=h'
instance {K:Nat} {x b:B} {t:List (Nat×B)}:UgC ((K,x)::t) K b ((K,b)::t):=⟨by simp [ug]⟩
instance (priority:=low) {K k:Nat} {x b:B} {t t':List (Nat×B)} [n:Nq k K] [g:UgC t K b t']:UgC ((k,x)::t) K b ((k,x)::t'):=⟨by simp only [ug,n.h,zD,g.h]⟩
class WkC (l:List U) (l':outParam (List U)):Prop where
 h:WkL l l'
instance:WkC [] []:=⟨.nil⟩
instance (priority:=low) {u:U} {l l':List U} [q:WkC l l']:WkC (u::l) (u::l'):=⟨.cons (.refl _) q.h⟩
instance {l l':List U} [q:WkC l l']:WkC (.nils::l) (.isl false []::l'):=⟨.cons (.nil false) q.h⟩
theorem Gh.rowC {tm:List U} {q q':List U} {e:TypeId} (K:Nat) [g:GtC h K (.row q e)] [w:WkC q q'] [u:UgC h K (.row q' e) h'] (hk:okL q'=true:=by exact rfl):Gh n0 tm ⟨h,nx⟩ tm ⟨h',nx⟩:=by
 have:=Gh.rowW (n0:=n0) (tm:=tm) (σ:=⟨h,nx⟩) g.h hk w.h
 simp only [u.h] at this
 exact this
theorem NZ:0≤n:=Nat.zero_le n
theorem NL {a b:Nat} (h:Nat.ble a b=true:=by exact rfl):a≤b:=zY h
theorem sB {a b:Nat} (h:Nat.ble a b=true):a≤b:=zY h
variable {T:Tb}
variable {fn:Func}
variable {k:Code}
variable {σ:Sg}
variable {R:U→Sg→Prop}
theorem bg0 [t:TbP P T] (n:Nat) (hf:T.fn f=some fn) (h:WPU (PG.of P) σ.nx k (fr n []) σ fun e tm' σ'=>(e = .normal∨e = .ret)∧∃ l,qjs T σ' tm' fn.results.toList=some l∧∃ u' σ'',σ.nx≤σ''.nx∧Gh σ.nx [qlh l] σ' [u'] σ''∧R u' σ'') (hn:fn.ntmps=n:=by exact rfl) (hb:fn.body=some k:=by exact rfl) (hk:Nat.ble 0 n=true:=by exact rfl):EvU P f [] σ R:=z7a t.ok hf hb (WPU.ghost (by rw [hn]; exact z7b (sB hk)) (zF _) h)
theorem bg1 [t:TbP P T] {a:U} (n:Nat) (hf:T.fn f=some fn) (h:WPU (PG.of P) σ.nx k (fr n [(0,a)]) σ fun e tm' σ'=>(e = .normal∨e = .ret)∧∃ l,qjs T σ' tm' fn.results.toList=some l∧∃ u' σ'',σ.nx≤σ''.nx∧Gh σ.nx [qlh l] σ' [u'] σ''∧R u' σ'') (hn:fn.ntmps=n:=by exact rfl) (hb:fn.body=some k:=by exact rfl) (hk:Nat.ble 1 n=true:=by exact rfl):EvU P f [a] σ R:=z7a t.ok hf hb (WPU.ghost (by rw [hn]; exact z7b (sB hk)) (zF _) h)
theorem bg2 [t:TbP P T] {a b:U} (n:Nat) (hf:T.fn f=some fn) (h:WPU (PG.of P) σ.nx k (fr n [(0,a),(1,b)]) σ fun e tm' σ'=>(e = .normal∨e = .ret)∧∃ l,qjs T σ' tm' fn.results.toList=some l∧∃ u' σ'',σ.nx≤σ''.nx∧Gh σ.nx [qlh l] σ' [u'] σ''∧R u' σ'') (hn:fn.ntmps=n:=by exact rfl) (hb:fn.body=some k:=by exact rfl) (hk:Nat.ble 2 n=true:=by exact rfl):EvU P f [a,b] σ R:=z7a t.ok hf hb (WPU.ghost (by rw [hn]; exact z7b (sB hk)) (zF _) h)
variable {c:U}
theorem bg3 [t:TbP P T] {a b:U} (n:Nat) (hf:T.fn f=some fn) (h:WPU (PG.of P) σ.nx k (fr n [(0,a),(1,b),(2,c)]) σ fun e tm' σ'=>(e = .normal∨e = .ret)∧∃ l,qjs T σ' tm' fn.results.toList=some l∧∃ u' σ'',σ.nx≤σ''.nx∧Gh σ.nx [qlh l] σ' [u'] σ''∧R u' σ'') (hn:fn.ntmps=n:=by exact rfl) (hb:fn.body=some k:=by exact rfl) (hk:Nat.ble 3 n=true:=by exact rfl):EvU P f [a,b,c] σ R:=z7a t.ok hf hb (WPU.ghost (by rw [hn]; exact z7b (sB hk)) (zF _) h)
theorem bg4 [t:TbP P T] {a b d:U} (n:Nat) (hf:T.fn f=some fn) (h:WPU (PG.of P) σ.nx k (fr n [(0,a),(1,b),(2,c),(3,d)]) σ fun e tm' σ'=>(e = .normal∨e = .ret)∧∃ l,qjs T σ' tm' fn.results.toList=some l∧∃ u' σ'',σ.nx≤σ''.nx∧Gh σ.nx [qlh l] σ' [u'] σ''∧R u' σ'') (hn:fn.ntmps=n:=by exact rfl) (hb:fn.body=some k:=by exact rfl) (hk:Nat.ble 4 n=true:=by exact rfl):EvU P f [a,b,c,d] σ R:=z7a t.ok hf hb (WPU.ghost (by rw [hn]; exact z7b (sB hk)) (zF _) h)
theorem bg5 [t:TbP P T] {a b d e:U} (n:Nat) (hf:T.fn f=some fn) (h:WPU (PG.of P) σ.nx k (fr n [(0,a),(1,b),(2,c),(3,d),(4,e)]) σ fun e tm' σ'=>(e = .normal∨e = .ret)∧∃ l,qjs T σ' tm' fn.results.toList=some l∧∃ u' σ'',σ.nx≤σ''.nx∧Gh σ.nx [qlh l] σ' [u'] σ''∧R u' σ'') (hn:fn.ntmps=n:=by exact rfl) (hb:fn.body=some k:=by exact rfl) (hk:Nat.ble 5 n=true:=by exact rfl):EvU P f [a,b,c,d,e] σ R:=z7a t.ok hf hb (WPU.ghost (by rw [hn]; exact z7b (sB hk)) (zF _) h)
class WkU (u u':U):Prop where
 h:Wk u u'
class WkT (l l':List U):Prop where
 h:WkL l l'
instance (priority:=low) {u:U}:WkU u u:=⟨.refl u⟩
instance:WkU .nils (.isl false []):=⟨.nil false⟩
instance {l l':List U} [q:WkT l l']:WkU (.agg l) (.agg l'):=⟨.agg q.h⟩
instance {l l':List U} [q:WkT l l']:WkU (.tup l) (.tup l'):=⟨.tup q.h⟩
instance {u u':U} [q:WkU u u']:WkU (qlh [u]) u':=⟨q.h⟩
instance {u v u':U} {l:List U} [q:WkU (.tup (u::v::l)) u']:WkU (qlh (u::v::l)) u':=⟨q.h⟩
instance:WkT [] []:=⟨.nil⟩
instance {u u':U} {l l':List U} [a:WkU u u'] [q:WkT l l']:WkT (u::l) (u'::l'):=⟨.cons a.h q.h⟩
theorem lC {I:Nat→List U→Sg→Prop} {m n1:Nat} (hI:I m (fr n l') ⟨h',n1⟩) (ht:z0o l l':=by ((repeat refine ⟨rfl,?_⟩); exact trivial)) (hs:Vx.cut n1 h=h':=by exact rfl) (h1:n0≤n1:=by first | exact Nat.zero_le _ | exact zY rfl) (h2:n1≤nx:=by exact zY rfl) [hb:BS n1 l'] [hh:BH n1 h']:∃ n' tm' σ',n'<m+1∧I n' tm' σ'∧n0≤σ'.nx∧Gh n0 (fr n l) ⟨h,nx⟩ tm' σ':=⟨m,_,_,zN _,hI,h1,Gh.toC ht hs h1 h2⟩
theorem xC {E:List U→Sg→Prop} {n1:Nat} (hE:E (fr n l') ⟨h',n1⟩) (ht:z0o l l':=by ((repeat refine ⟨rfl,?_⟩); exact trivial)) (hs:Vx.cut n1 h=h':=by exact rfl) (h1:n0≤n1:=by first | exact Nat.zero_le _ | exact zY rfl) (h2:n1≤nx:=by exact zY rfl) [hb:BS n1 l'] [hh:BH n1 h']:∃ tm' σ',E tm' σ'∧n0≤σ'.nx∧Gh n0 (fr n l) ⟨h,nx⟩ tm' σ':=⟨_,_,hE,h1,Gh.toC ht hs h1 h2⟩
section
variable {T:Tb} {n:Nat} {l:List (Nat×U)} {σ:Sg} {rs:List ResultVar}
theorem rT {us:List U} (hr:qjs T σ (fr n l) rs=some us) (hg:Gh 0 [qlh us] σ [u] ⟨[],0⟩) [q:BU 0 u]:(Exit.ret = .normal∨Exit.ret = .ret)∧∃ l',qjs T σ (fr n l) rs=some l'∧∃ u' σ'',(⟨[],0⟩:Sg).nx≤σ''.nx∧Gh (⟨[],0⟩:Sg).nx [qlh l'] σ [u'] σ''∧u'=u∧Bel 0 u':=⟨.inr rfl,us,hr,u,⟨[],0⟩,zF _,hg,rfl,q.h⟩
theorem rt1 {a:Tmp} {t:List ResultVar} {v:U} (ht:rs = .tmp a::t) (h:evS n l (.tmp a)=some v) (h0:t=[]) (hu:v=u) [q:BU 0 u]:(Exit.ret = .normal∨Exit.ret = .ret)∧∃ l',qjs T σ (fr n l) rs=some l'∧∃ u' σ'',(⟨[],0⟩:Sg).nx≤σ''.nx∧Gh (⟨[],0⟩:Sg).nx [qlh l'] σ [u'] σ''∧u'=u∧Bel 0 u':=by
 subst ht; subst h0; subst hu
 exact rT (q2y h q24) (z7c _ rfl)
theorem rt2 {a b:Tmp} {t:List ResultVar} {v w:U} (ht:rs = .tmp a :: .tmp b::t) (h:evS n l (.tmp a)=some v) (h':evS n l (.tmp b)=some w) (h0:t=[]) (hu : .tup [v,w]=u) [q:BU 0 u]:(Exit.ret = .normal∨Exit.ret = .ret)∧∃ l',qjs T σ (fr n l) rs=some l'∧∃ u' σ'',(⟨[],0⟩:Sg).nx≤σ''.nx∧Gh (⟨[],0⟩:Sg).nx [qlh l'] σ [u'] σ''∧u'=u∧Bel 0 u':=by
 subst ht; subst h0; subst hu
 exact rT (q2y h (q2y h' q24)) (z7c _ rfl)
end
theorem fR {u0:U} (K sz:Nat) [g:GtC h K b] [m:NMp b] [t:FzU K b sz u0 u] [q:FzH K b sz h h'] [p:BU 0 u]:Gh 0 [u0] ⟨h,nx⟩ [u] ⟨[],0⟩:=Gh.trans (z77 K sz) (z7c u rfl)
theorem wR {u0:U} [w:WkU u0 u] [p:BU 0 u]:Gh 0 [u0] σ [u] ⟨[],0⟩:=Gh.trans (Gh.wk (.cons w.h .nil)) (z7c u rfl)
section
variable {C:PG} {n0 n:Nat} {Q:Exit→List U→Sg→Prop} {l:List (Nat×U)} {σ:Sg}
theorem cF {β:Type} {c:Operand} {p q:Code} {t:Bool} {a b r:Option β} (hF:cond t a b=r) (h1:t=true→a=r→WPU C n0 p (fr n l) σ Q) (h2:t=false→b=r→WPU C n0 q (fr n l) σ Q) (hc:evS n l c=some (.bool t):=by exact rfl):WPU C n0 (.cond c p q) (fr n l) σ Q:=z76 hc (fun h=>h1 h (cond_t h hF)) (fun h=>h2 h (cond_f h hF))
end
class IxC (op:BinOp) (k:IntKind) (a:Int) (k':IntKind) (b:Int) (r:outParam Value):Prop where
 h:qfg op k a k' b=some r
section
variable {k:IntKind} {a b:Int}
instance:IxC .add k a k b (.int k (k.wrap (a+b))):=⟨ix_add k a b⟩
instance:IxC .sub k a k b (.int k (k.wrap (a - b))):=⟨z4n k a b⟩
instance:IxC .mul k a k b (.int k (k.wrap (a*b))):=⟨ix_mul k a b⟩
instance:IxC .eql k a k b (.bool (a == b)):=⟨ix_eql k a b⟩
instance:IxC .neq k a k b (.bool (a != b)):=⟨ix_neq k a b⟩
instance:IxC .lss k a k b (.bool (decide (a<b))):=⟨ix_lss k a b⟩
instance:IxC .leq k a k b (.bool (decide (a≤b))):=⟨ix_leq k a b⟩
instance:IxC .gtr k a k b (.bool (decide (a > b))):=⟨ix_gtr k a b⟩
instance:IxC .geq k a k b (.bool (decide (a ≥ b))):=⟨ix_geq k a b⟩
end
class UnC (T:Tb) (t:TypeId) (d:outParam TypeDesc):Prop where
 h:T.und t=some d
class SzC (T:Tb) (t:TypeId) (n:outParam Nat):Prop where
 h:q0x T t=some n
section
variable {P:Program} {T:Tb} {ops r:List Oper} {o:Oper} {n:Nat} {l:List (Nat×U)} {σ σ':Sg} {u:U}
variable {d:Tmp}
theorem wT {j:Nat} {b:Bool} (hg:o.guard=some (j,true)) (hj:qhp ops j=some d) (hl:evS n l (.tmp d)=some (.bool b)) (hb:b=true):q0c ops (fr n l) o=some true:=qfn hg hj hl hb
theorem wF {j:Nat} {b:Bool} (hg:o.guard=some (j,false)) (hj:qhp ops j=some d) (hl:evS n l (.tmp d)=some (.bool b)) (hb:b=false):q0c ops (fr n l) o=some true:=qfn hg hj hl hb
theorem wA {A:Prop} (h:A:=by first | exact rfl | exact Go.Vx.wT rfl rfl rfl (by first | with_reducible_and_instances assumption | exact rfl) | exact Go.Vx.wF rfl rfl rfl (by first | with_reducible_and_instances assumption | exact rfl)):A:=h
variable {C:PG}
variable {K:List U→Sg→Prop}
theorem RS.w (he:o.dst=some d) (h:opU T σ (fr n l) o.op=some (u,σ')) (hk:RU C T ops r (fr n ((d,u)::l)) σ' K) (hw:q0c ops (fr n l) o=some true:=by exact Go.Vx.wA) (hd:Nat.blt d n=true:=by exact rfl):RU C T ops (o::r) (fr n l) σ K:=RS.op hw h he hd hk
theorem RD.w {acc:List RK} {K:List RK→List U→Sg→Prop} (he:o.dst=some d) (h:opU T σ (fr n l) o.op=some (u,σ)) (hk:RH P T ops r (fr n ((d,u)::l)) σ ((1,⟨fr n l,o,u,false,false,σ,σ⟩)::acc) K) (hw:q0c ops (fr n l) o=some true:=by exact Go.Vx.wA) (hd:Nat.blt d n=true:=by exact rfl):RH P T ops (o::r) (fr n l) σ acc K:=RD.look hw h he hd hk
def qxv (n:Nat) (l:List (Nat×U)) (o:Oper):Option (Tmp×FuncId×List U):=match o.dst,o.op with
 | some d,.call c=>match c.callee with
  | .value f=>match evS n l f with
   | some (.fn (.func g) [] [])=>match z24 n l c.args.toList with
    | some as=>some (d,g,as)
    | none=>none
   | _=>none
  | _=>none
 | _,_=>none
theorem qgi {g:FuncId} {as:List U} (h:qxv n l o=some (d,g,as)) (hg:T.fn g=some fn) (hb:fn.body.isSome=true):o.dst=some d∧q6z T (fr n l) o.op=some (g,as):=by
 unfold qxv at h
 split at h
 ·next d' c h1 h2 =>
  split at h
  ·next f h3 =>
   split at h
   ·next g' h4 =>
    split at h
    ·next as' h5 =>
     simp only [zA,zB] at h
     obtain ⟨rfl,rfl,rfl⟩:=h
     exact ⟨h1,by rw [h2]; exact q0s h3 h4 hg hb h5 (by simp)⟩
    ·cases h
   ·cases h
  ·cases h
 ·cases h
theorem RS.cl (h:qxv n l o=some (d,f,args)) (hev:EvU C.prog f args σ (fun u' σ'=>u'=u∧σ'=σ)) (hg:T.fn f=some fn) (hk:RU C T ops r (fr n ((d,u)::l)) σ K) (hb:fn.body.isSome=true:=by exact rfl) (hw:q0c ops (fr n l) o=some true:=by exact Go.Vx.wA) (hd:Nat.blt d n=true:=by exact rfl):RU C T ops (o::r) (fr n l) σ K:=RS.call hw (qgi h hg hb).2 hev (qgi h hg hb).1 hd hk
theorem z7l {args':List U} {σ1:Sg} (h:qxv n l o=some (d,f,args)) (hG:Gh σ.nx args σ args' σ1) (hev:EvU C.prog f args' σ1 (fun u' σ'=>u'=u∧σ'=σ1)) (hg:T.fn f=some fn) (hk:RU C T ops r (fr n ((d,u)::l)) σ1 K) (hn:σ.nx≤σ1.nx:=by exact zY rfl) (hb:fn.body.isSome=true:=by exact rfl) (hw:q0c ops (fr n l) o=some true:=by exact Go.Vx.wA) (hd:Nat.blt d n=true:=by exact rfl):RU C T ops (o::r) (fr n l) σ K:=RS.fcall hw (qgi h hg hb).2 hG hn hev (qgi h hg hb).1 hd hk
theorem RD.fl {acc:List RK} {K:List RK→List U→Sg→Prop} (h:qxv n l o=some (d,f,args)) (hev:∀ s,EvU P f args s (fun u' σ'=>u'=u∧σ'=s)) (hg:T.fn f=some fn) (hk:RH P T ops r (fr n ((d,u)::l)) σ ((0,⟨fr n l,o,u,false,false,σ,σ⟩)::acc) K) (hb:fn.body.isSome=true:=by exact rfl) (hw:q0c ops (fr n l) o=some true:=by exact Go.Vx.wA) (hd:Nat.blt d n=true:=by exact rfl):RH P T ops (o::r) (fr n l) σ acc K:=RD.free hw (qgi h hg hb).2 hev (qgi h hg hb).1 hd hk
end
theorem vw {args':List U} {v:Value} {σ1:Sg} (h:EvU P f args ⟨[],0⟩ (fun u' _=>u'=u∧Bel 0 u')) (hg:Gh 0 args' σ args σ1) [ha:BUL 0 args] (hu:toV u=some v:=by simp only [toV,toVL,okL,okC,zC]<;>rfl) (hren:∀ m,ren m v=v:=by exact fun m=>by simp [ren,renL]):EvU P f args' σ (fun u' σ'=>u'=u∧σ'=σ):=EvU.view h ha.h hu hren hg
structure Hd (B:Prop):Prop where
 h:B
section
variable {C:PG} {n0:Nat} {tm:List U} {σ:Sg} {Q:Exit→List U→Sg→Prop}
theorem rg0 [t:TbI C T] {i:Nat} {ops:Array Oper} {L:List Oper} (h:RU C T L L tm σ (fun tm' σ'=>Q .normal tm' σ')) (hl:ops.toList=L):WPU C n0 (.region i ops false) tm σ Q:=WPU.region t.ok (by rw [hl]; exact h)
theorem rg1 [t:TbI C T] {i:Nat} {ops:Array Oper} {o:Oper} {r:List Oper} (hl:ops.toList=o::r) (h:RU C T (o::r) (o::r) tm σ (fun tm' σ'=>Q .normal tm' σ')):WPU C n0 (.region i ops false) tm σ Q:=rg0 h hl
end
section
variable {C:PG} {T:Tb} {ops r:List Oper} {o:Oper} {n:Nat} {l:List (Nat×U)} {σ σ':Sg} {u:U} {K:List U→Sg→Prop} {d:Tmp}
theorem RS.nt {j:Nat} {b:Bool} {d':Tmp} (hg:o.guard=some (j,true)) (hj:qhp ops j=some d') (hl:evS n l (.tmp d')=some (.bool b)) (hb:b=false) (he:o.dst=some d) (hd:Nat.blt d n=true) (hk:RU C T ops r (fr n ((d,.tup [])::l)) σ K):RU C T ops (o::r) (fr n l) σ K:=RS.no (z3m hg hj hl hb) he hd hk
theorem RS.nf {j:Nat} {b:Bool} {d':Tmp} (hg:o.guard=some (j,false)) (hj:qhp ops j=some d') (hl:evS n l (.tmp d')=some (.bool b)) (hb:b=true) (he:o.dst=some d) (hd:Nat.blt d n=true) (hk:RU C T ops r (fr n ((d,.tup [])::l)) σ K):RU C T ops (o::r) (fr n l) σ K:=RS.no (z3m hg hj hl hb) he hd hk
variable {x:Operand}
theorem RS.mo (ho:o.op = .move x) (hx:evS n l x=some u) (he:o.dst=some d) (hw:q0c ops (fr n l) o=some true) (hd:Nat.blt d n=true) (hk:RU C T ops r (fr n ((d,u)::l)) σ K):RU C T ops (o::r) (fr n l) σ K:=RS.w he (by rw [ho]; exact q0w hx) hk hw hd
theorem RS.in {op:BinOp} {t t':TypeId} {y:Operand} {k k':IntKind} {a b:Int} {v:Value} (ho:o.op = .binOp op t x y t') (hx:evS n l x=some (.int k a)) (hy:evS n l y=some (.int k' b)) [h:IxC op k a k' b v] (hr:ofV v=some u) (he:o.dst=some d) (hw:q0c ops (fr n l) o=some true) (hd:Nat.blt d n=true) (hk:RU C T ops r (fr n ((d,u)::l)) σ K):RU C T ops (o::r) (fr n l) σ K:=RS.w he (by rw [ho]; exact qa4 hx hy h.h hr) hk hw hd
theorem RS.p1 {c a b:Operand} {t:Bool} (ho:o.op = .pick c a b) (hc:evS n l c=some (.bool t)) (ht:t=true) (h:evS n l a=some u) (he:o.dst=some d) (hw:q0c ops (fr n l) o=some true) (hd:Nat.blt d n=true) (hk:RU C T ops r (fr n ((d,u)::l)) σ K):RU C T ops (o::r) (fr n l) σ K:=RS.w he (by rw [ho]; exact qvh hc ht h) hk hw hd
theorem RS.p0 {c a b:Operand} {t:Bool} (ho:o.op = .pick c a b) (hc:evS n l c=some (.bool t)) (ht:t=false) (h:evS n l b=some u) (he:o.dst=some d) (hw:q0c ops (fr n l) o=some true) (hd:Nat.blt d n=true) (hk:RU C T ops r (fr n ((d,u)::l)) σ K):RU C T ops (o::r) (fr n l) σ K:=RS.w he (by rw [ho]; exact qvg hc ht h) hk hw hd
theorem RS.ex {i:Nat} {q:List U} (ho:o.op = .extract x i) (hx:evS n l x=some (.tup q)) (h:nth q i=some u) (he:o.dst=some d) (hw:q0c ops (fr n l) o=some true) (hd:Nat.blt d n=true) (hk:RU C T ops r (fr n ((d,u)::l)) σ K):RU C T ops (o::r) (fr n l) σ K:=RS.w he (by rw [ho]; exact z4u hx h) hk hw hd
theorem RS.un {op:UnOp} {t:TypeId} {v:U} {v1 v2:Value} (ho:o.op = .unOp op t x) (hx:evS n l x=some v) (h:toV v=some v1) (hu:unX op v1=some v2) (hq:ofV v2=some u) (he:o.dst=some d) (hw:q0c ops (fr n l) o=some true) (hd:Nat.blt d n=true) (hk:RU C T ops r (fr n ((d,u)::l)) σ K):RU C T ops (o::r) (fr n l) σ K:=RS.w he (by rw [ho]; exact op_un hx h hu hq) hk hw hd
theorem RS.a (ho:o.op = .assign x) (hx:evS n l x=some u) (he:o.dst=some d) (hw:q0c ops (fr n l) o=some true) (hd:Nat.blt d n=true) (hk:RU C T ops r (fr n ((d,u)::l)) σ K):RU C T ops (o::r) (fr n l) σ K:=RS.as hw ho hx he hk hd
end
class InC (T:Tb) (t:TypeId) (a b:outParam Nat) (z:outParam Value):Prop where
 h:T.inf t=some (a,b,z)
instance {T:Tb} {t:TypeId} {a b:Nat} {z:Value} [q:InC T t a b z]:SzC T t a:=⟨q0g q.h⟩
class ZeC (T:Tb) (t:TypeId) (zu:outParam (List U)):Prop where
 h:∃ a b z,T.inf t=some (a,b,z)∧qlg z.cells.toList=some zu∧okL zu=true
class CeC (u:U) (cs:outParam (List U)):Prop where
 h:qa2 u=some cs
instance {l:List U}:CeC (.agg l) l:=⟨rfl⟩
instance {k:IntKind} {z:Int}:CeC (.int k z) [.int k z]:=⟨rfl⟩
instance {b:Bool}:CeC (.bool b) [.bool b]:=⟨rfl⟩
instance {s:List UInt8}:CeC (.str s) [.str s]:=⟨rfl⟩
instance {t:Bool} {l:List (List U)}:CeC (.isl t l) [.isl t l]:=⟨rfl⟩
instance {k st off:Nat}:CeC (.ptr k st off) [.ptr k st off]:=⟨rfl⟩
instance {k st off n:Nat}:CeC (.vl k st off n) [.vl k st off n]:=⟨rfl⟩
instance {k off n c:Nat}:CeC (.sl k off n c) [.sl k off n c]:=⟨rfl⟩
instance {k:Nat}:CeC (.map k) [.map k]:=⟨rfl⟩
instance {f:Fn} {a c:List U}:CeC (.fn f a c) [.fn f a c]:=⟨rfl⟩
class z5d (q:List U) (off n:Nat) (cs:outParam (List U)):Prop where
 h:qfl q off n=some cs
instance {q:List U}:z5d q 0 0 []:=⟨by simp [qfl]⟩
instance {a:U} {q cs:List U} {n:Nat} [s:z5d q 0 n cs]:z5d (a::q) 0 (n+1) (a::cs):=⟨by
 have:=s.h
 unfold qfl at *
 split at this
 ·next h=>cases this; rw [if_pos (by simp at *; omega)]; simp
 ·cases this⟩
instance (priority:=low) {α:Type} {c:α→List U} {x:α} {sz:Nat} [q:LenC c sz]:z5d (c x) 0 sz (c x):=⟨by
 unfold qfl
 rw [if_pos (by rw [q.h]; omega),List.drop_zero,zW (by rw [q.h]; exact zF _)]⟩
class LeL (q:List U) (n:Nat):Prop where
 h:q.length=n
instance:LeL [] 0:=⟨rfl⟩
instance {a:U} {q:List U} {n:Nat} [s:LeL q n]:LeL (a::q) (n+1):=⟨by simp [s.h]⟩
instance (priority:=low) {α:Type} {c:α→List U} {x:α} {sz:Nat} [q:LenC c sz]:LeL (c x) sz:=⟨q.h x⟩
class PuC (q:List U) (off:Nat) (cs:List U) (q':outParam (List U)):Prop where
 h:ql4 q off cs=some q'
instance {q:List U}:PuC q 0 [] q:=⟨by simp [ql4]⟩
instance {a b:U} {q cs q':List U} [s:PuC q 0 cs q']:PuC (a::q) 0 (b::cs) (b::q'):=⟨by
 have:=s.h
 unfold ql4 at *
 split at this
 ·next h=>cases this; rw [if_pos (by simp at *; omega)]; simp
 ·cases this⟩
instance {a:U} {q cs q':List U} {o:Nat} [s:PuC q o cs q']:PuC (a::q) (o+1) cs (a::q'):=⟨by
 have:=s.h
 unfold ql4 at *
 split at this
 ·next h =>
  cases this
  rw [if_pos (by simp at *; omega)]
  simp [show o+1+cs.length=(o+cs.length)+1 by omega]
 ·cases this⟩
instance (priority:=low) {α:Type} {c:α→List U} {x:α} {sz:Nat} {q:List U} [s:LenC c sz] [t:LeL q sz]:PuC q 0 (c x) (c x):=⟨by
 unfold ql4
 have h1:=s.h x
 have h2:=t.h
 rw [if_pos (by omega),List.drop_eq_nil_of_le (by omega)]
 simp⟩
class ApC (a b:List U) (c:outParam (List U)):Prop where
 h:a++b=c
instance {b:List U}:ApC [] b b:=⟨rfl⟩
instance {x:U} {a b c:List U} [s:ApC a b c]:ApC (x::a) b (x::c):=⟨by rw [List.cons_append,s.h]⟩
class PlC (pl:List (Nat×Nat)) (i:Nat) (o s:outParam Nat):Prop where
 h:nth pl i=some (o,s)
instance {o s:Nat} {pl:List (Nat×Nat)}:PlC ((o,s)::pl) 0 o s:=⟨rfl⟩
instance {a:Nat×Nat} {i o s:Nat} {pl:List (Nat×Nat)} [q:PlC pl i o s]:PlC (a::pl) (i+1) o s:=⟨q.h⟩
variable {zu:List U}
variable {q':List U}
variable {cs:List U}
variable {s:Nat}
variable {qs:List (Nat×U)}
theorem z4a {place:Nat→Option (Nat×Nat)} {c0:List U} {i o:Nat} {v:U} (hp:place i=some (o,s)) (hc:qa2 v=some c0) (hl:c0.length=s) (hq:ql4 zu o c0=some q') (hr:qe5 place q' qs=some cs):qe5 place zu ((i,v)::qs)=some cs:=by
 have:Nat.beq c0.length s=true:=by simp [beq_eq,hl]
 simp only [qe5,hp,hc,this,zC,hq,hr]
class FbC (pl:List (Nat×Nat)) (zu:List U) (qs:List (Nat×U)) (cs:outParam (List U)):Prop where
 h:qe5 (nth pl) zu qs=some cs
instance {pl:List (Nat×Nat)} {zu:List U}:FbC pl zu [] zu:=⟨rfl⟩
instance {pl:List (Nat×Nat)} {zu q' cs c0:List U} {i o s:Nat} {v:U} {qs:List (Nat×U)} [p:PlC pl i o s] [c:CeC v c0] [l:LeL c0 s] [q:PuC zu o c0 q'] [r:FbC pl q' qs cs]:FbC pl zu ((i,v)::qs) cs:=⟨z4a p.h c.h l.h q.h r.h⟩
class MuC (a b:Nat) (c:outParam Nat):Prop where
 h:a*b=c
instance {b:Nat}:MuC 0 b 0:=⟨Nat.zero_mul b⟩
instance {b:Nat}:MuC 1 b b:=⟨Nat.one_mul b⟩
instance {a:Nat}:MuC (a+2) 1 (a+2):=⟨Nat.mul_one _⟩
class FsC (s:Nat) (zu:List U) (qs:List (Nat×U)) (cs:outParam (List U)):Prop where
 h:qe5 (fun i=>some (i*s,s)) zu qs=some cs
instance {s:Nat} {zu:List U}:FsC s zu [] zu:=⟨rfl⟩
instance {zu q' cs c0:List U} {i o s:Nat} {v:U} {qs:List (Nat×U)} [m:MuC i s o] [c:CeC v c0] [l:LeL c0 s] [q:PuC zu o c0 q'] [r:FsC s q' qs cs]:FsC s zu ((i,v)::qs) cs:=⟨z4a (by rw [m.h]) c.h l.h q.h r.h⟩
class ZsC (z:List U) (k:Nat) (zs:outParam (List U)):Prop where
 h:qa1 z k=zs
instance {z:List U}:ZsC z 0 []:=⟨rfl⟩
instance {z a b:List U} {k:Nat} [q:ZsC z k a] [p:ApC z a b]:ZsC z (k+1) b:=⟨by
 have:=q.h
 have:=p.h
 simp only [qa1,List.replicate_succ,List.flatten_cons] at *
 simp_all⟩
class DeC {α:Type} (c:α→List U) (cs:List U) (x:outParam α):Prop where
 h:c x=cs
instance {k:IntKind} {z:Int}:DeC (cI k) [.int k z] z:=⟨rfl⟩
instance {s:List UInt8}:DeC cS [.str s] s:=⟨rfl⟩
instance {α:Type} {c:α→List U} {l:List α}:DeC (cL c) [.isl false (l.map c)] l:=⟨rfl⟩
instance (priority:=low) {α:Type} {c:α→List U} {x:α}:DeC c (c x) x:=⟨rfl⟩
instance (priority:=low) {α:Type} {c:α→List U} {x:α}:WkC (c x) (c x):=⟨WkL.refl _⟩
class BdC (T:Tb) (t:TypeId) (zu:outParam (List U)) (pl:outParam (List (Nat×Nat))):Prop where
 h:BdT T t zu pl
class SuC (a:Nat) (b:outParam Nat):Prop where
 h:a+1=b
instance:SuC 0 1:=⟨rfl⟩
instance:SuC 1 2:=⟨rfl⟩
instance:SuC 2 3:=⟨rfl⟩
instance:SuC 3 4:=⟨rfl⟩
instance:SuC 4 5:=⟨rfl⟩
instance:SuC 5 6:=⟨rfl⟩
instance:SuC 6 7:=⟨rfl⟩
instance:SuC 7 8:=⟨rfl⟩
instance:SuC 8 9:=⟨rfl⟩
instance:SuC 9 10:=⟨rfl⟩
instance:SuC 10 11:=⟨rfl⟩
instance:SuC 11 12:=⟨rfl⟩
instance:SuC 12 13:=⟨rfl⟩
instance:SuC 13 14:=⟨rfl⟩
class AdC (a b:Nat) (c:outParam Nat):Prop where
 h:a+b=c
instance {b:Nat}:AdC 0 b b:=⟨Nat.zero_add b⟩
class NxC (a:Nat) (b:outParam Nat):Prop where
 h:a+1=b
instance {a b:Nat} [q:SuC a b]:NxC a b:=⟨q.h⟩
instance (priority:=low) {a:Nat}:NxC a (a+1):=⟨rfl⟩
section
variable {T:Tb} {n:Nat} {l:List (Nat×U)} {h h':List (Nat×B)} {nx nx':Nat} {u v w:U} {op:Op}
variable {e:TypeId}
theorem oAl (ho:op = .alloc e) [z:ZeC T e zu] [hn:SuC nx nx']:opU T ⟨h,nx⟩ (fr n l) op=some (.ptr nx 0 0,⟨(nx,.row zu e)::h,nx'⟩):=by
 subst ho; have hn':=hn.h; subst hn'
 obtain ⟨a,b,q,h1,h2,h3⟩:=z.h
 exact z34 h1 h2 h3
variable {x:Operand}
theorem oBx (ho:op = .box e x) (hx:evS n l x=some v) [c:CeC v cs] (hk:okL cs=true) [hn:SuC nx nx']:opU T ⟨h,nx⟩ (fr n l) op=some (.ptr nx 0 0,⟨(nx,.row cs e)::h,nx'⟩):=by
 subst ho; have hn':=hn.h; subst hn'
 exact op_box hx c.h hk
variable {t:TypeId}
variable {a:Operand}
variable {k:Nat}
variable {off:Nat}
variable {sz:Nat}
variable {q:List U}
theorem oSt (ho:op = .store t a x) (ha:evS n l a=some (.ptr k 0 off)) (hx:evS n l x=some v) [g:GtC h k (.row q e)] [s:SzC T t sz] [c:CeC v cs] [p:PuC q off cs q'] [w:UgC h k (.row q' e) h'] (hl:Nat.beq cs.length sz=true) (hk:okL cs=true):opU T ⟨h,nx⟩ (fr n l) op=some (.junk,⟨h',nx⟩):=by
 subst ho
 refine z37 s.h ha hx c.h hl hk (q:=q) (q':=q') ?_ ?_ ?_
 ·simp only [cellsOf,g.h]; rfl
 ·simp only [wkB,g.h]; exact p.h
 ·simp only [qo3,g.h,w.h]
variable {d:TypeDesc}
theorem oLa (ho:op = .load t x) (hx:evS n l x=some (.ptr k 0 off)) [hd:UnC T t d] (ha:q72 d=true) [g:GtC h k (.row q e)] [s:SzC T t sz] [p:z5d q off sz cs]:opU T ⟨h,nx⟩ (fr n l) op=some (.agg cs,⟨h,nx⟩):=by
 subst ho
 exact q86 hd.h ha s.h hx (by simp only [cellsOf,g.h]; rfl) p.h
theorem oLo (ho:op = .load t x) (hx:evS n l x=some (.ptr k 0 off)) [hd:UnC T t d] (ha:q72 d=false) [g:GtC h k (.row q e)] (hu:nth q off=some u):opU T ⟨h,nx⟩ (fr n l) op=some (u,⟨h,nx⟩):=by
 subst ho
 exact q60 hd.h ha hx (by simp only [cellsOf,g.h]; rfl) hu
theorem oIa (ho:op = .load t x) (hx:evS n l x=some (.iptr q)) [hd:UnC T t d] (ha:q72 d=true) [s:SzC T t sz] [p:z5d q 0 sz cs]:opU T ⟨h,nx⟩ (fr n l) op=some (.agg cs,⟨h,nx⟩):=by
 subst ho
 exact z4q hd.h ha s.h hx p.h
theorem oIo (ho:op = .load t x) (hx:evS n l x=some (.iptr q)) [hd:UnC T t d] (ha:q72 d=false) (hu:nth q 0=some u):opU T ⟨h,nx⟩ (fr n l) op=some (u,⟨h,nx⟩):=by
 subst ho
 exact qrt hd.h ha hx hu
theorem oFa {f:Nat} {fs:Array Field} {fd:Field} {off':Nat} (ho:op = .fieldAddr t x f) (hx:evS n l x=some (.ptr k 0 off)) [hd:UnC T t (.struct fs)] [g:GtC h k (.row q e)] (hf:nth fs.toList f=some fd) (hs:q0x T fd.type=some (s+1)) (h2:off+fd.offset=off'):opU T ⟨h,nx⟩ (fr n l) op=some (.ptr k 0 off',⟨h,nx⟩):=by
 subst ho
 exact q77 hd.h hf hs hx (by simp only [live,g.h]; rfl) h2
theorem oFi {f:Nat} {fs:Array Field} {fd:Field} (ho:op = .fieldAddr t x f) (hx:evS n l x=some (.iptr q)) [hd:UnC T t (.struct fs)] (hf:nth fs.toList f=some fd) (hs:q0x T fd.type=some (s+1)) (hq:q.drop fd.offset=q'):opU T ⟨h,nx⟩ (fr n l) op=some (.iptr q',⟨h,nx⟩):=by
 subst ho
 exact z6e hd.h hf hs hx hq
variable {α:Type}
variable {c:α→List U}
variable {b:Bool}
variable {xs:List α}
theorem oIx {i:Operand} {k:IntKind} {z:Int} {y:α} (ho:op = .indexAddr t x i) (hx:evS n l x=some (.isl b (List.map c xs))) (hi:evS n l i=some (.int k z)) [hd:UnC T t (.slice e)] [hs:SzC T e sz] [hc:LenC c sz] (hy:idxO xs z=some y):opU T ⟨h,nx⟩ (fr n l) op=some (.iptr (c y),⟨h,nx⟩):=by
 subst ho
 exact q25 hx hi (qom c hd.h hs.h hc.h hy rfl)
variable {args:Array Operand}
variable {ts:Array TypeId}
theorem oLe {q:List TypeId} (ho:op = .call { callee:=.builtin .len,args:=args,argTypes:=ts }) (ha:args.toList=[x]) (ht:ts.toList=t::q) (hx:evS n l x=some (.isl b (List.map c xs))) [hd:UnC T t (.slice e)]:opU T ⟨h,nx⟩ (fr n l) op=some (.int .i64 xs.length,⟨h,nx⟩):=by
 subst ho
 exact qj6 ha ht hx (z63 c hd.h)
theorem oLv {e':TypeId} {q:List TypeId} {K st m:Nat} (ho:op = .call { callee:=.builtin .len,args:=args,argTypes:=ts }) (ha:args.toList=[x]) (ht:ts.toList=t::q) (hx:evS n l x=some (.vl K st 0 m)) [hd:UnC T t (.slice e)] [g:GtC h K (.vec cs e' sz st)]:opU T ⟨h,nx⟩ (fr n l) op=some (.int .i64 m,⟨h,nx⟩):=by
 subst ho
 exact qj6 ha ht hx (z4p hd.h g.h)
theorem oBd {pl:List (Nat×Nat)} {ps:Array (Nat×Operand)} (ho:op = .build t ps) [q:BdC T t zu pl] (he:z1a n l ps.toList=some qs) (c:FbC pl zu qs cs) (hk:okL cs=true):opU T ⟨h,nx⟩ (fr n l) op=some (.agg cs,⟨h,nx⟩):=by
 subst ho
 exact qvf q.h he c.h hk
variable {z:Value}
theorem oBs {b:Nat} {zs:List U} {ps:Array (Nat×Operand)} (ho:op = .buildSlice t k ps) (he:z1a n l ps.toList=some qs) [hd:UnC T t (.slice e)] [hi:InC T e sz b z] [hz:ZeC T e zu] (zc:ZsC zu k zs) (c:FsC sz zs qs cs) (hk:okL cs=true) (h1:Nat.ble (k*sz) 16777216=true) (h2:Nat.ble k 16777216=true) (h3:Nat.beq z.cells.toList.length sz=true) (hn:SuC nx nx'):opU T ⟨h,nx⟩ (fr n l) op=some (.sl nx 0 k k,⟨(nx,.row cs e)::h,nx'⟩):=by
 subst ho; have hn':=hn.h; subst hn'
 obtain ⟨a,b',q,g1,g2,g3⟩:=hz.h
 have e1:=hi.h
 rw [g1] at e1
 cases e1
 exact qc4 hd.h hi.h he h1 h2 h3 g2 (by rw [zc.h]; exact c.h) hk
variable {σ:Sg}
theorem oMv (ho:op = .move x) (hx:evS n l x=some u):opU T σ (fr n l) op=some (u,σ):=by subst ho; exact q0w hx
theorem oAs (ho:op = .assign x) (hx:evS n l x=some u):opU T σ (fr n l) op=some (u,σ):=by subst ho; exact qs3 hx
variable {y:Operand}
theorem oIn {b:BinOp} {t':TypeId} {k k':IntKind} {i j:Int} {r:Value} (ho:op = .binOp b t x y t') (hx:evS n l x=some (.int k i)) (hy:evS n l y=some (.int k' j)) [q:IxC b k i k' j r] (hr:ofV r=some u):opU T σ (fr n l) op=some (u,σ):=by subst ho; exact qa4 hx hy q.h hr
theorem oP1 {c b:Operand} {t:Bool} (ho:op = .pick c a b) (hc:evS n l c=some (.bool t)) (ht:t=true) (hu:evS n l a=some u):opU T σ (fr n l) op=some (u,σ):=by subst ho; exact qvh hc ht hu
theorem oP0 {c b:Operand} {t:Bool} (ho:op = .pick c a b) (hc:evS n l c=some (.bool t)) (ht:t=false) (hu:evS n l b=some u):opU T σ (fr n l) op=some (u,σ):=by subst ho; exact qvg hc ht hu
theorem oEx {i:Nat} (ho:op = .extract x i) (hx:evS n l x=some (.tup q)) (hu:nth q i=some u):opU T σ (fr n l) op=some (u,σ):=by subst ho; exact z4u hx hu
theorem oUn {b:UnOp} {v1 v2:Value} (ho:op = .unOp b t x) (hx:evS n l x=some v) (h1:toV v=some v1) (h2:unX b v1=some v2) (hq:ofV v2=some u):opU T σ (fr n l) op=some (u,σ):=by subst ho; exact op_un hx h1 h2 hq
theorem oAp {xt e1 e2:TypeId} {a st st' K s0 s1 by_:Nat} {yv:α} {cs':List U} (ho:op = .call { callee:=.builtin .append,args:=args,argTypes:=ts }) (ha:args.toList=[x,y]) (ht:ts.toList=[t,xt]) (hx:evS n l x=some (.vl a st 0 xs.length)) (hy:evS n l y=some (.sl K 0 1 1)) [d1:UnC T t (.slice e)] [d2:UnC T xt (.slice e2)] [g:GtC h a (.vec (List.map c xs).flatten e s0 st)] [i:InC T e s1 by_ z] [g2:GtC h K (.row q e1)] [s:z5d q 0 s1 cs] [w:WkC cs cs'] [d:DeC c cs' yv] [lc:LenC c s1] [nx1:NxC st st'] [ug:UgC h a (.vec (List.map c (xs++[yv])).flatten e s1 st') h'] (hs0:s0=s1) (hp:Nat.ble 1 s1=true) (hc:wkZ cs=(List.map c [yv]).flatten) (hz:Nat.beq z.cells.toList.length s1=true) (hr:(xs.length+1)*by_≤140737488355328∧xs.length+1≤140737488355328):opU T ⟨h,nx⟩ (fr n l) op=some (.vl a st' 0 (xs++[yv]).length,⟨h',nx⟩):=by
 subst ho; subst hs0; obtain ⟨sz,rfl⟩:∃ sz,s0=sz+1:=⟨s0 - 1,by have:=zY hp; omega⟩; have e1:=nx1.h; subst e1
 have:=qdn (σ:=⟨h,nx⟩) ha ht hx hy (qkn c [yv] d1.h d2.h i.h hz lc.h g.h (qni c [yv] (q:=q) (by simp only [rowOf,g2.h]) (by rw [Nat.one_mul]; exact s.h) rfl hc) hr)
 rw [ug.h] at this
 exact this
theorem oAq {xt e2:TypeId} {a st st' s0 s1 by_:Nat} {ys:List α} (ho:op = .call { callee:=.builtin .append,args:=args,argTypes:=ts }) (ha:args.toList=[x,y]) (ht:ts.toList=[t,xt]) (hx:evS n l x=some (.vl a st 0 xs.length)) (hy:evS n l y=some (.isl b (List.map c ys))) [d1:UnC T t (.slice e)] [d2:UnC T xt (.slice e2)] [g:GtC h a (.vec (List.map c xs).flatten e s0 st)] [i:InC T e s1 by_ z] [lc:LenC c s1] [nx1:NxC st st'] [ug:UgC h a (.vec (List.map c (xs++ys)).flatten e s1 st') h'] (hs0:s0=s1) (hp:Nat.ble 1 s1=true) (hz:Nat.beq z.cells.toList.length s1=true) (hr:(xs.length+ys.length)*by_≤140737488355328∧xs.length+ys.length≤140737488355328):opU T ⟨h,nx⟩ (fr n l) op=some (.vl a st' 0 (xs++ys).length,⟨h',nx⟩):=by
 subst ho; subst hs0; obtain ⟨sz,rfl⟩:∃ sz,s0=sz+1:=⟨s0 - 1,by have:=zY hp; omega⟩; have e1:=nx1.h; subst e1
 have:=qdn (σ:=⟨h,nx⟩) ha ht hx hy (qkn c ys d1.h d2.h i.h hz lc.h g.h (qnh c lc.h) hr)
 rw [ug.h] at this
 exact this
end
variable {A:Prop}
theorem opx (h:A:=by first
 | exact Go.Vx.oIo rfl rfl rfl rfl
 | exact Go.Vx.oLo rfl rfl rfl rfl
 | exact Go.Vx.oFi rfl rfl (by exact rfl) (by exact Go.Vx.SzC.h) (by exact rfl)
 | exact Go.Vx.oFa rfl rfl (by exact rfl) (by exact Go.Vx.SzC.h) (by exact Go.Vx.AdC.h)
 | exact Go.Vx.oLa rfl rfl rfl
 | exact Go.Vx.oIa rfl rfl rfl
 | exact Go.Vx.oLe rfl rfl rfl rfl
 | exact Go.Vx.oLv rfl rfl rfl rfl
 | exact Go.Vx.oBx rfl rfl rfl
 | exact Go.Vx.oAl rfl
 | exact Go.Vx.oSt rfl rfl rfl rfl rfl
 | exact Go.Vx.oBd rfl rfl (by exact inferInstance) rfl):A:=h
theorem opy (h:A:=by first
 | exact Go.Vx.oMv rfl rfl
 | exact Go.Vx.oAs rfl rfl
 | exact Go.Vx.oIn rfl rfl rfl rfl
 | exact Go.Vx.oEx rfl rfl rfl
 | exact Go.Vx.oP1 rfl rfl (by first | with_reducible_and_instances assumption | exact rfl) rfl
 | exact Go.Vx.oP0 rfl rfl (by first | with_reducible_and_instances assumption | exact rfl) rfl
 | exact Go.Vx.oUn rfl rfl rfl rfl rfl
 | exact Go.Vx.opx):A:=h
theorem opz (h:A:=by first
 | exact Go.Vx.oBs rfl rfl (by exact inferInstance) (by exact inferInstance) rfl rfl rfl rfl (by exact inferInstance)
 | exact Go.Vx.oAp rfl rfl rfl rfl rfl rfl rfl rfl rfl (by with_reducible assumption)
 | exact Go.Vx.oAq rfl rfl rfl rfl rfl rfl rfl rfl (by with_reducible assumption)
 | exact Go.Vx.opx):A:=h
section
variable {T:Tb} {ops r:List Oper} {o:Oper} {n:Nat} {l:List (Nat×U)} {σ σ':Sg} {u:U}
variable {C:PG}
variable {K:List U→Sg→Prop}
variable {d:Tmp}
theorem RS.g (hk:RU C T ops r (fr n ((d,u)::l)) σ' K) (h:opU T σ (fr n l) o.op=some (u,σ'):=by exact Go.Vx.opz) (he:o.dst=some d:=by exact rfl) (hw:q0c ops (fr n l) o=some true:=by exact Go.Vx.wA) (hd:Nat.blt d n=true:=by exact rfl):RU C T ops (o::r) (fr n l) σ K:=RS.op hw h he hd hk
variable {P:Program}
variable {acc:List RK}
variable {K:List RK→List U→Sg→Prop}
theorem RD.g (hk:RH P T ops r (fr n ((d,u)::l)) σ' ((3,⟨fr n l,o,u,true,true,σ,σ'⟩)::acc) K) (h:opU T σ (fr n l) o.op=some (u,σ'):=by exact Go.Vx.opz) (he:o.dst=some d:=by exact rfl) (hw:q0c ops (fr n l) o=some true:=by exact Go.Vx.wA) (hd:Nat.blt d n=true:=by exact rfl):RH P T ops (o::r) (fr n l) σ acc K:=RD.act hw h he hd hk
theorem z7f (hk:RH P T ops r (fr n l) σ' ((3,⟨fr n l,o,u,true,true,σ,σ'⟩)::acc) K) (h:opU T σ (fr n l) o.op=some (u,σ'):=by exact Go.Vx.opz) (he:o.dst=none:=by exact rfl) (hw:q0c ops (fr n l) o=some true:=by exact Go.Vx.wA):RH P T ops (o::r) (fr n l) σ acc K:=z7e hw h he hk
theorem RD.ou (hk:RH P T ops r (fr n ((d,u)::l)) σ ((1,⟨fr n l,o,u,false,false,σ,σ⟩)::acc) K) (h:opU T σ (fr n l) o.op=some (u,σ):=by exact Go.Vx.opy) (he:o.dst=some d:=by exact rfl) (hw:q0c ops (fr n l) o=some true:=by exact Go.Vx.wA) (hd:Nat.blt d n=true:=by exact rfl):RH P T ops (o::r) (fr n l) σ acc K:=RD.look hw h he hd hk
theorem RD.nt {d':Tmp} {j:Nat} {b:Bool} (hg:o.guard=some (j,true)) (hj:qhp ops j=some d') (hl:evS n l (.tmp d')=some (.bool b)) (hb:b=false) (he:o.dst=some d) (hk:RH P T ops r (fr n ((d,.tup [])::l)) σ ((0,⟨fr n l,o,.tup [],false,false,σ,σ⟩)::acc) K) (hd:Nat.blt d n=true:=by exact rfl):RH P T ops (o::r) (fr n l) σ acc K:=RD.no (z3m hg hj hl hb) he hd hk
theorem RD.nf {d':Tmp} {j:Nat} {b:Bool} (hg:o.guard=some (j,false)) (hj:qhp ops j=some d') (hl:evS n l (.tmp d')=some (.bool b)) (hb:b=true) (he:o.dst=some d) (hk:RH P T ops r (fr n ((d,.tup [])::l)) σ ((0,⟨fr n l,o,.tup [],false,false,σ,σ⟩)::acc) K) (hd:Nat.blt d n=true:=by exact rfl):RH P T ops (o::r) (fr n l) σ acc K:=RD.no (z3m hg hj hl hb) he hd hk
theorem RS.ix {K:List U→Sg→Prop} {α:Type} {xs:List α} {z:Int} {y:α} (hy:idxO xs z=some y) (hk:RU C T ops r (fr n ((d,u)::l)) σ K) (h:idxO xs z=some y→opU T σ (fr n l) o.op=some (u,σ):=by intro hy; exact Go.Vx.oIx rfl rfl rfl hy) (he:o.dst=some d:=by exact rfl) (hw:q0c ops (fr n l) o=some true:=by exact Go.Vx.wA) (hd:Nat.blt d n=true:=by exact rfl):RU C T ops (o::r) (fr n l) σ K:=RS.op hw (h hy) he hd hk
theorem RD.ix {α:Type} {xs:List α} {z:Int} {y:α} (hy:idxO xs z=some y) (hk:RH P T ops r (fr n ((d,u)::l)) σ ((1,⟨fr n l,o,u,false,false,σ,σ⟩)::acc) K) (h:idxO xs z=some y→opU T σ (fr n l) o.op=some (u,σ):=by intro hy; exact Go.Vx.oIx rfl rfl rfl hy) (he:o.dst=some d:=by exact rfl) (hw:q0c ops (fr n l) o=some true:=by exact Go.Vx.wA) (hd:Nat.blt d n=true:=by exact rfl):RH P T ops (o::r) (fr n l) σ acc K:=RD.look hw (h hy) he hd hk
theorem RS.ou {K:List U→Sg→Prop} (hk:RU C T ops r (fr n ((d,u)::l)) σ' K) (h:opU T σ (fr n l) o.op=some (u,σ'):=by exact Go.Vx.opx) (he:o.dst=some d:=by exact rfl) (hw:q0c ops (fr n l) o=some true:=by exact Go.Vx.wA) (hd:Nat.blt d n=true:=by exact rfl):RU C T ops (o::r) (fr n l) σ K:=RS.op hw h he hd hk
theorem RS.oz {K:List U→Sg→Prop} (hk:RU C T ops r (fr n l) σ' K) (h:opU T σ (fr n l) o.op=some (u,σ'):=by exact Go.Vx.opx) (he:o.dst=none:=by exact rfl) (hw:q0c ops (fr n l) o=some true:=by exact Go.Vx.wA):RU C T ops (o::r) (fr n l) σ K:=z7i hw h he hk
end
theorem gd {B:Prop} (h:B) (g:Hd B→A:=by
 intro h
 repeat' first
  | (refine Go.Vx.RD.nt rfl rfl rfl ?_ rfl ?_; · first | with_reducible_and_instances assumption | exact rfl)
  | (refine Go.Vx.RD.nf rfl rfl rfl ?_ rfl ?_; · first | with_reducible_and_instances assumption | exact rfl)
  | refine Go.Vx.RD.ou ?_
 exact h.h):A:=g ⟨h⟩
theorem gs {B: Prop} (h : B) (g : Hd B → A := by
  intro h
  first
    | refine Go.Vx.gq ?_
    | with_reducible refine Go.Vx.sq ?_
    | with_reducible refine Go.Vx.WPU.skip ?_
    | with_reducible refine Go.Vx.RS.done ?_
    | with_reducible refine Go.Vx.WPU.ret ?_
    | with_reducible refine Go.Vx.WPU.exit ?_
    | (refine Go.Vx.RS.nt rfl rfl rfl ?_ rfl rfl ?_; · first | with_reducible_and_instances assumption | exact rfl)
    | (refine Go.Vx.RS.nf rfl rfl rfl ?_ rfl rfl ?_; · first | with_reducible_and_instances assumption | exact rfl)
    | (refine Go.Vx.RS.mo rfl rfl rfl ?_ rfl ?_; · exact Go.Vx.wA)
    | (refine Go.Vx.RS.in rfl rfl rfl rfl rfl ?_ rfl ?_; · exact Go.Vx.wA)
    | (refine Go.Vx.RS.p1 rfl rfl ?_ rfl rfl ?_ rfl ?_; · first | with_reducible_and_instances assumption | exact rfl
       · exact Go.Vx.wA)
    | (refine Go.Vx.RS.p0 rfl rfl ?_ rfl rfl ?_ rfl ?_; · first | with_reducible_and_instances assumption | exact rfl
       · exact Go.Vx.wA)
    | (refine Go.Vx.RS.a rfl rfl rfl ?_ rfl ?_; · exact Go.Vx.wA)
    | (refine Go.Vx.RS.ex rfl rfl rfl rfl ?_ rfl ?_; · exact Go.Vx.wA)
    | (refine Go.Vx.RS.un rfl rfl rfl rfl rfl rfl ?_ rfl ?_; · exact Go.Vx.wA)
    | refine Go.Vx.RS.ou ?_
    | refine Go.Vx.RS.oz ?_
  exact h.h) : A := g ⟨h⟩
theorem go {B:Prop} (h:B) (g:Hd B→A:=by intro h; (repeat' first | refine Go.Vx.gs ?_ | refine Go.Vx.rg1 rfl ?_); exact h.h):A:=g ⟨h⟩
theorem gn {B:Prop} (h:B) (g:Hd B→A:=by intro h; (repeat' refine Go.Vx.gs ?_); exact h.h):A:=g ⟨h⟩
theorem gr {B:Prop} (h:B) (g:Hd B→A:=by intro h; refine Go.Vx.gn ?_; refine Go.Vx.rg1 rfl ?_; refine Go.Vx.gn ?_; exact h.h):A:=g ⟨h⟩
theorem gx {α:Type} {a b:α} (h:some a=some b) (g:a=b→A:=by intro e; subst e; refine Go.Vx.go ?_; exact Go.Vx.rt1 rfl rfl rfl rfl):A:=g (sI h)
theorem gy {α:Type} {a b:α} (h:some a=some b) (g:a=b→A:=by intro e; subst e; refine Go.Vx.go ?_; exact Go.Vx.xC ⟨rfl,rfl⟩):A:=g (sI h)
theorem gB {β:Type} {t:Bool} {a b r:Option β} (h:cond t a b=r):(t=true∧a=r)∨(t=false∧b=r):=by cases t; exact .inr ⟨rfl,h⟩; exact .inl ⟨rfl,h⟩
abbrev B.bv {α:Type} (c:α→List U) (l:List α) (e:TypeId) (sz st:Nat):B:=.vec (List.map c l).flatten e sz st
abbrev EvP (P:Program) (f:FuncId) (args:List U) (u:U):Prop:=EvU P f args ⟨[],0⟩ (fun u' _=>u'=u∧Bel 0 u')
section
variable {C:PG} {n0 n:Nat} {Q:Exit→List U→Sg→Prop} {l:List (Nat×U)} {h:List (Nat×B)} {nx:Nat} {c:Code}
theorem gV (i:Nat) (e:TypeId) (sz n1:Nat) (hw:WPU C n0 c (fr n ((i,.vl nx 0 0 0)::l)) ⟨(nx,.vec [] e sz 0)::h,n1⟩ Q) (hi:evS n l (.tmp i)=some .nils:=by exact rfl) (hs:Nat.blt 0 sz=true:=by exact rfl) (hn:nx+1=n1:=by exact rfl) (h0:n0≤nx:=by first | exact Nat.zero_le _ | exact zY rfl) (hd:dOk n (some i)=true:=by exact rfl):WPU C n0 c (fr n l) ⟨h,nx⟩ Q:=by
 subst hn
 refine WPU.ghost (z7j i e sz ?_ h0 hi hd) (Nat.le_succ_of_le h0) hw
 exact Nat.lt_of_succ_le (zY hs)
theorem gL {l':List (Nat×U)} {σ:Sg} {id:Nat} (I:Nat→List U→Sg→Prop) (E:List U→Sg→Prop) (k:Nat) (h0:I k (fr n l') σ)
  (out:∀ tm σ,E tm σ→Q .normal tm σ)
  (round:∀ m tm σ,I m tm σ→WPU C n0 c tm σ (qkl (fun tm' σ'=>∃ n' tm'' σ'',n'<m∧I n' tm'' σ''∧n0≤σ''.nx∧Gh n0 tm' σ' tm'' σ'') (q6e id (qsu n0 E Q))))
  (hn:n0≤σ.nx:=by first | exact Nat.zero_le _ | exact zY rfl) (ht:z0o l l':=by ((repeat refine ⟨rfl,?_⟩); exact trivial)):WPU C n0 (.block id (.loop c)) (fr n l) σ Q:=WPU.ghost (Gh.sub ht) hn (WPU.loopK I E k h0 out round)
theorem dE {T:Tb} [t:TbI C T] {tm:List U} {σ:Sg} {id:Nat} {ops:Array Oper} (pr:List (Nat×Nat)) (h:RH C.prog T ops.toList ops.toList tm σ [] (fun ks tm' σ'=>flE ops.toList (ks.reverse.map (·.1)) pr=true∧qpt T ks.reverse pr∧Q .normal tm' σ')) (hst:qcs ops.toList=true:=by kernel_rfl):WPU C n0 (.region id ops true) tm σ Q:=WPU.drawE t.ok pr hst h
end
theorem gF {β:Type} {t:Bool} {a b r:Option β} {A A1 A2:Prop} (hF:cond t a b=r) (h1:t=true→a=r→A1) (h2:t=false→b=r→A2) (g:cond t a b=r→Hd (t=true→a=r→A1)→Hd (t=false→b=r→A2)→A:=by
 intro e h k
 refine Go.Vx.go ?_
 exact Go.Vx.cF e h.h k.h):A:=g hF ⟨h1⟩ ⟨h2⟩
end Go.Vx
end
