import Derived.RangeFuncNested
import Derived.RangeFuncLeaves
import Derived.Test.YtldlchbgolpkaaaGreatP10
set_option linter.all false
namespace Go.Vx
open Go Go.Rx
variable{m:Nm}
variable{w:PL}
variable{w':PL}
def z8w{i:Nat}{b:lP}(hk:∀(k:Nat)(ob:Obj),w.heap[k]? = some ob->((∃c e f,ob=.cells c e f)\/∃q c,ob=.map q c)->w'.heap[k]? = some ob)(h:uY m i w b):uY m i w' b:=by
 rcases b with⟨l,e,md⟩|⟨es,cl⟩;simp[uY]at h ⊢
 match md,h with
 |0,h=>simp only[wX]at h ⊢;exact⟨h.1,hk _ _ h.2 (.inl ⟨_,_,_,rfl⟩)⟩|1,h=>simp only[wX]at h ⊢;obtain⟨c,e',fr,h1,h2⟩:=h;exact⟨c,e',fr,hk _ _ h1 (.inl ⟨_,_,_,rfl⟩),h2⟩
 |n+2,h=>simp[wX]at h ⊢;have⟨pre,rest,h1,h2⟩:=h;exact⟨pre,rest,hk _ _ h1 (.inl ⟨_,_,_,rfl⟩),h2⟩
 simp[uY]at h ⊢;exact hk _ _ h (.inr ⟨_,_,rfl⟩)
variable{s:S}
def qvy(hk:∀(k:Nat)(ob:Obj),w.heap[k]? = some ob->((∃c e f,ob=.cells c e f)\/∃q c,ob=.map q c)->w'.heap[k]? = some ob)(hf:fY m s w):fY m s w':=fun m' ha=>
 let q:=hf m' ha
 ⟨fun i b hl=>z8w hk (q.ok i b hl),q.inj,q.bd⟩
variable{l:Nat}
variable{r:Obj}
def xr{r':Obj}(hf:fY m s w)(hl:w.heap[l]? = some r)(ho:(∀c e f,r≠.cells c e f)/\∀q c,r≠.map q c):fY m s (w.putObj l r'):=by refine qvy (fun k ob h hd=>?_) hf;by_cases hk:l=k;subst hk;rw[hl]at h;cases h;rcases hd with⟨c,e,f,rfl⟩|⟨q,c,rfl⟩;exact absurd rfl (ho.1 c e f);exact absurd rfl (ho.2 q c);rw[World.putObj_heap_other (fun h=>hk h.symm)];exact h
def xm(r:Loop):(∀c e f,(Obj.loop r)≠.cells c e f)/\∀q c,(Obj.loop r)≠.map q c:=⟨by simp,by simp⟩
def Np(w:PL)(l:Nat)(o:Obj):(w.putObj l o).heap.size=w.heap.size:=by simp[World.putObj]
def bG.put_new{m':Nm}{s':S}{r':Obj}(h:bG m s w m' s' w')(hl:w.heap.size<=l)(hw:w'.heap[l]? = some r)(ho:(∀c e f,r≠.cells c e f)/\∀q c,r≠.map q c):bG m s w m' s' (w'.putObj l r'):=
 ⟨h.agree,h.nx,xr h.fits hw ho,h.own,fun b hb hn=>by rw[World.putObj_heap_other (by omega)];exact h.same b hb hn,by rw[Np];exact h.size,h.os,h.tape,h.output⟩
def bG.put_back{m':Nm}{s':S}{r1:Obj}(hf:fY m s w)(hw:w.heap[l]? = some r)(ho:(∀c e f,r≠.cells c e f)/\∀q c,r≠.map q c)(Uv:(∀c e f,r1≠.cells c e f)/\∀q c,r1≠.map q c)(h:bG m s (w.putObj l r1) m' s' w'):w'.heap[l]? = some r1/\bG m s w m' s' (w'.putObj l r):=by have aF:=(Array.getElem?_eq_some_iff.1 hw).1;have vC:(w.putObj l r1).heap[l]? = some r1:=World.putObj_heap_same aF;have wB:w'.heap[l]? = some r1:=RR (xr hf hw ho) h vC Uv.1 Uv.2;refine⟨wB,h.agree,h.nx,xr h.fits wB Uv,fun b hb=>?_,fun b hb hn=>?_,by rw[Np];have:=h.size;rw[Np]at this;exact this,h.os,h.tape,h.output⟩;rcases h.own b hb with h |h;exact .inl h;rw[Np]at h;exact .inr h;by_cases BM:b=l;subst BM;rw[World.putObj_heap_same (Array.getElem?_eq_some_iff.1 wB).1,hw];rw[World.putObj_heap_other BM,h.same b (by rw[Np];exact hb) hn,World.putObj_heap_other BM]
def bG.grow(hf:fY m s w)(o:Obj):bG m s w m s (w.alloc o):=by have hk:∀b,b<w.heap.size->(w.alloc o).heap[b]? = w.heap[b]?:=fun b hb=>Go.RowKit.Below.heap_alloc _ _ _ hb;refine⟨aI.refl _ _,zF _,qvy (fun k ob h _=>?_) hf,fun _ h=>.inl h,fun b hb _=>hk b hb,by simp,rfl,rfl,rfl⟩;rw[hk k (Array.getElem?_eq_some_iff.1 h).1];exact h
def R3:V U->V Tmp->V U->V U
 |tm,p::ps,u::us=>R3 (tm.set p u) ps us|tm,_,_=>tm
def DM:V O->V Tmp->V O->V O
 |tv,p::ps,v::vs=>DM (tv.set p v) ps vs|tv,_,_=>tv
def z1i{x:Cx}:∀{ps:V Tmp}{tm us:V U}{tv vs:V O},bB x tm tv->bB x us vs->bB x (R3 tm ps us) (DM tv ps vs)
 |[],tm,us,tv,vs,h,_=>by cases us<;>cases vs<;>simpa[R3,DM]using h
 |p::ps,tm,[],tv,vs,h,hu=>by rw[hu.nil_inv];simpa[R3,DM]using h
 |p::ps,tm,u::us,tv,vs,h,hu=>by obtain⟨v,rZ,rfl,h1,h2⟩:=hu.inv;simp only[R3,DM];exact z1i (h.set p h1) h2
def xf(m:Nm):∀(ps:V Tmp)(tv vs:V O),((ps.zip (aE m vs)).foldl (fun(t:H2 O) (q:Tmp×O)=>t.setIfInBounds q.1 q.2) ⟨aE m tv⟩)=⟨aE m (DM tv ps vs)⟩
 |[],tv,vs=>by simp[DM]
 |p::ps,tv,[]=>by simp[DM,aE]
 |p::ps,tv,v::vs=>by simp only[aE,List.zip_cons_cons,List.foldl_cons,DM];rw[<-xf m ps (tv.set p v) vs,z1f];congr 1;simp
def Lz{n:Nat}{l:V (Nat×U)}{p:Nat}{u:U}(h:Nat.blt p n=true):R3 (fr n l) [p] [u]=fr n ((p,u)::l):=uF (d:=some p) u h
structure ItG(l:Nat)(rec:Loop)(DE:V U)(nb:Nat)(x:Cx)(m:Nm)(w:PL):Prop where
 loop:w.heap[l]? = some (.loop rec)
 def_:w.heap[rec.defers]? = some (.deferred (some []))
 bel:aM nb DE
 tm:∃ET,bB x DE ET/\∀m',aI x.s.nx m m'->rec.tmps=⟨aE m' ET⟩
abbrev PG.it(P:H0)(l:Nat)(rec:Loop)(DE:V U)(nb:Nat):PG where
 prog:=P
 nb:=nb
 G:=ItG l rec DE nb
 ro:=fun ro=>ro=none
 mks:=false
 st:=fun{x y m m' w w'} h hf ha hk=>by have⟨ET,h1,h2⟩:=h.tm;exact⟨RR hf ha h.loop (by simp) (by simp),RR hf ha h.def_ (by simp) (by simp),h.bel,ET,hk.E h.bel h1,fun m'' hm=>h2 m'' (ha.agree.trans hm ha.nx)⟩
abbrev PG.top(P:H0):PG:=⟨P,0,fun _ _ _=>True,fun ro=>ro=none,true,fun _ _ _ _=>trivial⟩
instance{P:H0}{T:Tb}{l:Nat}{rec:Loop}{DE:V U}{nb:Nat}[h:TbP P T]:Jv (PG.it P l rec DE nb) T:=⟨h.ok⟩
instance{P:H0}{T:Tb}[h:TbP P T]:Jv (PG.top P) T:=⟨h.ok⟩
variable{X:Sg}
def DP.yield{P:H0}{rec:Loop}{DE:V U}{nb:Nat}{tm:V U}{o:Oper}{c:Call}{f:EW}{us tmx:V U}(ho:o.op=.call c)(PI:c.callee=.value f)(hf:cB tm f=some (.fn (.yield l) [] []))(hl:mJ tm c.args.toList=some us)
  (aZ:rec.params.size=us.length) (hr:rec.state=.ready) (hp:rec.pending=none) (Iw:R3 DE rec.params.toList us=tmx) {R':Sg->Prop} (hw:WPU (PG.of P) X.nx rec.assign tmx X (C1 (fun GT X1=>WPU (PG.of P) X.nx rec.body GT X1 (fun e _ X'=>e=.normal/\R' X')) (fun _ _ _=>False))):
  DP (PG.it P l rec DE nb) X tm o (fun u X'=>u=.bool true/\R' X'):=fun F x tv m w a next Q rK st hG hn ro kH=>by
 subst rK;have⟨g1,g2,g3,ET,g4,g5⟩:=hG.g;have⟨v,ev,rv⟩:=j6 st.e hf;simp[aD]at rv;obtain⟨va,vb,rfl,_,ha1,_,vH⟩:=rv;have P2:va=[]:=List.eq_nil_of_length_eq_zero (by simpa using ha1.symm);have TM:vb=[]:=List.eq_nil_of_length_eq_zero (by simpa using vH.symm);subst P2;subst TM;have⟨vs,ea,ra⟩:=ML st.e hl;have e0:=kF (st.act m (aI.refl _ _)) ev;have e1:=sH (st.act m (aI.refl _ _)) ea;simp[ren,fF,aE]at e0;have nV:vs.length=us.length:=ra.2.symm;have dU:(⟨aE m vs⟩:H2 O).size=rec.params.size:=by rw[aZ];simp[kE,nV]
 have hy:=run_yield (P:=P) (args:=⟨aE m vs⟩) g1 dU;have htm':(rec.params.zip (⟨aE m vs⟩:H2 O)).foldl (fun tmps (t,a)=>tmps.setIfInBounds t a) rec.tmps=⟨aE m (DM ET rec.params.toList vs)⟩:=by rw[g5 m (aI.refl _ _),<-xf m rec.params.toList ET vs];cases rec.params;simp
 rw[htm']at hy;have cR:(execOp a.eval o).run P w=.ok (.round l rec.fn ⟨aE m (DM ET rec.params.toList vs)⟩ rec.assign rec.body) w:=by have⟨callee,args,ats⟩:=c;simp only at PI hl ea e1;subst PI;simp[execOp,ho,zK,resolve,e0,e1,Deferred.ofValue,zL,zJ,invoke];simpa using hy
 refine⟨fun _ _=>trivial,?_⟩;rw[Oper.semAt_eq _ _ _ (by rw[ho];intro c hc;cases hc),show(PG.it P l rec DE nb).prog=P from rfl,cR];refine⟨wx,roundIn_of_wpIn (n:=0) (Cm _) ?_⟩;have stx:St F x tmx (DM ET rec.params.toList vs) m w { tmps:=⟨aE m (DM ET rec.params.toList vs)⟩,defers:=[] }:=by
  subst Iw;refine⟨st.h,st.fr,z1i g4 ra,st.fits,fun m' eF=>?_⟩;have q1:=g5 m' eF;have q0:=g5 m (aI.refl _ _);have HR:=sH (st.act m' eF) ea;rw[e1]at HR;have hvv:aE m vs=aE m' vs:=by simpa using HR
  have htt:aE m ET=aE m' ET:=by rw[q0]at q1;simpa using q1
  show(⟨aE m (DM ET rec.params.toList vs)⟩:H2 O)=_;rw[<-xf m,<-xf m',hvv,htt]
 apply wpIn_mono (hw (zF _) F x _ m w _ 0 rfl stx ⟨Nat.zero_le _,trivial⟩ ⟨fun _=>rfl,fun h=>by cases h⟩ (some l) trivial);rintro e a1 w1 ⟨y,GT,tv1,m1,hq,AV,Zt,ke1,Jd,dr1⟩;cases e with
 |normal=>
  have vC:w1.heap[l]? = some (.loop rec):=RR st.fits Zt g1 (by simp) (by simp);refine⟨_,run_beginRound vC hr,?_⟩;apply wpIn_mono (hq Jd F y tv1 m1 (w1.putObj l (.loop { rec with state:=.busy })) a1 0 rfl ⟨AV.h,AV.fr,AV.e,xr AV.fits vC (xm _),AV.act⟩ ⟨Nat.zero_le _,trivial⟩ ⟨fun _=>rfl,fun h=>by cases h⟩ (some l) trivial);rintro e a2 w3 ⟨z,zi,tv2,m2,⟨rfl,hR'⟩,zr,adv2,ke2,Am,dr2⟩;have⟨hl3,adv3⟩:=bG.put_back AV.fits vC (xm _) (xm _) adv2;have hrec:({ ({ rec with state:=.busy }:Loop)with state:=.ready,pending:=none }:Loop)=rec:=by cases rec;simp only at hr hp;subst hr;subst hp;rfl
  refine⟨_,_,run_endRound none hl3,?_⟩;have aS:=Zt.trans adv3;have eC:=ke1.trans ke2;have fin:next (a.put o.dst (.bool true)) (w3.putObj l (.loop rec)):=hn (.bool true) z (LQ tv o.dst (.bool true)) m2 _ _ ⟨rfl,hR'⟩
   ⟨zr.h,zr.fr,Fq (eC.E st.e.bel st.e) (by simp[aD]) _,aS.fits,(st.act.ext aS.agree aS.nx).put (B7 fun _=>by simp[ren]) o.dst⟩ aS eC Am (OC _ _ _)
  rw[<-hrec]at fin
  exact fin
 |_=>exact hq.elim
def RS.yield{P:H0}{T:Tb}{l:Nat}{rec:Loop}{DE:V U}{nb n:Nat}{sl:V (Nat×U)}{aB r:V Oper}{o:Oper}{X:Sg}{K:V U->Sg->Prop}{c:Call}{f:EW}{us tmx:V U}(hw:cX aB (fr n sl) o=some true)(ho:o.op=.call c)(PI:c.callee=.value f)
  (hf:bZ n sl f=some (.fn (.yield l) [] [])) (hl:I3 n sl c.args.toList=some us) (aZ:rec.params.size=us.length) (hr:rec.state=.ready) (hp:rec.pending=none) (Iw:R3 DE rec.params.toList us=tmx) {d:Tmp} (he:o.dst=some d) (hd:Nat.blt d n=true) (hb:WPU (PG.of P) X.nx rec.assign tmx X (C1 (fun GT X1=>WPU (PG.of P) X.nx rec.body GT X1 (fun e _ X'=>e=.normal/\RU (PG.it P l rec DE nb) T aB r (fr n ((d,.bool true)::sl)) X' K)) (fun _ _ _=>False))):
  RU (PG.it P l rec DE nb) T aB (o::r) (fr n sl) X K :=
 .inr (.inr (.inr (.inr ⟨hw,_,DP.yield ho PI (eY hf) (XL hl) aZ hr hp Iw hb,fun u X' h=>by rw[h.1,he,uF (d:=some d) _ hd];exact h.2⟩)))
def WPU.range{C:PG}{T:Tb}(hT:kT C.prog T){n0:Nat}{Q:Exit->V U->Sg->Prop}{tm:V U}{g:EW}{ps:H2 Tmp}{assign body:Code}{gf:FuncId}{fnG:Func}{cG:Code}{lb:V U}(hmk:C.mks=true)(kH:∀ro,C.ro ro->ro=none)
  (hg:cB tm g=some (.fn (.func gf) [] lb)) (hf:T.fn gf=some fnG) (hb:fnG.body=some cG) (mD:fnG.results.toList=[]) (h:∀(l fn:Nat)(tmps:H2 O)(D:Nat),WPU (PG.it C.prog l ⟨.ready,none,fn,tmps,ps,assign,body,D⟩ tm X.nx) X.nx cG (AX fnG.ntmps (.fn (.yield l) [] []::lb)) X (fun e _ X'=>(e=.normal\/e=.ret)/\Q .normal tm X')):
  WPU C n0 (.rangeFunc g ps assign body) tm X Q:=fun hn F x tv m w a b0 hx st hG hd ro hro'=>by
 subst hx;have:=kH ro hro';subst this;refine wpIn_rangeFunc ?_;intro fn _;obtain⟨v,ev,rv⟩:=j6 st.e hg;simp only[aD]at rv;obtain⟨va,vb,rfl,_,ha1,TM,vH⟩:=rv;have P2:va=[]:=List.eq_nil_of_length_eq_zero (by simpa using ha1.symm);subst P2;have e0:=kF (st.act m (aI.refl _ _)) ev;simp only[ren,fF,aE]at e0;obtain⟨uL,A7⟩:=hT.fn gf fnG hf;obtain⟨W1,AI⟩:∃W1,(w.alloc (.deferred (some []))).alloc (.loop { state:=.ready,pending:=none,fn,tmps:=a.tmps,params:=ps,assign,body,defers:=w.heap.size })=W1:=⟨_,rfl⟩;have Ji:=bG.grow st.fits (.deferred (some []));have G1:=bG.grow Ji.fits (.loop { state:=.ready,pending:=none,fn,tmps:=a.tmps,params:=ps,assign,body,defers:=w.heap.size });rw[AI]at G1;have pj:=Ji.trans G1;have hL1:W1.heap[w.heap.size+1]? = some (.loop { state:=.ready,pending:=none,fn,tmps:=a.tmps,params:=ps,assign,body,defers:=w.heap.size }):=by rw[<-AI];have:=World.alloc_heap_new (w.alloc (.deferred (some []))) (.loop { state:=.ready,pending:=none,fn,tmps:=a.tmps,params:=ps,assign,body,defers:=w.heap.size });rwa [World.size_alloc]at this
 have hK1:W1.heap[w.heap.size]? = some (.deferred (some [])):=by rw[<-AI];exact(Go.RowKit.Below.heap_alloc _ _ _ (by simp)).trans (World.alloc_heap_new w _)
 have Ux:fnG.body.isNone=false:=by rw[hb];rfl
 refine⟨w.heap.size+1,[{ target:=.collected w.heap.size,args:=#[] }],W1,{ target:=.fn (.func gf) ⟨aE m vb⟩,args:=#[.func (.yield (w.heap.size+1)) #[] #[]] },W1,gf,
  #[.func (.yield (w.heap.size+1)) #[] #[]]++⟨aE m vb⟩,W1,?_,?_,fun _ _=>trivial,?_,wx,?_⟩
 rw[<-AI];exact run_enterLoop_outer _ _ _ _ _;simp only[resolve,e0];simp[go_sem];simp only[invoke,callFunc,zK,run_program,uL,A7 (by rw[hb];rfl),Ux,Bool.false_eq_true,if_false,zJ];simp[go_sem];refine callsIn_of_wp uL hb trivial ?_ rfl;have hE:bB x (U.fn (.yield (w.heap.size+1)) [] []::lb) (Value.func (.yield (w.heap.size+1)) #[] #[]::vb):=bB.cons (by simp only[aD];exact⟨[],[],rfl,by simp[cO],rfl,by simp[cO],rfl⟩) ⟨TM,vH⟩;have xQ:vX m x.s.nx (pad fnG.ntmps (Value.func (.yield (w.heap.size+1)) #[] #[]::vb)) { tmps:=(#[Value.func (.yield (w.heap.size+1)) #[] #[]]++(⟨aE m vb⟩:H2 O))++Array.replicate (fnG.ntmps-(#[Value.func (.yield (w.heap.size+1)) #[] #[]]++(⟨aE m vb⟩:H2 O)).size) undef,defers:=[] }:=fun m' eF=>by
  have GB:=kF (st.act m' eF) ev;simp only[ren,fF,aE]at GB;rw[e0]at GB;have hvv:aE m vb=aE m' vb:=by simpa using GB
  simp only[Mk,x3,aE,ren,hvv];apply Array.ext';simp[kE,ren,undef,wW]
 have hit:ItG (w.heap.size+1) { state:=.ready,pending:=none,fn,tmps:=a.tmps,params:=ps,assign,body,defers:=w.heap.size } tm x.X.nx x m W1:=⟨hL1,hK1,st.e.bel,tv,st.e,st.act⟩;apply wpIn_mono (h (w.heap.size+1) fn a.tmps w.heap.size (zF _) F x _ m W1 _ 0 rfl ⟨st.h,st.fr,XS _ hE,pj.fits,xQ⟩ ⟨zF _,hit⟩ ⟨fun _=>rfl,fun h=>by cases h⟩ none rfl);rintro e a' w' ⟨y,tm',d8,m',⟨uM,hQ⟩,cD,adv,ke,uJ,dr⟩;have j7:a'.defers=[]:=dr.eq rfl;have BK:=RR pj.fits adv hL1 (by simp) (by simp);have vF:=RR pj.fits adv hK1 (by simp) (by simp);have tO:EN T d8 y.s fnG.results.toList=some []:=by rw[mD];rfl
 have hrr:=Om hT (cD.fits m' (aI.refl _ _)) tO;rw[<-cD.act m' (aI.refl _ _)]at hrr;have hA:bG m x.s w m' y.s (w'.putObj (w.heap.size+1) (.loop { state:=.exhausted,pending:=none,fn,tmps:=a.tmps,params:=ps,assign,body,defers:=w.heap.size })):=bG.put_new (pj.trans adv) (by omega) BK (xm _);have wD:rangePost (nO none) 0 C.prog (w.heap.size+1) (Ki C n0 F x m w a.defers b0 Q) { a with defers:=[{ target:=.collected w.heap.size,args:=#[] }]++a.defers } (.returned (ren m' (sC []))) w':=by refine⟨none,_,run_endLoop BK (by simp),y,tm,tv,m',hQ,⟨cD.h,cD.fr,ke.E st.e.bel st.e,hA.fits,st.act.ext hA.agree hA.nx⟩,hA,ke.le hn,by omega,⟨fun hk=>(by rw[hmk]at hk;cases hk),fun _=>?_⟩⟩;have⟨d0,bs,d1,d2,d3⟩:=hd.ok hmk;refine⟨Nat.le_trans d0 hA.size,w.heap.size::bs,List.nodup_cons.2 ⟨fun hm=>?_,d1⟩,by rw[d2];rfl,fun b hb=>?_⟩;have:=(Array.getElem?_eq_some_iff.1 (d3 _ hm).2).1;omega;rcases zI.1 hb with rfl |hb;exact⟨d0,by rw[World.putObj_heap_other (by omega)];exact vF⟩;exact⟨(d3 b hb).1,RR st.fits hA (d3 b hb).2 (by simp) (by simp)⟩
 have xN:bodyPost C.prog fnG (rangePost (nO none) 0 C.prog (w.heap.size+1) (Ki C n0 F x m w a.defers b0 Q) { a with defers:=[{ target:=.collected w.heap.size,args:=#[] }]++a.defers }) .ret a' w':=⟨j7,_,hrr,wD⟩;rcases uM with rfl |rfl;exact xN;exact xN
def qw9{P:H0}{fn:Func}{tmps:H2 O}{R:Ending->PL->Prop}{b0:Nat}{m:Nm}{s:S}{w0:PL}{m':Nm}{s':S}(Wh:w0.heap.size<=b0)(xN:∀w',bG m s w0 m' s' w'->∃v,(results fn tmps).run P w'=.ok v w'/\R (.returned v) w'):
  ∀(bs:V Nat)(w':PL),bs.Nodup->(∀b∈bs,b0<=b/\w'.heap[b]? = some (.deferred (some [])))->bG m s w0 m' s' w'->LeavesInM Fence.wide 0 P fn tmps R (bs.map fun b=>{ target:=.collected b,args:=#[] }) .returning w'
 |[],w',_,_,h=>xN w' h|b::bs,w',E9,hb,h=>by rw[List.nodup_cons]at E9;have h1:=hb b (by simp);refine⟨by simp,.inl ⟨b,_,rfl,run_takeDeferred h1.2,?_⟩⟩;refine qw9 Wh xN bs _ E9.2 (fun c hc=>⟨(hb c (by simp[hc])).1,?_⟩) (bG.put_new h (by omega) h1.2 ⟨by simp,by simp⟩);rw[World.putObj_heap_other (fun e=>E9.1 (by rw[<-e];exact hc))];exact(hb c (by simp[hc])).2
def b7.of_bodyM{P:H0}{T:Tb}(hT:kT P T){f:FuncId}{fn:Func}{c:Code}{args:V U}{R:U->Sg->Prop}(hf:T.fn f=some fn)(hb:fn.body=some c)
  (h:WPU (PG.top P) X.nx c (AX fn.ntmps args) X fun e tm' X'=>(e=.normal\/e=.ret)/\∃l,oE T X' tm' fn.results.toList=some l/\∃u' bT,X.nx<=bT.nx/\Gh X.nx [nM l] X' [u'] bT/\R u' bT):b7 P f args X R:=fun F x vs m w cargs hx hh k9 he dR bW=>by
 have⟨uL,_⟩:=hT.fn f fn hf;have eZ:cargs.length=vs.length:=by rw[<-bW.at];simp
 refine(callsIn_wide (n:=0)).1 (callsIn_of_wp_marks uL hb trivial ?_ rfl);have xQ:vX m x.s.nx (pad fn.ntmps vs) { tmps:=cargs.toArray++Array.replicate (fn.ntmps-cargs.toArray.size) undef,defers:=[] }:=fun m' eF=>by simp only[Mk,x3,bW m' eF,eZ,List.size_toArray];apply Array.ext';simp[kE,ren,undef]
 apply wpIn_mono (h (zF _) F x _ m w _ w.heap.size hx ⟨hh,k9,XS _ he,dR,xQ⟩ ⟨Nat.zero_le _,trivial⟩ ⟨fun _=>rfl,fun _=>⟨zF _,[],List.nodup_nil,rfl,fun b hb=>by cases hb⟩⟩ none rfl);rintro e a' w' ⟨y,tm',d8,m',⟨uM,l,mD,u',bT,lL,KD,hR⟩,cD,aS,eC,hn,j7⟩;have⟨ls,tO,wC⟩:=Fm cD.h cD.e mD;have⟨z,z1,z2,z3,z4,z5,z6⟩:=KD F y [sC ls] rfl cD.h cD.fr (bB.cons (v00 wC) (bB.nil y));have⟨v0,VV,e0,z7,_⟩:=z5.inv;cases e0;have⟨_,bs,d1,d2,d3⟩:=j7.ok rfl;have xN:∀w2,bG m x.s w m' y.s w2->∃v,(results fn a'.tmps).run P w2=.ok v w2/\∃y aK u v0 cv,(Ending.returned v)=.returned cv/\R u y.X/\bG m x.s w aK y.s w2/\eT aK y.s.nx v0 cv/\jY y/\Fr F y/\aD y u v0/\Ke x.X.nx x y/\x.X.nx<=y.X.nx:=fun w2 hA=>by
  have cR:∀m'',aI y.s.nx m' m''->(results fn a'.tmps).run P w2=.ok (ren m'' (sC ls)) w2:=fun m'' jB=>by rw[cD.act m'' jB];exact Om hT (hA.fits m'' jB) tO
  have fU:eT m' y.s.nx (sC ls) (ren m' (sC ls)):=fun m'' jB=>by have e1:=cR m'' jB;rw[cR m' (aI.refl _ _)]at e1;simp at e1;exact e1.symm
  have cW:=z1 m' w2 hA.fits;exact⟨_,cR m' (aI.refl _ _),z,m',u',sC ls,_,rfl,z2 ▸ hR,hA.trans cW,fU.ext (aI.refl _ _) cW.nx,z3,z4,z7,hx ▸ eC.trans z6,by rw[hx,z2];exact lL⟩
 have hl:=qw9 (P:=P) (fn:=fn) (tmps:=a'.tmps) (R:=fun e w₁=>∃y aK u v cv,e=.returned cv/\R u y.X/\bG m x.s w aK y.s w₁/\eT aK y.s.nx v cv/\jY y/\Fr F y/\aD y u v/\Ke x.X.nx x y/\x.X.nx<=y.X.nx) (zF _) xN bs w' d1 d3 aS;rw[<-d2]at hl;rcases uM with rfl |rfl;exact hl;exact hl
def b7.viewT{P:H0}{f:FuncId}{args args':V U}{X:Sg}{us:V U}{rs:V O}(h:b7 P f args ⟨[],0⟩ (fun u' _=>u'=.tup us/\bA 0 u'))(ha:aM 0 args)(hu:eG us=some rs)(CM:∀m,aE m rs=rs){X1:Sg}(hg:Gh 0 args' X args X1):b7 P f args' X (fun u' X'=>u'=.tup us/\X'=X):=fun F x vs m w cargs hx hh k9 he dR bW=>by
 have⟨y1,a1,a2,a3,a4,a5,a6⟩:=hg F x vs hx hh k9 he;have fP:=a1 m w dR;have cW:=bG.less fP.fits (iv y1.s);have gI:Mo 0 y1 (cx (vY y1.s)):=⟨fun k hk=>by omega,fun i row e hl=>by show lk (vY y1.s).h i=_;rw[FF,hl];rfl⟩;have fD:∀b,¬ N7 m (vY y1.s) b:=fun b ⟨i,c,hc,ho,_⟩=>by rw[FF]at hc;obtain⟨_,l,e,rfl⟩:=MJ hc;simp[Rx.Own]at ho
 refine(h (fun _ _=>False) (cx (vY y1.s)) vs m w cargs rfl ⟨fun k b hb=>by simp[cx,gt]at hb,fun k k' b b' i hb=>by simp[cx,gt]at hb,fun i b hb=>?_⟩ (fun _ _ J=>J.elim) (gI.ke.E ha a5) cW.fits (bW.ext (aI.refl _ _) (Nat.le_trans fP.nx cW.nx))).mono ?_;have cP:lk (vY y1.s).h i=some b:=hb;rw[FF]at cP;exact a3.bd i b (MJ cP).1;rintro e mO ⟨y2,C7,u',v',cv,rfl,⟨rfl,_⟩,aS,fU,_,_,xG,_,_⟩;simp[aD]at xG;obtain⟨IB,rfl,hv1,hv2⟩:=xG;have hv:=(DW us rs hu y2 IB).1 ⟨hv1,hv2⟩;subst hv;have Vw:cv=.tuple ⟨IB⟩:=by rw[<-fU.at];simp[ren,fF,CM]
 subst Vw;have qL:∀b,b<w.heap.size->mO.heap[b]? = w.heap[b]?:=fun b aF=>aS.same b aF (fD b);refine⟨x,m,.tup us,.tuple ⟨IB⟩,.tuple ⟨IB⟩,rfl,⟨rfl,hx⟩,⟨aI.refl _ _,zF _,fun m' eF=>?_,fun b h=>.inl h,fun b aF _=>qL b aF,aS.size,aS.os,aS.tape,aS.output⟩,fun m' _=>by simp only[ren,fF,CM],hh,k9,by simp only[aD];exact⟨IB,rfl,((DW us IB hu x IB).2 rfl).1,((DW us IB hu x IB).2 rfl).2⟩,Ke.refl _ _,zF _⟩;have uK:=dR m' eF;exact⟨fun i b hb=>(uK.ok i b hb).world (qL _ (uK.size hb)),uK.inj,uK.bd⟩
class gC{v11:Type}(c:v11->V U)(n:outParam Nat):Prop where
 h:∀x,(c x).length=n
instance(k:IntKind):gC (cI k) 1:=⟨m9 k⟩
instance:gC cS 1:=⟨NW⟩
instance{v11:Type}(c:v11->V U):gC (cL c) 1:=⟨RL c⟩
abbrev U.iM{v11:Type}(c:v11->V U)(l:V v11):U:=.isl false (l.map c)
abbrev U.i6(z:Int):U:=.int .i64 z
variable{P:H0}
variable{f:FuncId}
variable{args:V U}
variable{u:U}
def pC(h:b7 P f args ⟨[],0⟩ (fun u' _=>u'=u/\bA 0 u'))[q:eQ 0 args](X:Sg):b7 P f args X (fun u' X'=>u'=u/\X'=X):=Ec h X
def sI{v11:Type}{a b:v11}(h:some a=some b):a=b:=Option.some.inj h
class Nq(a b:Nat):Prop where
 h:Nat.beq a b=false
instance{b:Nat}:Nq 0 (b+1):=⟨rfl⟩
instance{b:Nat}:Nq (b+1) 0:=⟨rfl⟩
instance{a b:Nat}[q:Nq a b]:Nq (a+1) (b+1):=⟨q.h⟩
class D4(h:V (Nat×B))(K:Nat)(b:outParam B):Prop where
 h:gt h K=some b
instance(priority:=low){K k:Nat}{x b:B}{t:V (Nat×B)}[n:Nq k K][g:D4 t K b]:D4 ((k,x)::t) K b:=⟨by simp[gt,n.h,zD,g.h]⟩
instance{K:Nat}{b:B}{t:V (Nat×B)}:D4 ((K,b)::t) K b:=⟨by simp[gt]⟩
class Zw(b:B):Prop where
 h:∀es cl,b≠.map es cl
instance{l:V U}{e:TypeId}:Zw (.row l e):=⟨fun _ _=>nofun⟩
instance{l:V U}{e:TypeId}{s t:Nat}:Zw (.vec l e s t):=⟨fun _ _=>nofun⟩
class Ck(n sz:Nat)(l:V U)(r:outParam (V (V U))):Prop where
 h:n*sz<=l.length
 e:cE sz n l=r
instance{s:Nat}{l:V U}:Ck 0 s l []:=⟨by omega,by simp[cE]⟩
instance{n:Nat}{a:U}{l:V U}{r:V (V U)}[q:Ck n 1 l r]:Ck (n+1) 1 (a::l) ([a]::r):=⟨by have:=q.h;simp;omega,by have:=q.e;simp[cE,this]⟩
instance{n:Nat}{a b:U}{l:V U}{r:V (V U)}[q:Ck n 2 l r]:Ck (n+1) 2 (a::b::l) ([a,b]::r):=⟨by have:=q.h;simp;omega,by have:=q.e;simp[cE,this]⟩
instance{n:Nat}{a b c:U}{l:V U}{r:V (V U)}[q:Ck n 3 l r]:Ck (n+1) 3 (a::b::c::l) ([a,b,c]::r):=⟨by have:=q.h;simp;omega,by have:=q.e;simp[cE,this]⟩
instance(priority:=low){v11:Type}{c:v11->V U}{x:v11}{sz:Nat}[q:gC c sz]:Ck 1 sz (c x) [c x]:=⟨by have:=q.h x;omega,by have:=q.h x;simp[cE,<-this]⟩
class vO(K:Nat)(b:B)(sz:Nat)(u:U)(u':outParam U):Prop where
 h:fz K b sz u=u'
class LL(K:Nat)(b:B)(sz:Nat)(l:V U)(l':outParam (V U)):Prop where
 h:jW K b sz l=l'
section
variable{K:Nat}{b:B}{sz:Nat}
instance(priority:=low){l:V U}[q:eQ K l]:LL K b sz l l:=⟨oH b sz l q.h⟩
instance:LL K b sz [] []:=⟨v6 K b sz⟩
instance{u u':U}{l l':V U}[a:vO K b sz u u'][q:LL K b sz l l']:LL K b sz (u::l) (u'::l'):=⟨by rw[sG,a.h,q.h]⟩
instance{k:IntKind}{z:Int}:vO K b sz (.int k z) (.int k z):=⟨C4 K b sz k z⟩
instance{x:D1}:vO K b sz (.bool x) (.bool x):=⟨FE K b sz x⟩
instance{x:V Xv}:vO K b sz (.str x) (.str x):=⟨F7 K b sz x⟩
instance:vO K b sz .nils .nils:=⟨DV K b sz⟩
instance{t:D1}{l:V (V U)}:vO K b sz (.isl t l) (.isl t l):=⟨F8 K b sz t l⟩
instance{l l':V U}[q:LL K b sz l l']:vO K b sz (.agg l) (.agg l'):=⟨by rw[DS,q.h]⟩
instance{l l':V U}[q:LL K b sz l l']:vO K b sz (.tup l) (.tup l'):=⟨by rw[F6,q.h]⟩
instance{f:Fn}{a a' c c':V U}[q:LL K b sz a a'][r:LL K b sz c c']:vO K b sz (.fn f a c) (.fn f a' c'):=⟨by rw[DO,q.h,r.h]⟩
instance{k st off n:Nat}[q:Nq k K]:vO K b sz (.vl k st off n) (.vl k st off n):=⟨OF q.h b sz st off n⟩
instance{k off n c:Nat}[q:Nq k K]:vO K b sz (.sl k off n c) (.sl k off n c):=⟨YJ q.h b sz off n c⟩
instance{k st off:Nat}[q:Nq k K]:vO K b sz (.ptr k st off) (.ptr k st off):=⟨YK q.h b sz st off⟩
end
instance{v11:Type}{c:v11->V U}{sz s K st:Nat}{l:V v11}{e:TypeId}[q:gC c sz]:vO K (.vec (l.map c).flatten e sz st) s (.vl K st 0 l.length) (.isl false (l.map c)):=⟨R9 q.h l K s e st⟩
instance{K sz n:Nat}{l:V U}{e:TypeId}{r:V (V U)}[q:Ck n sz l r]:vO K (.row l e) sz (.sl K 0 n n) (.isl false r):=⟨by rw[U9 K l e sz n q.h,q.e]⟩
instance{K sz:Nat}{l:V U}{e:TypeId}:vO K (.row l e) sz (.ptr K 0 0) (.iptr l):=⟨Xf K l e sz⟩
instance{K sz:Nat}{b:B}{u u':U}[q:vO K b sz u u']:vO K b sz (nM [u]) u':=⟨q.h⟩
instance{K sz:Nat}{b:B}{u v u':U}{l:V U}[q:vO K b sz (.tup (u::v::l)) u']:vO K b sz (nM (u::v::l)) u':=⟨q.h⟩
class FzB(K:Nat)(b:B)(sz:Nat)(x:B)(x':outParam B):Prop where
 h:fzB K b sz x=x'
instance{K sz:Nat}{b:B}{l l':V U}{e:TypeId}[q:LL K b sz l l']:FzB K b sz (.row l e) (.row l' e):=⟨by rw[fzB,q.h]⟩
instance{K sz:Nat}{b:B}{l l':V U}{e:TypeId}{s st:Nat}[q:LL K b sz l l']:FzB K b sz (.vec l e s st) (.vec l' e s st):=⟨by rw[fzB,q.h]⟩
class VJ(K:Nat)(b:B)(sz:Nat)(h:V (Nat×B))(h':outParam (V (Nat×B))):Prop where
 h:fzH K b sz h=h'
section
variable{K:Nat}{b:B}{sz:Nat}
instance:VJ K b sz [] []:=⟨rfl⟩
instance(priority:=low){k:Nat}{c c':B}{h h':V (Nat×B)}[n:Nq k K][p:FzB K b sz c c'][q:VJ K b sz h h']:VJ K b sz ((k,c)::h) ((k,c')::h'):=⟨by simp[fzH,n.h,zD,p.h,q.h]⟩
instance{c:B}{h h':V (Nat×B)}[q:VJ K b sz h h']:VJ K b sz ((K,c)::h) h':=⟨by simp[fzH,q.h]⟩
end
class ba(K:Nat)(b:B)(sz:Nat)(l:V (Nat×U))(l':outParam (V (Nat×U))):Prop where
 h:fzS K b sz l=l'
instance{K:Nat}{b:B}{sz:Nat}:ba K b sz [] []:=⟨rfl⟩
instance{K:Nat}{b:B}{sz i:Nat}{u u':U}{l l':V (Nat×U)}[a:vO K b sz u u'][q:ba K b sz l l']:ba K b sz ((i,u)::l) ((i,u')::l'):=⟨by rw[fzS,a.h,q.h]⟩
variable{n0:Nat}
variable{nx:Nat}
variable{h:V (Nat×B)}
variable{h':V (Nat×B)}
variable{b:B}
def lQ{tm tm':V U}(K sz:Nat)[g:D4 h K b][m:Zw b][t:LL K b sz tm tm'][q:VJ K b sz h h']:Gh n0 tm ⟨h,nx⟩ tm' ⟨h',nx⟩:=Gh.fz K b sz g.h m.h t.h q.h
variable{n:Nat}
variable{l:V (Nat×U)}
variable{l':V (Nat×U)}
def HW(K sz:Nat)[g:D4 h K b][m:Zw b][t:ba K b sz l l'][q:VJ K b sz h h']:Gh n0 (fr n l) ⟨h,nx⟩ (fr n l') ⟨h',nx⟩:=Gh.fzS K b sz g.h m.h t.h q.h
class Dv(h:V (Nat×B))(K:Nat)(b:B)(h':outParam (V (Nat×B))):Prop where
 h:ug h K b=h'
instance{K:Nat}{x b:B}{t:V (Nat×B)}:Dv ((K,x)::t) K b ((K,b)::t):=⟨by simp[ug]⟩
instance(priority:=low){K k:Nat}{x b:B}{t t':V (Nat×B)}[n:Nq k K][g:Dv t K b t']:Dv ((k,x)::t) K b ((k,x)::t'):=⟨by simp[ug,n.h,zD,g.h]⟩
class VF(l:V U)(l':outParam (V U)):Prop where
 h:rP l l'
instance:VF [] []:=⟨.nil⟩
instance(priority:=low){u:U}{l l':V U}[q:VF l l']:VF (u::l) (u::l'):=⟨.cons (.refl _) q.h⟩
instance{l l':V U}[q:VF l l']:VF (.nils::l) (.isl false []::l'):=⟨.cons (.nil false) q.h⟩
def Gh.rowC{tm:V U}{q q':V U}{e:TypeId}(K:Nat)[g:D4 h K (.row q e)][w:VF q q'][u:Dv h K (.row q' e) h'](hk:okL q'=true:=by exact rfl):Gh n0 tm ⟨h,nx⟩ tm ⟨h',nx⟩:=by have:=Gh.rowW (n0:=n0) (tm:=tm) (X:=⟨h,nx⟩) g.h hk w.h;simp[u.h]at this;exact this
def NZ:0<=n:=Nat.zero_le n
def NL{a b:Nat}(h:Nat.ble a b=true:=by exact rfl):a<=b:=zY h
def sB{a b:Nat}(h:Nat.ble a b=true):a<=b:=zY h
variable{T:Tb}
variable{fn:Func}
variable{k:Code}
variable{X:Sg}
variable{R:U->Sg->Prop}
def bg0[t:TbP P T](n:Nat)(hf:T.fn f=some fn)(h:WPU (PG.of P) X.nx k (fr n []) X fun e tm' X'=>(e=.normal\/e=.ret)/\∃l,oE T X' tm' fn.results.toList=some l/\∃u' bT,X.nx<=bT.nx/\Gh X.nx [nM l] X' [u'] bT/\R u' bT)(hn:fn.ntmps=n:=by exact rfl)(hb:fn.body=some k:=by exact rfl)(hk:Nat.ble 0 n=true:=by exact rfl):b7 P f [] X R:=Ed t.ok hf hb (c9 (by rw[hn];exact HY (sB hk)) (zF _) h)
def jO[t:TbP P T]{a:U}(n:Nat)(hf:T.fn f=some fn)(h:WPU (PG.of P) X.nx k (fr n [(0,a)]) X fun e tm' X'=>(e=.normal\/e=.ret)/\∃l,oE T X' tm' fn.results.toList=some l/\∃u' bT,X.nx<=bT.nx/\Gh X.nx [nM l] X' [u'] bT/\R u' bT)(hn:fn.ntmps=n:=by exact rfl)(hb:fn.body=some k:=by exact rfl)(hk:Nat.ble 1 n=true:=by exact rfl):b7 P f [a] X R:=Ed t.ok hf hb (c9 (by rw[hn];exact HY (sB hk)) (zF _) h)
def fQ[t:TbP P T]{a b:U}(n:Nat)(hf:T.fn f=some fn)(h:WPU (PG.of P) X.nx k (fr n [(0,a),(1,b)]) X fun e tm' X'=>(e=.normal\/e=.ret)/\∃l,oE T X' tm' fn.results.toList=some l/\∃u' bT,X.nx<=bT.nx/\Gh X.nx [nM l] X' [u'] bT/\R u' bT)(hn:fn.ntmps=n:=by exact rfl)(hb:fn.body=some k:=by exact rfl)(hk:Nat.ble 2 n=true:=by exact rfl):b7 P f [a,b] X R:=Ed t.ok hf hb (c9 (by rw[hn];exact HY (sB hk)) (zF _) h)
variable{c:U}
def D2[t:TbP P T]{a b:U}(n:Nat)(hf:T.fn f=some fn)(h:WPU (PG.of P) X.nx k (fr n [(0,a),(1,b),(2,c)]) X fun e tm' X'=>(e=.normal\/e=.ret)/\∃l,oE T X' tm' fn.results.toList=some l/\∃u' bT,X.nx<=bT.nx/\Gh X.nx [nM l] X' [u'] bT/\R u' bT)(hn:fn.ntmps=n:=by exact rfl)(hb:fn.body=some k:=by exact rfl)(hk:Nat.ble 3 n=true:=by exact rfl):b7 P f [a,b,c] X R:=Ed t.ok hf hb (c9 (by rw[hn];exact HY (sB hk)) (zF _) h)
def gk[t:TbP P T]{a b d:U}(n:Nat)(hf:T.fn f=some fn)(h:WPU (PG.of P) X.nx k (fr n [(0,a),(1,b),(2,c),(3,d)]) X fun e tm' X'=>(e=.normal\/e=.ret)/\∃l,oE T X' tm' fn.results.toList=some l/\∃u' bT,X.nx<=bT.nx/\Gh X.nx [nM l] X' [u'] bT/\R u' bT)(hn:fn.ntmps=n:=by exact rfl)(hb:fn.body=some k:=by exact rfl)(hk:Nat.ble 4 n=true:=by exact rfl):b7 P f [a,b,c,d] X R:=Ed t.ok hf hb (c9 (by rw[hn];exact HY (sB hk)) (zF _) h)
def bg5[t:TbP P T]{a b d e:U}(n:Nat)(hf:T.fn f=some fn)(h:WPU (PG.of P) X.nx k (fr n [(0,a),(1,b),(2,c),(3,d),(4,e)]) X fun e tm' X'=>(e=.normal\/e=.ret)/\∃l,oE T X' tm' fn.results.toList=some l/\∃u' bT,X.nx<=bT.nx/\Gh X.nx [nM l] X' [u'] bT/\R u' bT)(hn:fn.ntmps=n:=by exact rfl)(hb:fn.body=some k:=by exact rfl)(hk:Nat.ble 5 n=true:=by exact rfl):b7 P f [a,b,c,d,e] X R:=Ed t.ok hf hb (c9 (by rw[hn];exact HY (sB hk)) (zF _) h)
class N3(u u':U):Prop where
 h:Wk u u'
class Zu(l l':V U):Prop where
 h:rP l l'
instance(priority:=low){u:U}:N3 u u:=⟨.refl u⟩
instance:N3 .nils (.isl false []):=⟨.nil false⟩
instance{l l':V U}[q:Zu l l']:N3 (.agg l) (.agg l'):=⟨.agg q.h⟩
instance{l l':V U}[q:Zu l l']:N3 (.tup l) (.tup l'):=⟨.tup q.h⟩
instance{u u':U}[q:N3 u u']:N3 (nM [u]) u':=⟨q.h⟩
instance{u v u':U}{l:V U}[q:N3 (.tup (u::v::l)) u']:N3 (nM (u::v::l)) u':=⟨q.h⟩
instance:Zu [] []:=⟨.nil⟩
instance{u u':U}{l l':V U}[a:N3 u u'][q:Zu l l']:Zu (u::l) (u'::l'):=⟨.cons a.h q.h⟩
def lC{v08:Nat->V U->Sg->Prop}{m n1:Nat}(hI:v08 m (fr n l') ⟨h',n1⟩)(ht:D9 l l':=by((repeat refine⟨rfl,?_⟩);exact trivial))(hs:Vx.cut n1 h=h':=by exact rfl)(h1:n0<=n1:=by first |exact Nat.zero_le _ |exact zY rfl)(h2:n1<=nx:=by exact zY rfl)[hb:BS n1 l'][hh:BH n1 h']:∃n' tm' X',n'<m+1/\v08 n' tm' X'/\n0<=X'.nx/\Gh n0 (fr n l) ⟨h,nx⟩ tm' X':=⟨m,_,_,zN _,hI,h1,Gh.toC ht hs h1 h2⟩
def xC{E:V U->Sg->Prop}{n1:Nat}(hE:E (fr n l') ⟨h',n1⟩)(ht:D9 l l':=by((repeat refine⟨rfl,?_⟩);exact trivial))(hs:Vx.cut n1 h=h':=by exact rfl)(h1:n0<=n1:=by first |exact Nat.zero_le _ |exact zY rfl)(h2:n1<=nx:=by exact zY rfl)[hb:BS n1 l'][hh:BH n1 h']:∃tm' X',E tm' X'/\n0<=X'.nx/\Gh n0 (fr n l) ⟨h,nx⟩ tm' X':=⟨_,_,hE,h1,Gh.toC ht hs h1 h2⟩
section
variable{T:Tb}{n:Nat}{l:V (Nat×U)}{X:Sg}{rs:V ResultVar}
def rT{us:V U}(hr:oE T X (fr n l) rs=some us)(hg:Gh 0 [nM us] X [u] ⟨[],0⟩)[q:BU 0 u]:(Exit.ret=.normal\/Exit.ret=.ret)/\∃l',oE T X (fr n l) rs=some l'/\∃u' bT,(⟨[],0⟩:Sg).nx<=bT.nx/\Gh (⟨[],0⟩:Sg).nx [nM l'] X [u'] bT/\u'=u/\bA 0 u':=⟨.inr rfl,us,hr,u,⟨[],0⟩,zF _,hg,rfl,q.h⟩
def rt1{a:Tmp}{t:V ResultVar}{v:U}(ht:rs=.tmp a::t)(h:bZ n l (.tmp a)=some v)(h0:t=[])(hu:v=u)[q:BU 0 u]:(Exit.ret=.normal\/Exit.ret=.ret)/\∃l',oE T X (fr n l) rs=some l'/\∃u' bT,(⟨[],0⟩:Sg).nx<=bT.nx/\Gh (⟨[],0⟩:Sg).nx [nM l'] X [u'] bT/\u'=u/\bA 0 u':=by subst ht;subst h0;subst hu;exact rT (dS h d9) (pU _ rfl)
def yI{a b:Tmp}{t:V ResultVar}{v w:U}(ht:rs=.tmp a :: .tmp b::t)(h:bZ n l (.tmp a)=some v)(h':bZ n l (.tmp b)=some w)(h0:t=[])(hu : .tup [v,w]=u)[q:BU 0 u]:(Exit.ret=.normal\/Exit.ret=.ret)/\∃l',oE T X (fr n l) rs=some l'/\∃u' bT,(⟨[],0⟩:Sg).nx<=bT.nx/\Gh (⟨[],0⟩:Sg).nx [nM l'] X [u'] bT/\u'=u/\bA 0 u':=by subst ht;subst h0;subst hu;exact rT (dS h (dS h' d9)) (pU _ rfl)
end
def fR{u0:U}(K sz:Nat)[g:D4 h K b][m:Zw b][t:vO K b sz u0 u][q:VJ K b sz h h'][p:BU 0 u]:Gh 0 [u0] ⟨h,nx⟩ [u] ⟨[],0⟩:=Gh.trans (lQ K sz) (pU u rfl)
def wR{u0:U}[w:N3 u0 u][p:BU 0 u]:Gh 0 [u0] X [u] ⟨[],0⟩:=Gh.trans (Gh.wk (.cons w.h .nil)) (pU u rfl)
section
variable{C:PG}{n0 n:Nat}{Q:Exit->V U->Sg->Prop}{l:V (Nat×U)}{X:Sg}
def cF{I:Type}{c:EW}{p q:Code}{t:D1}{a b r:M I}(J:cond t a b=r)(h1:t=true->a=r->WPU C n0 p (fr n l) X Q)(h2:t=false->b=r->WPU C n0 q (fr n l) X Q)(hc:bZ n l c=some (.bool t):=by exact rfl):WPU C n0 (.cond c p q) (fr n l) X Q:=wK hc (fun h=>h1 h (Cy h J)) (fun h=>h2 h (Cz h J))
def gS{c:Code}(hw:WPU C n0 c (fr n l') X Q)(hn:n0<=X.nx:=by first |exact Nat.zero_le _ |exact zY rfl)(ht:D9 l l':=by((repeat refine⟨rfl,?_⟩);exact trivial)):WPU C n0 c (fr n l) X Q:=c9 (Gh.sub ht) hn hw
end
class LJ(op:BinOp)(k:IntKind)(a:Int)(k':IntKind)(b:Int)(r:outParam O):Prop where
 h:kS op k a k' b=some r
section
variable{k:IntKind}{a b:Int}
instance:LJ .add k a k b (.int k (k.wrap (a+b))):=⟨zd k a b⟩
instance:LJ .sub k a k b (.int k (k.wrap (a-b))):=⟨zbp k a b⟩
instance:LJ .mul k a k b (.int k (k.wrap (a*b))):=⟨ZP k a b⟩
instance:LJ .eql k a k b (.bool (a==b)):=⟨bz k a b⟩
instance:LJ .neq k a k b (.bool (a != b)):=⟨ZO k a b⟩
instance:LJ .lss k a k b (.bool (decide (a<b))):=⟨ZQ k a b⟩
instance:LJ .leq k a k b (.bool (decide (a<=b))):=⟨ZR k a b⟩
instance:LJ .gtr k a k b (.bool (decide (a>b))):=⟨ZS k a b⟩
instance:LJ .geq k a k b (.bool (decide (a>=b))):=⟨ZT k a b⟩
end
class fM(T:Tb)(t:TypeId)(d:outParam TypeDesc):Prop where
 h:T.und t=some d
class SzC(T:Tb)(t:TypeId)(n:outParam Nat):Prop where
 h:cT T t=some n
section
variable{P:H0}{T:Tb}{aB r:V Oper}{o:Oper}{n:Nat}{l:V (Nat×U)}{X X':Sg}{u:U}
variable{d:Tmp}
def wT{j:Nat}{b:D1}(hg:o.guard=some (j,true))(hj:C3 aB j=some d)(hl:bZ n l (.tmp d)=some (.bool b))(hb:b=true):cX aB (fr n l) o=some true:=yP hg hj hl hb
def wF{j:Nat}{b:D1}(hg:o.guard=some (j,false))(hj:C3 aB j=some d)(hl:bZ n l (.tmp d)=some (.bool b))(hb:b=false):cX aB (fr n l) o=some true:=yP hg hj hl hb
def wA{A:Prop}(h:A:=by first |exact rfl |exact Go.Vx.wT rfl rfl rfl (by first |with_reducible_and_instances assumption |exact rfl)|exact Go.Vx.wF rfl rfl rfl (by first |with_reducible_and_instances assumption |exact rfl)):A:=h
variable{C:PG}
variable{K:V U->Sg->Prop}
def RS.wq(he:o.dst=some d)(h:bO T X (fr n l) o.op=some (u,X'))(hk:RU C T aB r (fr n ((d,u)::l)) X' K)(hw:cX aB (fr n l) o=some true:=by exact Go.Vx.wA)(hd:Nat.blt d n=true:=by exact rfl):RU C T aB (o::r) (fr n l) X K:=RS.op hw h he hd hk
def RD.wq{bD:V RK}{K:V RK->V U->Sg->Prop}(he:o.dst=some d)(h:bO T X (fr n l) o.op=some (u,X))(hk:RH P T aB r (fr n ((d,u)::l)) X ((1,⟨fr n l,o,u,false,false,X,X⟩)::bD) K)(hw:cX aB (fr n l) o=some true:=by exact Go.Vx.wA)(hd:Nat.blt d n=true:=by exact rfl):RH P T aB (o::r) (fr n l) X bD K:=RD.look hw h he hd hk
def Kf(n:Nat)(l:V (Nat×U))(o:Oper):M (Tmp×FuncId×V U):=match o.dst,o.op with
 |some d,.call c=>match c.callee with
  |.value f=>match bZ n l f with
   |some (.fn (.func g) [] [])=>match I3 n l c.args.toList with
    |some a7=>some (d,g,a7)|none=>none
   |_=>none
  |_=>none
 |_,_=>none
def Ge{g:FuncId}{a7:V U}(h:Kf n l o=some (d,g,a7))(hg:T.fn g=some fn)(hb:fn.body.isSome=true):o.dst=some d/\kN T (fr n l) o.op=some (g,a7):=by
 unfold Kf at h;split at h
 ·next d' c h1 h2=>
  split at h
  ·next f h3=>
   split at h
   ·next g' h4=>
    split at h
    ·next as' h5=>simp[zA,zB]at h;have⟨rfl,rfl,rfl⟩:=h;exact⟨h1,by rw[h2];exact fH h3 h4 hg hb h5 (by simp)⟩
    cases h
   cases h
  cases h
 cases h
def aR(h:Kf n l o=some (d,f,args))(lN:b7 C.prog f args X (fun u' X'=>u'=u/\X'=X))(hg:T.fn f=some fn)(hk:RU C T aB r (fr n ((d,u)::l)) X K)(hb:fn.body.isSome=true:=by exact rfl)(hw:cX aB (fr n l) o=some true:=by exact Go.Vx.wA)(hd:Nat.blt d n=true:=by exact rfl):RU C T aB (o::r) (fr n l) X K:=RS.call hw (Ge h hg hb).2 lN (Ge h hg hb).1 hd hk
def GH{args':V U}{X1:Sg}(h:Kf n l o=some (d,f,args))(hG:Gh X.nx args X args' X1)(lN:b7 C.prog f args' X1 (fun u' X'=>u'=u/\X'=X1))(hg:T.fn f=some fn)(hk:RU C T aB r (fr n ((d,u)::l)) X1 K)(hn:X.nx<=X1.nx:=by exact zY rfl)(hb:fn.body.isSome=true:=by exact rfl)(hw:cX aB (fr n l) o=some true:=by exact Go.Vx.wA)(hd:Nat.blt d n=true:=by exact rfl):RU C T aB (o::r) (fr n l) X K:=RS.fcall hw (Ge h hg hb).2 hG hn lN (Ge h hg hb).1 hd hk
def fC{bD:V RK}{K:V RK->V U->Sg->Prop}(h:Kf n l o=some (d,f,args))(lN:∀s,b7 P f args s (fun u' X'=>u'=u/\X'=s))(hg:T.fn f=some fn)(hk:RH P T aB r (fr n ((d,u)::l)) X ((0,⟨fr n l,o,u,false,false,X,X⟩)::bD) K)(hb:fn.body.isSome=true:=by exact rfl)(hw:cX aB (fr n l) o=some true:=by exact Go.Vx.wA)(hd:Nat.blt d n=true:=by exact rfl):RH P T aB (o::r) (fr n l) X bD K:=RD.free hw (Ge h hg hb).2 lN (Ge h hg hb).1 hd hk
end
def vw{args':V U}{v:O}{X1:Sg}(h:b7 P f args ⟨[],0⟩ (fun u' _=>u'=u/\bA 0 u'))(hg:Gh 0 args' X args X1)[ha:eQ 0 args](hu:toV u=some v:=by simp only[toV,eG,okL,okC,zC]<;>rfl)(CM:∀m,ren m v=v:=by exact fun m=>by simp[ren,aE]):b7 P f args' X (fun u' X'=>u'=u/\X'=X):=b7.view h ha.h hu CM hg
structure Hd(B:Prop):Prop where
 h:B
section
variable{C:PG}{n0:Nat}{tm:V U}{X:Sg}{Q:Exit->V U->Sg->Prop}
def rg0[t:Jv C T]{i:Nat}{aB:H2 Oper}{L:V Oper}(h:RU C T L L tm X (fun tm' X'=>Q .normal tm' X'))(hl:aB.toList=L):WPU C n0 (.region i aB false) tm X Q:=WPU.region t.ok (by rw[hl];exact h)
def rg1[t:Jv C T]{i:Nat}{aB:H2 Oper}{o:Oper}{r:V Oper}(hl:aB.toList=o::r)(h:RU C T (o::r) (o::r) tm X (fun tm' X'=>Q .normal tm' X')):WPU C n0 (.region i aB false) tm X Q:=rg0 h hl
end
section
variable{C:PG}{T:Tb}{aB r:V Oper}{o:Oper}{n:Nat}{l:V (Nat×U)}{X X':Sg}{u:U}{K:V U->Sg->Prop}{d:Tmp}
def RS.nt{j:Nat}{b:D1}{d':Tmp}(hg:o.guard=some (j,true))(hj:C3 aB j=some d')(hl:bZ n l (.tmp d')=some (.bool b))(hb:b=false)(he:o.dst=some d)(hd:Nat.blt d n=true)(hk:RU C T aB r (fr n ((d,.tup [])::l)) X K):RU C T aB (o::r) (fr n l) X K:=RS.no (qe hg hj hl hb) he hd hk
def RS.nf{j:Nat}{b:D1}{d':Tmp}(hg:o.guard=some (j,false))(hj:C3 aB j=some d')(hl:bZ n l (.tmp d')=some (.bool b))(hb:b=true)(he:o.dst=some d)(hd:Nat.blt d n=true)(hk:RU C T aB r (fr n ((d,.tup [])::l)) X K):RU C T aB (o::r) (fr n l) X K:=RS.no (qe hg hj hl hb) he hd hk
variable{x:EW}
def RS.mo(ho:o.op=.move x)(hx:bZ n l x=some u)(he:o.dst=some d)(hw:cX aB (fr n l) o=some true)(hd:Nat.blt d n=true)(hk:RU C T aB r (fr n ((d,u)::l)) X K):RU C T aB (o::r) (fr n l) X K:=RS.wq he (by rw[ho];exact i7 hx) hk hw hd
def RS.in{op:BinOp}{t t':TypeId}{y:EW}{k k':IntKind}{a b:Int}{v:O}(ho:o.op=.binOp op t x y t')(hx:bZ n l x=some (.int k a))(hy:bZ n l y=some (.int k' b))[h:LJ op k a k' b v](hr:iI v=some u)(he:o.dst=some d)(hw:cX aB (fr n l) o=some true)(hd:Nat.blt d n=true)(hk:RU C T aB r (fr n ((d,u)::l)) X K):RU C T aB (o::r) (fr n l) X K:=RS.wq he (by rw[ho];exact tG hx hy h.h hr) hk hw hd
def RS.p1{c a b:EW}{t:D1}(ho:o.op=.pick c a b)(hc:bZ n l c=some (.bool t))(ht:t=true)(h:bZ n l a=some u)(he:o.dst=some d)(hw:cX aB (fr n l) o=some true)(hd:Nat.blt d n=true)(hk:RU C T aB r (fr n ((d,u)::l)) X K):RU C T aB (o::r) (fr n l) X K:=RS.wq he (by rw[ho];exact dh hc ht h) hk hw hd
def RS.p0{c a b:EW}{t:D1}(ho:o.op=.pick c a b)(hc:bZ n l c=some (.bool t))(ht:t=false)(h:bZ n l b=some u)(he:o.dst=some d)(hw:cX aB (fr n l) o=some true)(hd:Nat.blt d n=true)(hk:RU C T aB r (fr n ((d,u)::l)) X K):RU C T aB (o::r) (fr n l) X K:=RS.wq he (by rw[ho];exact dj hc ht h) hk hw hd
def RS.ex{i:Nat}{q:V U}(ho:o.op=.extract x i)(hx:bZ n l x=some (.tup q))(h:nth q i=some u)(he:o.dst=some d)(hw:cX aB (fr n l) o=some true)(hd:Nat.blt d n=true)(hk:RU C T aB r (fr n ((d,u)::l)) X K):RU C T aB (o::r) (fr n l) X K:=RS.wq he (by rw[ho];exact zbv hx h) hk hw hd
def RS.un{op:UnOp}{t:TypeId}{v:U}{v1 v2:O}(ho:o.op=.unOp op t x)(hx:bZ n l x=some v)(h:toV v=some v1)(hu:QK op v1=some v2)(hq:iI v2=some u)(he:o.dst=some d)(hw:cX aB (fr n l) o=some true)(hd:Nat.blt d n=true)(hk:RU C T aB r (fr n ((d,u)::l)) X K):RU C T aB (o::r) (fr n l) X K:=RS.wq he (by rw[ho];exact SX hx h hu hq) hk hw hd
def RS.a(ho:o.op=.assign x)(hx:bZ n l x=some u)(he:o.dst=some d)(hw:cX aB (fr n l) o=some true)(hd:Nat.blt d n=true)(hk:RU C T aB r (fr n ((d,u)::l)) X K):RU C T aB (o::r) (fr n l) X K:=RS.as hw ho hx he hk hd
end
class jP(T:Tb)(t:TypeId)(a b:outParam Nat)(z:outParam O):Prop where
 h:T.inf t=some (a,b,z)
instance{T:Tb}{t:TypeId}{a b:Nat}{z:O}[q:jP T t a b z]:SzC T t a:=⟨aX q.h⟩
class oT(T:Tb)(t:TypeId)(zu:outParam (V U)):Prop where
 h:∃a b z,T.inf t=some (a,b,z)/\qC z.cells.toList=some zu/\okL zu=true
class D5(u:U)(cs:outParam (V U)):Prop where
 h:xY u=some cs
instance{l:V U}:D5 (.agg l) l:=⟨rfl⟩
instance{k:IntKind}{z:Int}:D5 (.int k z) [.int k z]:=⟨rfl⟩
instance{b:D1}:D5 (.bool b) [.bool b]:=⟨rfl⟩
instance{s:V Xv}:D5 (.str s) [.str s]:=⟨rfl⟩
instance{t:D1}{l:V (V U)}:D5 (.isl t l) [.isl t l]:=⟨rfl⟩
instance:D5 .nils [.nils]:=⟨rfl⟩
instance{k st off:Nat}:D5 (.ptr k st off) [.ptr k st off]:=⟨rfl⟩
instance{k st off n:Nat}:D5 (.vl k st off n) [.vl k st off n]:=⟨rfl⟩
instance{k off n c:Nat}:D5 (.sl k off n c) [.sl k off n c]:=⟨rfl⟩
instance{k:Nat}:D5 (.map k) [.map k]:=⟨rfl⟩
instance{f:Fn}{a c:V U}:D5 (.fn f a c) [.fn f a c]:=⟨rfl⟩
class N5(q:V U)(off n:Nat)(cs:outParam (V U)):Prop where
 h:lD q off n=some cs
instance{q:V U}:N5 q 0 0 []:=⟨by simp[lD]⟩
instance{a:U}{q cs:V U}{n:Nat}[s:N5 q 0 n cs]:N5 (a::q) 0 (n+1) (a::cs):=⟨by
 have:=s.h;unfold lD at*;split at this
 ·next h=>cases this;rw[if_pos (by simp at*;omega)];simp
 cases this⟩
instance(priority:=low){v11:Type}{c:v11->V U}{x:v11}{sz:Nat}[q:gC c sz]:N5 (c x) 0 sz (c x):=⟨by
 unfold lD;rw[if_pos (by rw[q.h];omega),List.drop_zero,zW (by rw[q.h];exact zF _)]⟩
class Dz(q:V U)(n:Nat):Prop where
 h:q.length=n
instance:Dz [] 0:=⟨rfl⟩
instance{a:U}{q:V U}{n:Nat}[s:Dz q n]:Dz (a::q) (n+1):=⟨by simp[s.h]⟩
instance(priority:=low){v11:Type}{c:v11->V U}{x:v11}{sz:Nat}[q:gC c sz]:Dz (c x) sz:=⟨q.h x⟩
class LI(q:V U)(off:Nat)(cs:V U)(q':outParam (V U)):Prop where
 h:qB q off cs=some q'
instance{q:V U}:LI q 0 [] q:=⟨by simp[qB]⟩
instance{a b:U}{q cs q':V U}[s:LI q 0 cs q']:LI (a::q) 0 (b::cs) (b::q'):=⟨by
 have:=s.h;unfold qB at*;split at this
 ·next h=>cases this;rw[if_pos (by simp at*;omega)];simp
 cases this⟩
instance{a:U}{q cs q':V U}{o:Nat}[s:LI q o cs q']:LI (a::q) (o+1) cs (a::q'):=⟨by
 have:=s.h;unfold qB at*;split at this
 ·next h=>cases this;rw[if_pos (by simp at*;omega)];simp[show o+1+cs.length=(o+cs.length)+1 by omega]
 cases this⟩
instance(priority:=low){v11:Type}{c:v11->V U}{x:v11}{sz:Nat}{q:V U}[s:gC c sz][t:Dz q sz]:LI q 0 (c x) (c x):=⟨by
 unfold qB;have h1:=s.h x;have h2:=t.h;rw[if_pos (by omega),List.drop_eq_nil_of_le (by omega)];simp⟩
class bf(a b:V U)(c:outParam (V U)):Prop where
 h:a++b=c
instance{b:V U}:bf [] b b:=⟨rfl⟩
instance{x:U}{a b c:V U}[s:bf a b c]:bf (x::a) b (x::c):=⟨by rw[List.cons_append,s.h]⟩
class gu(pl:V (Nat×Nat))(i:Nat)(o s:outParam Nat):Prop where
 h:nth pl i=some (o,s)
instance{o s:Nat}{pl:V (Nat×Nat)}:gu ((o,s)::pl) 0 o s:=⟨rfl⟩
instance{a:Nat×Nat}{i o s:Nat}{pl:V (Nat×Nat)}[q:gu pl i o s]:gu (a::pl) (i+1) o s:=⟨q.h⟩
variable{zu:V U}
variable{q':V U}
variable{cs:V U}
variable{s:Nat}
variable{qs:V (Nat×U)}
def zbe{place:Nat->M (Nat×Nat)}{c0:V U}{i o:Nat}{v:U}(hp:place i=some (o,s))(hc:xY v=some c0)(hl:c0.length=s)(hq:qB zu o c0=some q')(hr:uX place q' qs=some cs):uX place zu ((i,v)::qs)=some cs:=by
 have:Nat.beq c0.length s=true:=by simp[beq_eq,hl]
 simp[uX,hp,hc,this,zC,hq,hr]
class be(pl:V (Nat×Nat))(zu:V U)(qs:V (Nat×U))(cs:outParam (V U)):Prop where
 h:uX (nth pl) zu qs=some cs
instance{pl:V (Nat×Nat)}{zu:V U}:be pl zu [] zu:=⟨rfl⟩
instance{pl:V (Nat×Nat)}{zu q' cs c0:V U}{i o s:Nat}{v:U}{qs:V (Nat×U)}[p:gu pl i o s][c:D5 v c0][l:Dz c0 s][q:LI zu o c0 q'][r:be pl q' qs cs]:be pl zu ((i,v)::qs) cs:=⟨zbe p.h c.h l.h q.h r.h⟩
class gw(a b:Nat)(c:outParam Nat):Prop where
 h:a*b=c
instance{b:Nat}:gw 0 b 0:=⟨Nat.zero_mul b⟩
instance{b:Nat}:gw 1 b b:=⟨Nat.one_mul b⟩
instance{a:Nat}:gw (a+2) 1 (a+2):=⟨Nat.mul_one _⟩
class bc(s:Nat)(zu:V U)(qs:V (Nat×U))(cs:outParam (V U)):Prop where
 h:uX (fun i=>some (i*s,s)) zu qs=some cs
instance{s:Nat}{zu:V U}:bc s zu [] zu:=⟨rfl⟩
instance{zu q' cs c0:V U}{i o s:Nat}{v:U}{qs:V (Nat×U)}[m:gw i s o][c:D5 v c0][l:Dz c0 s][q:LI zu o c0 q'][r:bc s q' qs cs]:bc s zu ((i,v)::qs) cs:=⟨zbe (by rw[m.h]) c.h l.h q.h r.h⟩
class gm(z:V U)(k:Nat)(zs:outParam (V U)):Prop where
 h:w4 z k=zs
instance{z:V U}:gm z 0 []:=⟨rfl⟩
instance{z a b:V U}{k:Nat}[q:gm z k a][p:bf z a b]:gm z (k+1) b:=⟨by
 have:=q.h;have:=p.h;simp[w4,List.replicate_succ,List.flatten_cons]at*;simp_all⟩
class DeC{v11:Type}(c:v11->V U)(cs:V U)(x:outParam v11):Prop where
 h:c x=cs
instance{k:IntKind}{z:Int}:DeC (cI k) [.int k z] z:=⟨rfl⟩
instance{s:V Xv}:DeC cS [.str s] s:=⟨rfl⟩
instance{v11:Type}{c:v11->V U}{l:V v11}:DeC (cL c) [.isl false (l.map c)] l:=⟨rfl⟩
instance(priority:=low){v11:Type}{c:v11->V U}{x:v11}:DeC c (c x) x:=⟨rfl⟩
instance(priority:=low){v11:Type}{c:v11->V U}{x:v11}:VF (c x) (c x):=⟨rP.refl _⟩
class y8(T:Tb)(t:TypeId)(zu:outParam (V U))(pl:outParam (V (Nat×Nat))):Prop where
 h:BdT T t zu pl
class SuC(a:Nat)(b:outParam Nat):Prop where
 h:a+1=b
instance:SuC 0 1:=⟨rfl⟩
instance:SuC 1 2:=⟨rfl⟩
instance:SuC 2 3:=⟨rfl⟩
instance:SuC 3 4:=⟨rfl⟩
instance:SuC 4 5:=⟨rfl⟩
instance:SuC 5 6:=⟨rfl⟩
instance:SuC 6 7:=⟨rfl⟩
instance:SuC 7 8:=⟨rfl⟩
instance:SuC 8 9:=⟨rfl⟩
instance:SuC 9 10:=⟨rfl⟩
instance:SuC 10 11:=⟨rfl⟩
instance:SuC 11 12:=⟨rfl⟩
instance:SuC 12 13:=⟨rfl⟩
instance:SuC 13 14:=⟨rfl⟩
class AdC(a b:Nat)(c:outParam Nat):Prop where
 h:a+b=c
instance(priority:=low){a b:Nat}:AdC a b (a+b):=⟨rfl⟩
instance{b:Nat}:AdC 0 b b:=⟨Nat.zero_add b⟩
class gv(a:Nat)(b:outParam Nat):Prop where
 h:a+1=b
instance{a b:Nat}[q:SuC a b]:gv a b:=⟨q.h⟩
instance(priority:=low){a:Nat}:gv a (a+1):=⟨rfl⟩
section
variable{T:Tb}{n:Nat}{l:V (Nat×U)}{h h':V (Nat×B)}{nx nx':Nat}{u v w:U}{op:Op}
variable{e:TypeId}
def oAl(ho:op=.alloc e)[z:oT T e zu][hn:SuC nx nx']:bO T ⟨h,nx⟩ (fr n l) op=some (.ptr nx 0 0,⟨(nx,.row zu e)::h,nx'⟩):=by subst ho;have uJ:=hn.h;subst uJ;have⟨a,b,q,h1,h2,h3⟩:=z.h;exact z0s h1 h2 h3
variable{x:EW}
def oBx(ho:op=.box e x)(hx:bZ n l x=some v)[c:D5 v cs](hk:okL cs=true)[hn:SuC nx nx']:bO T ⟨h,nx⟩ (fr n l) op=some (.ptr nx 0 0,⟨(nx,.row cs e)::h,nx'⟩):=by subst ho;have uJ:=hn.h;subst uJ;exact Z8 hx c.h hk
variable{t:TypeId}
variable{a:EW}
variable{k:Nat}
variable{off:Nat}
variable{sz:Nat}
variable{q:V U}
def oSt(ho:op=.store t a x)(ha:bZ n l a=some (.ptr k 0 off))(hx:bZ n l x=some v)[g:D4 h k (.row q e)][s:SzC T t sz][c:D5 v cs][p:LI q off cs q'][w:Dv h k (.row q' e) h'](hl:Nat.beq cs.length sz=true)(hk:okL cs=true):bO T ⟨h,nx⟩ (fr n l) op=some (.junk,⟨h',nx⟩):=by subst ho;refine z0v s.h ha hx c.h hl hk (q:=q) (q':=q') ?_ ?_ ?_;simp only[cellsOf,g.h];rfl;simp[GS,g.h];exact p.h;simp[M6,g.h,w.h]
variable{d:TypeDesc}
def oLa(ho:op=.load t x)(hx:bZ n l x=some (.ptr k 0 off))[hd:fM T t d](ha:sF d=true)[g:D4 h k (.row q e)][s:SzC T t sz][p:N5 q off sz cs]:bO T ⟨h,nx⟩ (fr n l) op=some (.agg cs,⟨h,nx⟩):=by subst ho;exact jA hd.h ha s.h hx (by simp only[cellsOf,g.h];rfl) p.h
def oLo(ho:op=.load t x)(hx:bZ n l x=some (.ptr k 0 off))[hd:fM T t d](ha:sF d=false)[g:D4 h k (.row q e)](hu:nth q off=some u):bO T ⟨h,nx⟩ (fr n l) op=some (u,⟨h,nx⟩):=by subst ho;exact nQ hd.h ha hx (by simp only[cellsOf,g.h];rfl) hu
def oIa(ho:op=.load t x)(hx:bZ n l x=some (.iptr q))[hd:fM T t d](ha:sF d=true)[s:SzC T t sz][p:N5 q 0 sz cs]:bO T ⟨h,nx⟩ (fr n l) op=some (.agg cs,⟨h,nx⟩):=by subst ho;exact zbr hd.h ha s.h hx p.h
def oIo(ho:op=.load t x)(hx:bZ n l x=some (.iptr q))[hd:fM T t d](ha:sF d=false)(hu:nth q 0=some u):bO T ⟨h,nx⟩ (fr n l) op=some (u,⟨h,nx⟩):=by subst ho;exact Mp hd.h ha hx hu
def oFa{f:Nat}{fs:H2 Field}{fd:Field}{iL:Nat}(ho:op=.fieldAddr t x f)(hx:bZ n l x=some (.ptr k 0 off))[hd:fM T t (.struct fs)][g:D4 h k (.row q e)](hf:nth fs.toList f=some fd)(hs:cT T fd.type=some (s+1))(h2:off+fd.offset=iL):bO T ⟨h,nx⟩ (fr n l) op=some (.ptr k 0 iL,⟨h,nx⟩):=by subst ho;exact j5 hd.h hf hs hx (by simp[cM,g.h];rfl) h2
def oFi{f:Nat}{fs:H2 Field}{fd:Field}(ho:op=.fieldAddr t x f)(hx:bZ n l x=some (.iptr q))[hd:fM T t (.struct fs)](hf:nth fs.toList f=some fd)(hs:cT T fd.type=some (s+1))(hq:q.drop fd.offset=q'):bO T ⟨h,nx⟩ (fr n l) op=some (.iptr q',⟨h,nx⟩):=by subst ho;exact bh hd.h hf hs hx hq
variable{v11:Type}
variable{c:v11->V U}
variable{b:D1}
variable{xs:V v11}
def oIx{i:EW}{k:IntKind}{z:Int}{y:v11}(ho:op=.indexAddr t x i)(hx:bZ n l x=some (.isl b (xs.map c)))(hi:bZ n l i=some (.int k z))[hd:fM T t (.slice e)][hs:SzC T e sz][hc:gC c sz](hy:aC xs z=some y):bO T ⟨h,nx⟩ (fr n l) op=some (.iptr (c y),⟨h,nx⟩):=by subst ho;exact dO hx hi (Fc c hd.h hs.h hc.h hy rfl)
variable{args:H2 EW}
variable{ts:H2 TypeId}
def oLe{q:V TypeId}(ho:op=.call { callee:=.builtin .len,args:=args,argTypes:=ts })(ha:args.toList=[x])(ht:ts.toList=t::q)(hx:bZ n l x=some (.isl b (xs.map c)))[hd:fM T t (.slice e)]:bO T ⟨h,nx⟩ (fr n l) op=some (.int .i64 xs.length,⟨h,nx⟩):=by subst ho;exact F5 ha ht hx (Fu c hd.h)
def oLv{e':TypeId}{q:V TypeId}{K st m:Nat}(ho:op=.call { callee:=.builtin .len,args:=args,argTypes:=ts })(ha:args.toList=[x])(ht:ts.toList=t::q)(hx:bZ n l x=some (.vl K st 0 m))[hd:fM T t (.slice e)][g:D4 h K (.vec cs e' sz st)]:bO T ⟨h,nx⟩ (fr n l) op=some (.int .i64 m,⟨h,nx⟩):=by subst ho;exact F5 ha ht hx (zbq hd.h g.h)
def oBd{pl:V (Nat×Nat)}{ps:H2 (Nat×EW)}(ho:op=.build t ps)[q:y8 T t zu pl](he:I2 n l ps.toList=some qs)(c:be pl zu qs cs)(hk:okL cs=true):bO T ⟨h,nx⟩ (fr n l) op=some (.agg cs,⟨h,nx⟩):=by subst ho;exact qp q.h he c.h hk
variable{z:O}
def oBs{b:Nat}{zs:V U}{ps:H2 (Nat×EW)}(ho:op=.buildSlice t k ps)(he:I2 n l ps.toList=some qs)[hd:fM T t (.slice e)][hi:jP T e sz b z][hz:oT T e zu](zc:gm zu k zs)(c:bc sz zs qs cs)(hk:okL cs=true)(h1:Nat.ble (k*sz) 16777216=true)(h2:Nat.ble k 16777216=true)(h3:Nat.beq z.cells.toList.length sz=true)(hn:SuC nx nx'):bO T ⟨h,nx⟩ (fr n l) op=some (.sl nx 0 k k,⟨(nx,.row cs e)::h,nx'⟩):=by subst ho;have uJ:=hn.h;subst uJ;have⟨a,b',q,g1,g2,g3⟩:=hz.h;have e1:=hi.h;rw[g1]at e1;cases e1;exact tH hd.h hi.h he h1 h2 h3 g2 (by rw[zc.h];exact c.h) hk
variable{X:Sg}
def oMv(ho:op=.move x)(hx:bZ n l x=some u):bO T X (fr n l) op=some (u,X):=by subst ho;exact i7 hx
def oAs(ho:op=.assign x)(hx:bZ n l x=some u):bO T X (fr n l) op=some (u,X):=by subst ho;exact fp hx
variable{y:EW}
def oIn{b:BinOp}{t':TypeId}{k k':IntKind}{i j:Int}{r:O}(ho:op=.binOp b t x y t')(hx:bZ n l x=some (.int k i))(hy:bZ n l y=some (.int k' j))[q:LJ b k i k' j r](hr:iI r=some u):bO T X (fr n l) op=some (u,X):=by subst ho;exact tG hx hy q.h hr
def oP1{c b:EW}{t:D1}(ho:op=.pick c a b)(hc:bZ n l c=some (.bool t))(ht:t=true)(hu:bZ n l a=some u):bO T X (fr n l) op=some (u,X):=by subst ho;exact dh hc ht hu
def oP0{c b:EW}{t:D1}(ho:op=.pick c a b)(hc:bZ n l c=some (.bool t))(ht:t=false)(hu:bZ n l b=some u):bO T X (fr n l) op=some (u,X):=by subst ho;exact dj hc ht hu
def oEx{i:Nat}(ho:op=.extract x i)(hx:bZ n l x=some (.tup q))(hu:nth q i=some u):bO T X (fr n l) op=some (u,X):=by subst ho;exact zbv hx hu
def oUn{b:UnOp}{v1 v2:O}(ho:op=.unOp b t x)(hx:bZ n l x=some v)(h1:toV v=some v1)(h2:QK b v1=some v2)(hq:iI v2=some u):bO T X (fr n l) op=some (u,X):=by subst ho;exact SX hx h1 h2 hq
def oAp{xt e1 e2:TypeId}{a st cD K s0 s1 by_:Nat}{yv:v11}{cs':V U}(ho:op=.call { callee:=.builtin .append,args:=args,argTypes:=ts })(ha:args.toList=[x,y])(ht:ts.toList=[t,xt])(hx:bZ n l x=some (.vl a st 0 xs.length))(hy:bZ n l y=some (.sl K 0 1 1))[d1:fM T t (.slice e)][d2:fM T xt (.slice e2)][g:D4 h a (.vec (xs.map c).flatten e s0 st)][i:jP T e s1 by_ z][g2:D4 h K (.row q e1)][s:N5 q 0 s1 cs][w:VF cs cs'][d:DeC c cs' yv][lc:gC c s1][J?:gv st cD][ug:Dv h a (.vec (List.map c (xs++[yv])).flatten e s1 cD) h'](TP:s0=s1)(hp:Nat.ble 1 s1=true)(hc:rY cs=(List.map c [yv]).flatten)(hz:Nat.beq z.cells.toList.length s1=true)(hr:(xs.length+1)*by_<=140737488355328/\xs.length+1<=140737488355328):bO T ⟨h,nx⟩ (fr n l) op=some (.vl a cD 0 (xs++[yv]).length,⟨h',nx⟩):=by subst ho;subst TP;obtain⟨sz,rfl⟩:∃sz,s0=sz+1:=⟨s0-1,by have:=zY hp;omega⟩;have e1:=J?.h;subst e1;have:=uZ (X:=⟨h,nx⟩) ha ht hx hy (RN c [yv] d1.h d2.h i.h hz lc.h g.h (Nb c [yv] (q:=q) (by simp[rowOf,g2.h]) (by rw[Nat.one_mul];exact s.h) rfl hc) hr);rw[ug.h]at this;exact this
def oAq{xt e2:TypeId}{a st cD s0 s1 by_:Nat}{ys:V v11}(ho:op=.call { callee:=.builtin .append,args:=args,argTypes:=ts })(ha:args.toList=[x,y])(ht:ts.toList=[t,xt])(hx:bZ n l x=some (.vl a st 0 xs.length))(hy:bZ n l y=some (.isl b (ys.map c)))[d1:fM T t (.slice e)][d2:fM T xt (.slice e2)][g:D4 h a (.vec (xs.map c).flatten e s0 st)][i:jP T e s1 by_ z][lc:gC c s1][J?:gv st cD][ug:Dv h a (.vec (List.map c (xs++ys)).flatten e s1 cD) h'](TP:s0=s1)(hp:Nat.ble 1 s1=true)(hz:Nat.beq z.cells.toList.length s1=true)(hr:(xs.length+ys.length)*by_<=140737488355328/\xs.length+ys.length<=140737488355328):bO T ⟨h,nx⟩ (fr n l) op=some (.vl a cD 0 (xs++ys).length,⟨h',nx⟩):=by subst ho;subst TP;obtain⟨sz,rfl⟩:∃sz,s0=sz+1:=⟨s0-1,by have:=zY hp;omega⟩;have e1:=J?.h;subst e1;have:=uZ (X:=⟨h,nx⟩) ha ht hx hy (RN c ys d1.h d2.h i.h hz lc.h g.h (H6 c lc.h) hr);rw[ug.h]at this;exact this
end
variable{A:Prop}
def opx (h:A:=by first
 |exact Go.Vx.oIo rfl rfl rfl rfl
 |exact Go.Vx.oLo rfl rfl rfl rfl
 |exact Go.Vx.oFi rfl rfl (by exact rfl) (by exact Go.Vx.SzC.h) (by exact rfl)
 |exact Go.Vx.oFa rfl rfl (by exact rfl) (by exact Go.Vx.SzC.h) (by exact Go.Vx.AdC.h)
 |exact Go.Vx.oLa rfl rfl rfl
 |exact Go.Vx.oIa rfl rfl rfl
 |exact Go.Vx.oLe rfl rfl rfl rfl
 |exact Go.Vx.oLv rfl rfl rfl rfl
 |exact Go.Vx.oBx rfl rfl rfl
 |exact Go.Vx.oAl rfl
 |exact Go.Vx.oSt rfl rfl rfl rfl rfl
 |exact Go.Vx.oBd rfl rfl (by exact inferInstance) rfl):A:=h
def opy (h:A:=by first
 |exact Go.Vx.oMv rfl rfl
 |exact Go.Vx.oAs rfl rfl
 |exact Go.Vx.oIn rfl rfl rfl rfl
 |exact Go.Vx.oEx rfl rfl rfl
 |exact Go.Vx.oP1 rfl rfl (by first |with_reducible_and_instances assumption |exact rfl) rfl
 |exact Go.Vx.oP0 rfl rfl (by first |with_reducible_and_instances assumption |exact rfl) rfl
 |exact Go.Vx.oUn rfl rfl rfl rfl rfl
 |exact Go.Vx.opx):A:=h
def opz (h:A:=by first
 |exact Go.Vx.oBs rfl rfl (by exact inferInstance) (by exact inferInstance) rfl rfl rfl rfl (by exact inferInstance)
 |exact Go.Vx.oAp rfl rfl rfl rfl rfl rfl rfl rfl rfl (by with_reducible assumption)
 |exact Go.Vx.oAq rfl rfl rfl rfl rfl rfl rfl rfl (by with_reducible assumption)
 |exact Go.Vx.opx):A:=h
section
variable{T:Tb}{aB r:V Oper}{o:Oper}{n:Nat}{l:V (Nat×U)}{X X':Sg}{u:U}
variable{C:PG}
variable{K:V U->Sg->Prop}
variable{d:Tmp}
def bN(hk:RU C T aB r (fr n ((d,u)::l)) X' K)(h:bO T X (fr n l) o.op=some (u,X'):=by exact Go.Vx.opz)(he:o.dst=some d:=by exact rfl)(hw:cX aB (fr n l) o=some true:=by exact Go.Vx.wA)(hd:Nat.blt d n=true:=by exact rfl):RU C T aB (o::r) (fr n l) X K:=RS.op hw h he hd hk
variable{P:H0}
variable{bD:V RK}
variable{K:V RK->V U->Sg->Prop}
def dZ(hk:RH P T aB r (fr n ((d,u)::l)) X' ((3,⟨fr n l,o,u,true,true,X,X'⟩)::bD) K)(h:bO T X (fr n l) o.op=some (u,X'):=by exact Go.Vx.opz)(he:o.dst=some d:=by exact rfl)(hw:cX aB (fr n l) o=some true:=by exact Go.Vx.wA)(hd:Nat.blt d n=true:=by exact rfl):RH P T aB (o::r) (fr n l) X bD K:=RD.act hw h he hd hk
def qU(hk:RH P T aB r (fr n l) X' ((3,⟨fr n l,o,u,true,true,X,X'⟩)::bD) K)(h:bO T X (fr n l) o.op=some (u,X'):=by exact Go.Vx.opz)(he:o.dst=none:=by exact rfl)(hw:cX aB (fr n l) o=some true:=by exact Go.Vx.wA):RH P T aB (o::r) (fr n l) X bD K:=HX hw h he hk
def RD.ou(hk:RH P T aB r (fr n ((d,u)::l)) X ((1,⟨fr n l,o,u,false,false,X,X⟩)::bD) K)(h:bO T X (fr n l) o.op=some (u,X):=by exact Go.Vx.opy)(he:o.dst=some d:=by exact rfl)(hw:cX aB (fr n l) o=some true:=by exact Go.Vx.wA)(hd:Nat.blt d n=true:=by exact rfl):RH P T aB (o::r) (fr n l) X bD K:=RD.look hw h he hd hk
def RD.nt{d':Tmp}{j:Nat}{b:D1}(hg:o.guard=some (j,true))(hj:C3 aB j=some d')(hl:bZ n l (.tmp d')=some (.bool b))(hb:b=false)(he:o.dst=some d)(hk:RH P T aB r (fr n ((d,.tup [])::l)) X ((0,⟨fr n l,o,.tup [],false,false,X,X⟩)::bD) K)(hd:Nat.blt d n=true:=by exact rfl):RH P T aB (o::r) (fr n l) X bD K:=RD.no (qe hg hj hl hb) he hd hk
def RD.nf{d':Tmp}{j:Nat}{b:D1}(hg:o.guard=some (j,false))(hj:C3 aB j=some d')(hl:bZ n l (.tmp d')=some (.bool b))(hb:b=true)(he:o.dst=some d)(hk:RH P T aB r (fr n ((d,.tup [])::l)) X ((0,⟨fr n l,o,.tup [],false,false,X,X⟩)::bD) K)(hd:Nat.blt d n=true:=by exact rfl):RH P T aB (o::r) (fr n l) X bD K:=RD.no (qe hg hj hl hb) he hd hk
def aY{K:V U->Sg->Prop}{v11:Type}{xs:V v11}{z:Int}{y:v11}(hy:aC xs z=some y)(hk:RU C T aB r (fr n ((d,u)::l)) X K)(h:aC xs z=some y->bO T X (fr n l) o.op=some (u,X):=by intro hy;exact Go.Vx.oIx rfl rfl rfl hy)(he:o.dst=some d:=by exact rfl)(hw:cX aB (fr n l) o=some true:=by exact Go.Vx.wA)(hd:Nat.blt d n=true:=by exact rfl):RU C T aB (o::r) (fr n l) X K:=RS.op hw (h hy) he hd hk
def c8{v11:Type}{xs:V v11}{z:Int}{y:v11}(hy:aC xs z=some y)(hk:RH P T aB r (fr n ((d,u)::l)) X ((1,⟨fr n l,o,u,false,false,X,X⟩)::bD) K)(h:aC xs z=some y->bO T X (fr n l) o.op=some (u,X):=by intro hy;exact Go.Vx.oIx rfl rfl rfl hy)(he:o.dst=some d:=by exact rfl)(hw:cX aB (fr n l) o=some true:=by exact Go.Vx.wA)(hd:Nat.blt d n=true:=by exact rfl):RH P T aB (o::r) (fr n l) X bD K:=RD.look hw (h hy) he hd hk
def RS.ou{K:V U->Sg->Prop}(hk:RU C T aB r (fr n ((d,u)::l)) X' K)(h:bO T X (fr n l) o.op=some (u,X'):=by exact Go.Vx.opx)(he:o.dst=some d:=by exact rfl)(hw:cX aB (fr n l) o=some true:=by exact Go.Vx.wA)(hd:Nat.blt d n=true:=by exact rfl):RU C T aB (o::r) (fr n l) X K:=RS.op hw h he hd hk
def RS.oz{K:V U->Sg->Prop}(hk:RU C T aB r (fr n l) X' K)(h:bO T X (fr n l) o.op=some (u,X'):=by exact Go.Vx.opx)(he:o.dst=none:=by exact rfl)(hw:cX aB (fr n l) o=some true:=by exact Go.Vx.wA):RU C T aB (o::r) (fr n l) X K:=LN hw h he hk
end
def gd{B:Prop}(h:B) (g:Hd B->A:=by
 intro h
 repeat' first
  |(refine Go.Vx.RD.nt rfl rfl rfl ?_ rfl ?_;· first |with_reducible_and_instances assumption |exact rfl)
  |(refine Go.Vx.RD.nf rfl rfl rfl ?_ rfl ?_;· first |with_reducible_and_instances assumption |exact rfl)
  |refine Go.Vx.RD.ou ?_
 exact h.h):A:=g ⟨h⟩
def gs{B: Prop}(h:B) (g:Hd B->A:=by
  intro h
  first
    |refine Go.Vx.gq ?_
    |with_reducible refine Go.Vx.sq ?_
    |with_reducible refine Go.Vx.WPU.skip ?_
    |with_reducible refine Go.Vx.RS.done ?_
    |with_reducible refine Go.Vx.WPU.ret ?_
    |with_reducible refine Go.Vx.WPU.exit ?_
    |(refine Go.Vx.RS.nt rfl rfl rfl ?_ rfl rfl ?_;· first |with_reducible_and_instances assumption |exact rfl)
    |(refine Go.Vx.RS.nf rfl rfl rfl ?_ rfl rfl ?_;· first |with_reducible_and_instances assumption |exact rfl)
    |(refine Go.Vx.RS.mo rfl rfl rfl ?_ rfl ?_;· exact Go.Vx.wA)
    |(refine Go.Vx.RS.in rfl rfl rfl rfl rfl ?_ rfl ?_;· exact Go.Vx.wA)
    | (refine Go.Vx.RS.p1 rfl rfl ?_ rfl rfl ?_ rfl ?_; · first | with_reducible_and_instances assumption | exact rfl
       exact Go.Vx.wA)
    | (refine Go.Vx.RS.p0 rfl rfl ?_ rfl rfl ?_ rfl ?_; · first | with_reducible_and_instances assumption | exact rfl
       exact Go.Vx.wA)
    |(refine Go.Vx.RS.a rfl rfl rfl ?_ rfl ?_;· exact Go.Vx.wA)
    |(refine Go.Vx.RS.ex rfl rfl rfl rfl ?_ rfl ?_;· exact Go.Vx.wA)
    |(refine Go.Vx.RS.un rfl rfl rfl rfl rfl rfl ?_ rfl ?_;· exact Go.Vx.wA)
    |refine Go.Vx.RS.ou ?_
    |refine Go.Vx.RS.oz ?_
  exact h.h):A:=g ⟨h⟩
def go{B:Prop}(h:B)(g:Hd B->A:=by intro h;(repeat' first |refine Go.Vx.gs ?_ |refine Go.Vx.rg1 rfl ?_);exact h.h):A:=g ⟨h⟩
def gn{B:Prop}(h:B)(g:Hd B->A:=by intro h;(repeat' refine Go.Vx.gs ?_);exact h.h):A:=g ⟨h⟩
def gr{B:Prop}(h:B)(g:Hd B->A:=by intro h;refine Go.Vx.gn ?_;refine Go.Vx.rg1 rfl ?_;refine Go.Vx.gn ?_;exact h.h):A:=g ⟨h⟩
def gx{v11:Type}{a b:v11}(h:some a=some b)(g:a=b->A:=by intro e;subst e;refine Go.Vx.go ?_;exact Go.Vx.rt1 rfl rfl rfl rfl):A:=g (sI h)
def gy{v11:Type}{a b:v11}(h:some a=some b)(g:a=b->A:=by intro e;subst e;refine Go.Vx.go ?_;exact Go.Vx.xC ⟨rfl,rfl⟩):A:=g (sI h)
def gB{I:Type}{t:D1}{a b r:M I}(h:cond t a b=r):(t=true/\a=r)\/(t=false/\b=r):=by cases t;exact .inr ⟨rfl,h⟩;exact .inl ⟨rfl,h⟩
abbrev B.bv{v11:Type}(c:v11->V U)(l:V v11)(e:TypeId)(sz st:Nat):B:=.vec (l.map c).flatten e sz st
abbrev cV(P:H0)(f:FuncId)(args:V U)(u:U):Prop:=b7 P f args ⟨[],0⟩ (fun u' _=>u'=u/\bA 0 u')
section
variable{C:PG}{n0 n:Nat}{Q:Exit->V U->Sg->Prop}{l:V (Nat×U)}{h:V (Nat×B)}{nx:Nat}{c:Code}
def gV(i:Nat)(e:TypeId)(sz n1:Nat)(hw:WPU C n0 c (fr n ((i,.vl nx 0 0 0)::l)) ⟨(nx,.vec [] e sz 0)::h,n1⟩ Q)(hi:bZ n l (.tmp i)=some .nils:=by exact rfl)(hs:Nat.blt 0 sz=true:=by exact rfl)(hn:nx+1=n1:=by exact rfl)(h0:n0<=nx:=by first |exact Nat.zero_le _ |exact zY rfl)(hd:gi n (some i)=true:=by exact rfl):WPU C n0 c (fr n l) ⟨h,nx⟩ Q:=by subst hn;refine c9 (Gh.nilS i e sz ?_ h0 hi hd) (Nat.le_succ_of_le h0) hw;exact Nat.lt_of_succ_le (zY hs)
def gL{l':V (Nat×U)}{X:Sg}{id:Nat}(v08:Nat->V U->Sg->Prop)(E:V U->Sg->Prop)(k:Nat)(h0:v08 k (fr n l') X)
  (out:∀tm X,E tm X->Q .normal tm X) (round:∀m tm X,v08 m tm X->WPU C n0 c tm X (C1 (fun tm' X'=>∃n' jG bT,n'<m/\v08 n' jG bT/\n0<=bT.nx/\Gh n0 tm' X' jG bT) (C5 id (R1 n0 E Q))))
  (hn:n0<=X.nx:=by first |exact Nat.zero_le _ |exact zY rfl) (ht:D9 l l':=by((repeat refine⟨rfl,?_⟩);exact trivial)):WPU C n0 (.block id (.loop c)) (fr n l) X Q:=c9 (Gh.sub ht) hn (WPU.loopK v08 E k h0 out round)
def dE{T:Tb}[t:Jv C T]{tm:V U}{X:Sg}{id:Nat}{aB:H2 Oper}(pr:V (Nat×Nat))(h:RH C.prog T aB.toList aB.toList tm X [] (fun ks tm' X'=>flE aB.toList (ks.reverse.map (·.1)) pr=true/\wm T ks.reverse pr/\Q .normal tm' X'))(cK:Y9 aB.toList=true:=by kernel_rfl):WPU C n0 (.region id aB true) tm X Q:=WPU.drawE t.ok pr cK h
end
def gF{I:Type}{t:D1}{a b r:M I}{A A1 A2:Prop}(J:cond t a b=r)(h1:t=true->a=r->A1)(h2:t=false->b=r->A2) (g:cond t a b=r->Hd (t=true->a=r->A1)->Hd (t=false->b=r->A2)->A:=by intro e h k;refine Go.Vx.go ?_;exact Go.Vx.cF e h.h k.h):A:=g J ⟨h1⟩ ⟨h2⟩
end Go.Vx
