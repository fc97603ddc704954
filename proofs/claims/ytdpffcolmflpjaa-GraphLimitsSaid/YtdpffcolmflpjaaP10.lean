/-
  Texts of the walk: MpR MpS MpC MpD MpE MpF.
-/
import Derived.RangeFuncNested
import Derived.RangeFuncLeaves
import Derived.Test.YtdpffcolmflpjaaP9
section
namespace Go.Vx
open Go Go.Rx
set_option linter.unusedVariables false
theorem blk_keep {m:Nm} {i:Nat} {w w':World} {b:Blk} (hk:∀ (k:Nat) (ob:Obj),w.heap[k]? = some ob→((∃ c e f,ob = .cells c e f)∨∃ q c,ob = .map q c)→w'.heap[k]? = some ob) (h:BlkOk m i w b):BlkOk m i w' b:=by
 rcases b with ⟨l,e,md⟩ | ⟨es,cl⟩
 ·simp only [BlkOk] at h ⊢
  match md,h with
  | 0,h=>simp only [RowOk] at h ⊢; exact ⟨h.1,hk _ _ h.2 (.inl ⟨_,_,_,rfl⟩)⟩
  | 1,h=>simp only [RowOk] at h ⊢; obtain ⟨c,e',fr,h1,h2⟩:=h; exact ⟨c,e',fr,hk _ _ h1 (.inl ⟨_,_,_,rfl⟩),h2⟩
  | n+2,h=>simp only [RowOk] at h ⊢; obtain ⟨pre,rest,h1,h2⟩:=h; exact ⟨pre,rest,hk _ _ h1 (.inl ⟨_,_,_,rfl⟩),h2⟩
 ·simp only [BlkOk] at h ⊢; exact hk _ _ h (.inr ⟨_,_,rfl⟩)
theorem fits_keep {m:Nm} {s:S} {w w':World} (hk:∀ (k:Nat) (ob:Obj),w.heap[k]? = some ob→((∃ c e f,ob = .cells c e f)∨∃ q c,ob = .map q c)→w'.heap[k]? = some ob) (hf:FitsS m s w):FitsS m s w':=fun m' ha =>
 let q:=hf m' ha
 ⟨fun i b hl=>blk_keep hk (q.ok i b hl),q.inj,q.bd⟩
theorem q9t {m:Nm} {s:S} {w:World} {l:Nat} {r r':Obj} (hf:FitsS m s w) (hl:w.heap[l]? = some r) (ho:(∀ c e f,r ≠ .cells c e f)∧∀ q c,r ≠ .map q c):FitsS m s (w.putObj l r'):=by
 refine fits_keep (fun k ob h hd=>?_) hf
 by_cases hk:l=k
 ·subst hk
  rw [hl] at h; cases h
  rcases hd with ⟨c,e,f,rfl⟩ | ⟨q,c,rfl⟩
  ·exact absurd rfl (ho.1 c e f)
  ·exact absurd rfl (ho.2 q c)
 ·rw [World.putObj_heap_other (fun h=>hk h.symm)]; exact h
theorem q9y (r:Loop):(∀ c e f,(Obj.loop r) ≠ .cells c e f)∧∀ q c,(Obj.loop r) ≠ .map q c:=⟨by simp,by simp⟩
theorem q8k (w:World) (l:Nat) (o:Obj):(w.putObj l o).heap.size=w.heap.size:=by simp [World.putObj]
theorem Adv.put_new {m:Nm} {s:S} {w:World} {m':Nm} {s':S} {w':World} {l:Nat} {r r':Obj} (h:Adv m s w m' s' w') (hl:w.heap.size≤l) (hw:w'.heap[l]? = some r) (ho:(∀ c e f,r ≠ .cells c e f)∧∀ q c,r ≠ .map q c):Adv m s w m' s' (w'.putObj l r') :=
 ⟨h.agree,h.nx,q9t h.fits hw ho,h.own,fun b hb hn=>by rw [World.putObj_heap_other (by omega)]; exact h.same b hb hn,by rw [q8k]; exact h.size,h.os,h.tape,h.output,h.drawn⟩
theorem Adv.put_back {m:Nm} {s:S} {w:World} {m':Nm} {s':S} {w':World} {l:Nat} {r r1:Obj} (hf:FitsS m s w) (hw:w.heap[l]? = some r) (ho:(∀ c e f,r ≠ .cells c e f)∧∀ q c,r ≠ .map q c) (ho1:(∀ c e f,r1 ≠ .cells c e f)∧∀ q c,r1 ≠ .map q c) (h:Adv m s (w.putObj l r1) m' s' w'):w'.heap[l]? = some r1∧Adv m s w m' s' (w'.putObj l r):=by
 have hlt:=(Array.getElem?_eq_some_iff.1 hw).1
 have hl1:(w.putObj l r1).heap[l]? = some r1:=World.putObj_heap_same hlt
 have hw':w'.heap[l]? = some r1:=q75 (q9t hf hw ho) h hl1 ho1.1 ho1.2
 refine ⟨hw',h.agree,h.nx,q9t h.fits hw' ho1,fun b hb=>?_,fun b hb hn=>?_,by rw [q8k]; have:=h.size; rw [q8k] at this; exact this,h.os,h.tape,h.output,h.drawn⟩
 ·rcases h.own b hb with h | h
  ·exact .inl h
  ·rw [q8k] at h; exact .inr h
 ·by_cases hbl:b=l
  ·subst hbl
   rw [World.putObj_heap_same (Array.getElem?_eq_some_iff.1 hw').1,hw]
  ·rw [World.putObj_heap_other hbl,h.same b (by rw [q8k]; exact hb) hn,World.putObj_heap_other hbl]
theorem Adv.grow {m:Nm} {s:S} {w:World} (hf:FitsS m s w) (o:Obj):Adv m s w m s (w.alloc o):=by
 have hk:∀ b,b<w.heap.size→(w.alloc o).heap[b]? = w.heap[b]?:=fun b hb=>Go.RowKit.Below.heap_alloc _ _ _ hb
 refine ⟨Agree.refl _ _,Nat.le_refl _,fits_keep (fun k ob h _=>?_) hf,fun _ h=>.inl h,fun b hb _=>hk b hb,by simp,rfl,rfl,rfl,Nat.le_refl _⟩
 rw [hk k (Array.getElem?_eq_some_iff.1 h).1]; exact h
def setPs:List U→List Tmp→List U→List U
 | tm,p::ps,u::us=>setPs (tm.set p u) ps us
 | tm,_,_=>tm
def setPV:List Value→List Tmp→List Value→List Value
 | tv,p::ps,v::vs=>setPV (tv.set p v) ps vs
 | tv,_,_=>tv
theorem setP_rel {x:Cx}:∀ {ps:List Tmp} {tm us:List U} {tv vs:List Value},RelE x tm tv→RelE x us vs→RelE x (setPs tm ps us) (setPV tv ps vs)
 | [],tm,us,tv,vs,h,_=>by cases us<;>cases vs<;>simpa [setPs,setPV] using h
 | p::ps,tm,[],tv,vs,h,hu=>by rw [hu.nil_inv]; simpa [setPs,setPV] using h
 | p::ps,tm,u::us,tv,vs,h,hu=>by
  obtain ⟨v,vs',rfl,h1,h2⟩:=hu.inv
  simp only [setPs,setPV]
  exact setP_rel (h.set p h1) h2
theorem qa2 (m:Nm):∀ (ps:List Tmp) (tv vs:List Value),((ps.zip (renL m vs)).foldl (fun (t:Array Value) (q:Tmp×Value)=>t.setIfInBounds q.1 q.2) ⟨renL m tv⟩)=⟨renL m (setPV tv ps vs)⟩
 | [],tv,vs=>by simp [setPV]
 | p::ps,tv,[]=>by simp [setPV,renL]
 | p::ps,tv,v::vs=>by
  simp only [renL,List.zip_cons_cons,List.foldl_cons,setPV]
  rw [← qa2 m ps (tv.set p v) vs,renL_set]
  congr 1
  simp
theorem setP1 {n:Nat} {l:List (Nat×U)} {p:Nat} {u:U} (h:Nat.blt p n=true):setPs (fr n l) [p] [u]=fr n ((p,u)::l):=q4m (d:=some p) u h
structure ItG (l:Nat) (rec:Loop) (tm0:List U) (nb:Nat) (x:Cx) (m:Nm) (w:World):Prop where
 loop:w.heap[l]? = some (.loop rec)
 def_:w.heap[rec.defers]? = some (.deferred (some []))
 bel:BelL nb tm0
 tm:∃ tv0,RelE x tm0 tv0∧∀ m',Agree x.s.nx m m'→rec.tmps=⟨renL m' tv0⟩
abbrev PG.it (P:Program) (l:Nat) (rec:Loop) (tm0:List U) (nb:Nat):PG where
 prog:=P
 nb:=nb
 G:=ItG l rec tm0 nb
 ro:=fun ro=>ro=none
 mks:=false
 st:=fun {x y m m' w w'} h hf ha hk=>by
  obtain ⟨tv0,h1,h2⟩:=h.tm
  exact ⟨q75 hf ha h.loop (by simp) (by simp),q75 hf ha h.def_ (by simp) (by simp),h.bel,tv0,hk.E h.bel h1,fun m'' hm=>h2 m'' (ha.agree.trans hm ha.nx)⟩
abbrev PG.top (P:Program):PG:=⟨P,0,fun _ _ _=>True,fun ro=>ro=none,true,fun _ _ _ _=>trivial⟩
instance {P:Program} {T:Tb} {l:Nat} {rec:Loop} {tm0:List U} {nb:Nat} [h:TbP P T]:TbI (PG.it P l rec tm0 nb) T:=⟨h.ok⟩
instance {P:Program} {T:Tb} [h:TbP P T]:TbI (PG.top P) T:=⟨h.ok⟩
theorem StepU.yield {P:Program} {l:Nat} {rec:Loop} {tm0:List U} {nb:Nat} {σ:Sg} {tm:List U} {o:Oper} {c:Call} {f:Operand} {us tmx:List U} (ho:o.op = .call c) (hcal:c.callee = .value f) (hf:evalU tm f=some (.fn (.yield l) [] [])) (hl:evalUL tm c.args.toList=some us)
  (hlen:rec.params.size=us.length) (hr:rec.state = .ready) (hp:rec.pending=none) (htm:setPs tm0 rec.params.toList us=tmx) {R':Sg→Prop}
  (hw:WPU (PG.of P) σ.nx rec.assign tmx σ (thenU (fun tm1 σ1=>WPU (PG.of P) σ.nx rec.body tm1 σ1 (fun e _ σ'=>e = .normal∧R' σ')) (fun _ _ _=>False))) :
  StepU (PG.it P l rec tm0 nb) σ tm o (fun u σ'=>u = .bool true∧R' σ'):=fun F x tv m w a next Q hxσ st hG hn ro hro=>by
 subst hxσ
 obtain ⟨g1,g2,g3,tv0,g4,g5⟩:=hG.g
 obtain ⟨v,ev,rv⟩:=q0f st.e hf
 simp only [Rel] at rv
 obtain ⟨va,vb,rfl,_,ha1,_,hb1⟩:=rv
 have hva:va=[]:=List.eq_nil_of_length_eq_zero (by simpa using ha1.symm)
 have hvb:vb=[]:=List.eq_nil_of_length_eq_zero (by simpa using hb1.symm)
 subst hva; subst hvb
 obtain ⟨vs,ea,ra⟩:=q48 st.e hl
 have e0:=q0u (st.act m (Agree.refl _ _)) ev
 have e1:=q2a (st.act m (Agree.refl _ _)) ea
 simp only [ren,renA_mk,renL] at e0
 have hvl:vs.length=us.length:=ra.2.symm
 have hsz:(⟨renL m vs⟩:Array Value).size=rec.params.size:=by rw [hlen]; simp [q1o,hvl]
 have hy:=run_yield (P:=P) (args:=⟨renL m vs⟩) g1 hsz
 have htm':(rec.params.zip (⟨renL m vs⟩:Array Value)).foldl (fun tmps (t,a)=>tmps.setIfInBounds t a) rec.tmps=⟨renL m (setPV tv0 rec.params.toList vs)⟩:=by
  rw [g5 m (Agree.refl _ _),← qa2 m rec.params.toList tv0 vs]
  cases rec.params
  simp
 rw [htm'] at hy
 have hrun:(execOp a.eval o).run P w = .ok (.round l rec.fn ⟨renL m (setPV tv0 rec.params.toList vs)⟩ rec.assign rec.body) w:=by
  obtain ⟨callee,args,ats⟩:=c
  simp only at hcal hl ea e1
  subst hcal
  simp only [execOp,ho,Sem.run_bind,resolve,e0,e1,Deferred.ofValue,Sem.run_pure,Result.andThen_ok,invoke]
  simpa using hy
 refine ⟨fun _ _=>trivial,?_⟩
 rw [Oper.semAt_eq _ _ _ (by rw [ho]; intro c hc; cases hc),show (PG.it P l rec tm0 nb).prog=P from rfl,hrun]
 refine ⟨fen_dep,roundIn_of_wpIn (n:=0) (fen_fn _) ?_⟩
 have stx:St F x tmx (setPV tv0 rec.params.toList vs) m w { tmps:=⟨renL m (setPV tv0 rec.params.toList vs)⟩,defers:=[] }:=by
  subst htm
  refine ⟨st.h,st.fr,setP_rel g4 ra,st.fits,fun m' hm'=>?_⟩
  have q1:=g5 m' hm'
  have q0:=g5 m (Agree.refl _ _)
  have e1':=q2a (st.act m' hm') ea
  rw [e1] at e1'
  have hvv:renL m vs=renL m' vs:=by simpa using e1'
  have htt:renL m tv0=renL m' tv0:=by rw [q0] at q1; simpa using q1
  show (⟨renL m (setPV tv0 rec.params.toList vs)⟩:Array Value)=_
  rw [← qa2 m,← qa2 m',hvv,htt]
 refine wpIn_mono (hw (Nat.le_refl _) F x _ m w _ 0 rfl stx ⟨Nat.zero_le _,trivial⟩ ⟨fun _=>rfl,fun h=>by cases h⟩ (some l) trivial) ?_
 rintro e a1 w1 ⟨y,tm1,tv1,m1,hq,st1,adv1,ke1,hn1,dr1⟩
 cases e with
 | normal =>
  have hl1:w1.heap[l]? = some (.loop rec):=q75 st.fits adv1 g1 (by simp) (by simp)
  refine ⟨_,run_beginRound hl1 hr,?_⟩
  refine wpIn_mono (hq hn1 F y tv1 m1 (w1.putObj l (.loop { rec with state:=.busy })) a1 0 rfl ⟨st1.h,st1.fr,st1.e,q9t st1.fits hl1 (q9y _),st1.act⟩ ⟨Nat.zero_le _,trivial⟩ ⟨fun _=>rfl,fun h=>by cases h⟩ (some l) trivial) ?_
  rintro e a2 w3 ⟨z,tm2,tv2,m2,⟨rfl,hR'⟩,st2,adv2,ke2,hn2,dr2⟩
  obtain ⟨hl3,adv3⟩:=Adv.put_back st1.fits hl1 (q9y _) (q9y _) adv2
  have hrec:({ ({ rec with state:=.busy }:Loop) with state:=.ready,pending:=none }:Loop)=rec:=by
   cases rec; simp only at hr hp; subst hr; subst hp; rfl
  refine ⟨_,_,run_endRound none hl3,?_⟩
  have hadv:=adv1.trans adv3
  have hke:=ke1.trans ke2
  have fin:next (a.put o.dst (.bool true)) (w3.putObj l (.loop rec)):=hn (.bool true) z (putT tv o.dst (.bool true)) m2 _ _ ⟨rfl,hR'⟩
   ⟨st2.h,st2.fr,q99 (hke.E st.e.bel st.e) (by simp [Rel]) _,hadv.fits,(st.act.ext hadv.agree hadv.nx).put (q2u fun _=>by simp [ren]) o.dst⟩ hadv hke hn2 (q4g _ _ _)
  rw [← hrec] at fin
  exact fin
 | _=>exact hq.elim
theorem RS.yield {P:Program} {T:Tb} {l:Nat} {rec:Loop} {tm0:List U} {nb n:Nat} {sl:List (Nat×U)} {ops r:List Oper} {o:Oper} {σ:Sg} {K:List U→Sg→Prop} {c:Call} {f:Operand} {us tmx:List U} (hw:wantedU ops (fr n sl) o=some true) (ho:o.op = .call c) (hcal:c.callee = .value f)
  (hf:evS n sl f=some (.fn (.yield l) [] [])) (hl:evSL n sl c.args.toList=some us) (hlen:rec.params.size=us.length) (hr:rec.state = .ready) (hp:rec.pending=none) (htm:setPs tm0 rec.params.toList us=tmx) {d:Tmp} (he:o.dst=some d) (hd:Nat.blt d n=true)
  (hb:WPU (PG.of P) σ.nx rec.assign tmx σ (thenU (fun tm1 σ1=>WPU (PG.of P) σ.nx rec.body tm1 σ1 (fun e _ σ'=>e = .normal∧RU (PG.it P l rec tm0 nb) T ops r (fr n ((d,.bool true)::sl)) σ' K)) (fun _ _ _=>False))) :
  RU (PG.it P l rec tm0 nb) T ops (o::r) (fr n sl) σ K :=
 .inr (.inr (.inr (.inr ⟨hw,_,StepU.yield ho hcal (q2j hf) (evL_fr hl) hlen hr hp htm hb,fun u σ' h=>by rw [h.1,he,q4m (d:=some d) _ hd]; exact h.2⟩)))
theorem WPU.range {C:PG} {T:Tb} (hT:TbOk C.prog T) {n0:Nat} {Q:Exit→List U→Sg→Prop} {tm:List U} {σ:Sg} {g:Operand} {ps:Array Tmp} {assign body:Code} {gf:FuncId} {fnG:Func} {cG:Code} {lb:List U} (hmk:C.mks=true) (hro:∀ ro,C.ro ro→ro=none)
  (hg:evalU tm g=some (.fn (.func gf) [] lb)) (hf:T.fn gf=some fnG) (hb:fnG.body=some cG) (hres:fnG.results.toList=[])
  (h:∀ (l fn:Nat) (tmps:Array Value) (D:Nat),WPU (PG.it C.prog l ⟨.ready,none,fn,tmps,ps,assign,body,D⟩ tm σ.nx) σ.nx cG (padU fnG.ntmps (.fn (.yield l) [] []::lb)) σ (fun e _ σ'=>(e = .normal∨e = .ret)∧Q .normal tm σ')) :
  WPU C n0 (.rangeFunc g ps assign body) tm σ Q:=fun hn F x tv m w a b0 hx st hG hd ro hro'=>by
 subst hx
 have:=hro ro hro'
 subst this
 refine wpIn_rangeFunc ?_
 intro fn _
 obtain ⟨v,ev,rv⟩:=q0f st.e hg
 simp only [Rel] at rv
 obtain ⟨va,vb,rfl,_,ha1,hvb,hb1⟩:=rv
 have hva:va=[]:=List.eq_nil_of_length_eq_zero (by simpa using ha1.symm)
 subst hva
 have e0:=q0u (st.act m (Agree.refl _ _)) ev
 simp only [ren,renA_mk,renL] at e0
 obtain ⟨hf0,hname⟩:=hT.fn gf fnG hf
 obtain ⟨W1,hW1⟩:∃ W1,(w.alloc (.deferred (some []))).alloc (.loop { state:=.ready,pending:=none,fn,tmps:=a.tmps,params:=ps,assign,body,defers:=w.heap.size })=W1:=⟨_,rfl⟩
 have hg1:=Adv.grow st.fits (.deferred (some []))
 have hg2:=Adv.grow hg1.fits (.loop { state:=.ready,pending:=none,fn,tmps:=a.tmps,params:=ps,assign,body,defers:=w.heap.size })
 rw [hW1] at hg2
 have hgw:=hg1.trans hg2
 have hL1:W1.heap[w.heap.size+1]? = some (.loop { state:=.ready,pending:=none,fn,tmps:=a.tmps,params:=ps,assign,body,defers:=w.heap.size }):=by
  rw [← hW1]; have:=World.alloc_heap_new (w.alloc (.deferred (some []))) (.loop { state:=.ready,pending:=none,fn,tmps:=a.tmps,params:=ps,assign,body,defers:=w.heap.size }); rwa [World.size_alloc] at this
 have hK1:W1.heap[w.heap.size]? = some (.deferred (some [])):=by
  rw [← hW1]; exact (Go.RowKit.Below.heap_alloc _ _ _ (by simp)).trans (World.alloc_heap_new w _)
 have hnb:fnG.body.isNone=false:=by rw [hb]; rfl
 refine ⟨w.heap.size+1,[{ target:=.collected w.heap.size,args:=#[] }],W1,{ target:=.fn (.func gf) ⟨renL m vb⟩,args:=#[.func (.yield (w.heap.size+1)) #[] #[]] },W1,gf,
  #[.func (.yield (w.heap.size+1)) #[] #[]]++⟨renL m vb⟩,W1,?_,?_,fun _ _=>trivial,?_,fen_dep,?_⟩
 ·rw [← hW1]; exact run_enterLoop_outer _ _ _ _ _
 ·simp only [resolve,e0]
  simp [go_sem]
 ·simp only [invoke,callFunc,Sem.run_bind,run_program,hf0,hname (by rw [hb]; rfl),hnb,Bool.false_eq_true,if_false,Result.andThen_ok]
  simp [go_sem]
 ·refine callsIn_of_wp hf0 hb trivial ?_ rfl
  have hE:RelE x (U.fn (.yield (w.heap.size+1)) [] []::lb) (Value.func (.yield (w.heap.size+1)) #[] #[]::vb):=RelE.cons (by simp only [Rel]; exact ⟨[],[],rfl,by simp [RelP],rfl,by simp [RelP],rfl⟩) ⟨hvb,hb1⟩
  have hact:ActR m x.s.nx (pad fnG.ntmps (Value.func (.yield (w.heap.size+1)) #[] #[]::vb)) { tmps:=(#[Value.func (.yield (w.heap.size+1)) #[] #[]]++(⟨renL m vb⟩:Array Value))++Array.replicate (fnG.ntmps - (#[Value.func (.yield (w.heap.size+1)) #[] #[]]++(⟨renL m vb⟩:Array Value)).size) undef,defers:=[] }:=fun m' hm'=>by
   have e0':=q0u (st.act m' hm') ev
   simp only [ren,renA_mk,renL] at e0'
   rw [e0] at e0'
   have hvv:renL m vb=renL m' vb:=by simpa using e0'
   simp only [pad_eq,q2r,renL,ren,hvv]
   apply Array.ext'
   simp [q1o,ren,undef,renA]
  have hit:ItG (w.heap.size+1) { state:=.ready,pending:=none,fn,tmps:=a.tmps,params:=ps,assign,body,defers:=w.heap.size } tm x.σ.nx x m W1:=⟨hL1,hK1,st.e.bel,tv,st.e,st.act⟩
  refine wpIn_mono (h (w.heap.size+1) fn a.tmps w.heap.size (Nat.le_refl _) F x _ m W1 _ 0 rfl ⟨st.h,st.fr,qaz _ hE,hgw.fits,hact⟩ ⟨Nat.le_refl _,hit⟩ ⟨fun _=>rfl,fun h=>by cases h⟩ none rfl) ?_
  rintro e a' w' ⟨y,tm',tv',m',⟨hex,hQ⟩,st',adv,ke,hn',dr⟩
  have hdf:a'.defers=[]:=dr.eq rfl
  have hl':=q75 hgw.fits adv hL1 (by simp) (by simp)
  have hk':=q75 hgw.fits adv hK1 (by simp) (by simp)
  have hres':resX T tv' y.s fnG.results.toList=some []:=by rw [hres]; rfl
  have hrr:=q9c hT (st'.fits m' (Agree.refl _ _)) hres'
  rw [← st'.act m' (Agree.refl _ _)] at hrr
  have hA:Adv m x.s w m' y.s (w'.putObj (w.heap.size+1) (.loop { state:=.exhausted,pending:=none,fn,tmps:=a.tmps,params:=ps,assign,body,defers:=w.heap.size })):=Adv.put_new (hgw.trans adv) (by omega) hl' (q9y _)
  have hpost:rangePost (fenR none) 0 C.prog (w.heap.size+1) (PostU C n0 F x m w a.defers b0 Q) { a with defers:=[{ target:=.collected w.heap.size,args:=#[] }]++a.defers } (.returned (ren m' (oneX []))) w':=by
   refine ⟨none,_,run_endLoop hl' (by simp),y,tm,tv,m',hQ,⟨st'.h,st'.fr,ke.E st.e.bel st.e,hA.fits,st.act.ext hA.agree hA.nx⟩,hA,ke.le hn,by omega,⟨fun hk=>(by rw [hmk] at hk; cases hk),fun _=>?_⟩⟩
   obtain ⟨d0,bs,d1,d2,d3⟩:=hd.ok hmk
   refine ⟨Nat.le_trans d0 hA.size,w.heap.size::bs,List.nodup_cons.2 ⟨fun hm=>?_,d1⟩,by rw [d2]; rfl,fun b hb=>?_⟩
   ·have:=(Array.getElem?_eq_some_iff.1 (d3 _ hm).2).1; omega
   ·rcases List.mem_cons.1 hb with rfl | hb
    ·exact ⟨d0,by rw [World.putObj_heap_other (by omega)]; exact hk'⟩
    ·exact ⟨(d3 b hb).1,q75 st.fits hA (d3 b hb).2 (by simp) (by simp)⟩
  have hfin:bodyPost C.prog fnG (rangePost (fenR none) 0 C.prog (w.heap.size+1) (PostU C n0 F x m w a.defers b0 Q) { a with defers:=[{ target:=.collected w.heap.size,args:=#[] }]++a.defers }) .ret a' w':=⟨hdf,_,hrr,hpost⟩
  rcases hex with rfl | rfl
  ·exact hfin
  ·exact hfin
theorem leaves_ok {P:Program} {fn:Func} {tmps:Array Value} {R:Ending→World→Prop} {b0:Nat} {m:Nm} {s:S} {w0:World} {m':Nm} {s':S} (hb0:w0.heap.size≤b0) (hfin:∀ w',Adv m s w0 m' s' w'→∃ v,(results fn tmps).run P w' = .ok v w'∧R (.returned v) w') :
  ∀ (bs:List Nat) (w':World),bs.Nodup→(∀ b∈bs,b0≤b∧w'.heap[b]? = some (.deferred (some [])))→Adv m s w0 m' s' w'→LeavesInM Fence.wide 0 P fn tmps R (bs.map fun b=>{ target:=.collected b,args:=#[] }) .returning w'
 | [],w',_,_,h=>hfin w' h
 | b::bs,w',hnd,hb,h=>by
  rw [List.nodup_cons] at hnd
  have h1:=hb b (by simp)
  refine ⟨by simp,.inl ⟨b,_,rfl,run_takeDeferred h1.2,?_⟩⟩
  refine leaves_ok hb0 hfin bs _ hnd.2 (fun c hc=>⟨(hb c (by simp [hc])).1,?_⟩) (Adv.put_new h (by omega) h1.2 ⟨by simp,by simp⟩)
  rw [World.putObj_heap_other (fun e=>hnd.1 (by rw [← e]; exact hc))]
  exact (hb c (by simp [hc])).2
theorem EvU.of_bodyM {P:Program} {T:Tb} (hT:TbOk P T) {f:FuncId} {fn:Func} {c:Code} {args:List U} {σ:Sg} {R:U→Sg→Prop} (hf:T.fn f=some fn) (hb:fn.body=some c)
  (h:WPU (PG.top P) σ.nx c (padU fn.ntmps args) σ fun e tm' σ'=>(e = .normal∨e = .ret)∧∃ l,resU T σ' tm' fn.results.toList=some l∧∃ u' σ'',σ.nx≤σ''.nx∧Gh σ.nx [oneU l] σ' [u'] σ''∧R u' σ''):EvU P f args σ R:=fun F x vs m w cargs hx hh hfr he hfit hargs=>by
 obtain ⟨hf0,_⟩:=hT.fn f fn hf
 have hcl:cargs.length=vs.length:=by rw [← hargs.at]; simp
 refine (callsIn_wide (n:=0)).1 (callsIn_of_wp_marks hf0 hb trivial ?_ rfl)
 have hact:ActR m x.s.nx (pad fn.ntmps vs) { tmps:=cargs.toArray++Array.replicate (fn.ntmps - cargs.toArray.size) undef,defers:=[] }:=fun m' hm'=>by
  simp only [pad_eq,q2r,hargs m' hm',hcl,List.size_toArray]
  apply Array.ext'
  simp [q1o,ren,undef]
 refine wpIn_mono (h (Nat.le_refl _) F x _ m w _ w.heap.size hx ⟨hh,hfr,qaz _ he,hfit,hact⟩ ⟨Nat.zero_le _,trivial⟩ ⟨fun _=>rfl,fun _=>⟨Nat.le_refl _,[],List.nodup_nil,rfl,fun b hb=>by cases hb⟩⟩ none rfl) ?_
 rintro e a' w' ⟨y,tm',tv',m',⟨hex,l,hres,u',σ'',hnx,hgh,hR⟩,st',hadv,hke,hn,hdf⟩
 obtain ⟨ls,hres',hrl⟩:=res_sim st'.h st'.e hres
 obtain ⟨z,z1,z2,z3,z4,z5,z6⟩:=hgh F y [oneX ls] rfl st'.h st'.fr (RelE.cons (one_sim hrl) (RelE.nil y))
 obtain ⟨v0,vs0,e0,z7,_⟩:=z5.inv
 cases e0
 obtain ⟨_,bs,d1,d2,d3⟩:=hdf.ok rfl
 have hfin:∀ w2,Adv m x.s w m' y.s w2→∃ v,(results fn a'.tmps).run P w2 = .ok v w2∧∃ y m₁ u v0 cv,(Ending.returned v) = .returned cv∧R u y.σ∧Adv m x.s w m₁ y.s w2∧RelS m₁ y.s.nx v0 cv∧HRel y∧Fr F y∧Rel y u v0∧Ke x.σ.nx x y∧x.σ.nx≤y.σ.nx:=fun w2 hA=>by
  have hrun:∀ m'',Agree y.s.nx m' m''→(results fn a'.tmps).run P w2 = .ok (ren m'' (oneX ls)) w2:=fun m'' hm''=>by
   rw [st'.act m'' hm'']
   exact q9c hT (hA.fits m'' hm'') hres'
  have hrel:RelS m' y.s.nx (oneX ls) (ren m' (oneX ls)):=fun m'' hm''=>by
   have e1:=hrun m'' hm''
   rw [hrun m' (Agree.refl _ _)] at e1
   simp at e1
   exact e1.symm
  have hadv2:=z1 m' w2 hA.fits
  exact ⟨_,hrun m' (Agree.refl _ _),z,m',u',oneX ls,_,rfl,z2 ▸ hR,hA.trans hadv2,hrel.ext (Agree.refl _ _) hadv2.nx,z3,z4,z7,hx ▸ hke.trans z6,by rw [hx,z2]; exact hnx⟩
 have hl:=leaves_ok (P:=P) (fn:=fn) (tmps:=a'.tmps) (R:=fun e w₁=>∃ y m₁ u v cv,e = .returned cv∧R u y.σ∧Adv m x.s w m₁ y.s w₁∧RelS m₁ y.s.nx v cv∧HRel y∧Fr F y∧Rel y u v∧Ke x.σ.nx x y∧x.σ.nx≤y.σ.nx) (Nat.le_refl _) hfin bs w' d1 d3 hadv
 rw [← d2] at hl
 rcases hex with rfl | rfl
 ·exact hl
 ·exact hl
end Go.Vx
end
section
namespace Go.Vx
open Go Go.Rx
set_option linter.unusedVariables false
theorem seg_spec {q p:List U} {a n:Nat} (h:segU q a n=some p):a+n≤q.length∧(q.drop a).take n=p:=by
 unfold segU at h
 split at h
 ·rename_i hj; exact ⟨hj,Option.some.inj h⟩
 ·cases h
theorem nth_in {q p:List U} {a sz fo:Nat} {u:U} (h:segU q a sz=some p) (h2:nth p fo=some u):nth q (a+fo)=some u:=by
 obtain ⟨h1,rfl⟩:=seg_spec h
 rw [q1w] at h2 ⊢
 have hl:=(List.getElem?_eq_some_iff.1 h2).1
 rw [List.length_take] at hl
 rw [List.getElem?_take_of_lt (by omega),List.getElem?_drop] at h2
 exact h2
theorem put_in {q p p' cs:List U} {a sz fo:Nat} (h:segU q a sz=some p) (h2:putU p fo cs=some p'):putU q (a+fo) cs=putU q a p':=by
 obtain ⟨h1,rfl⟩:=seg_spec h
 unfold putU at h2
 split at h2
 ·rename_i hj
  have hp:=Option.some.inj h2
  rw [List.length_take,List.length_drop] at hj
  have hl:p'.length=sz:=by
   rw [← hp]; simp; omega
  unfold putU
  rw [if_pos (by omega),if_pos (by omega),← hp]
  congr 1
  have e1:List.take fo (List.take sz (List.drop a q))=List.take fo (List.drop a q):=by rw [List.take_take,Nat.min_eq_left (by omega)]
  have e2:List.take (a+fo) q=List.take a q++List.take fo (List.drop a q):=List.take_add
  have e3:List.drop (a+fo+cs.length) q=List.drop (fo+cs.length) (List.take sz (List.drop a q))++List.drop (a+sz) q:=by
   have:List.drop a q=List.take sz (List.drop a q)++List.drop (a+sz) q:=by rw [← List.drop_drop,List.take_append_drop]
   rw [Nat.add_assoc,← List.drop_drop]
   conv=>lhs; rw [this]
   rw [List.drop_append_of_le_length (by rw [List.length_take,List.length_drop]; omega)]
  rw [e1,e2,e3]
  simp [List.append_assoc,hl]
  omega
 ·cases h2
section
variable {T:Tb} {σ σ':Sg} {n:Nat} {l:List (Nat×U)} {u v w:U}
theorem ld_vf {α:Type} (c:α→List U) {t e':TypeId} {d:TypeDesc} {sz K st off m fo:Nat} {xs:List α} {i:Int} {x:α} {o:Operand} (hd:T.und t=some d) (ha:isAggD d=false) (hc:∀ x,(c x).length=sz) (ho:evS n l o=some (.ptr K st (off*sz+i.toNat*sz+fo))) (hv:gt σ.h K=some (.vec (xs.map c).flatten e' sz st)) (hx:idxV xs off m i=some x) (hu:nth (c x) fo=some u):opU T σ (fr n l) (.load t o)=some (u,σ):=by
 refine op_r rfl ?_
 have hb:Nat.beq st st=true:=by simp [beq_eq]
 have hg:=flat_at hc (q7f hx).2.2
 rw [Nat.add_mul] at hg
 simp only [readU,q2j ho,cellsOf,hv,hb,cond_true,loadU,hd,ha,cond_false,nth_in hg hu]
theorem st_vf {α:Type} (c:α→List U) {t e':TypeId} {sz s K st off m fo:Nat} {xs:List α} {i:Int} {x y:α} {o z:Operand} {cs:List U} {h':List (Nat×B)} (hs:sizeX T t=some s) (hc:∀ x,(c x).length=sz) (ho:evS n l o=some (.ptr K st (off*sz+i.toNat*sz+fo))) (hz:evS n l z=some v) (hcs:cellsO v=some cs) (hk:okL cs=true) (hl:Nat.beq cs.length s=true) (hv:gt σ.h K=some (.vec (xs.map c).flatten e' sz st)) (hx:idxV xs off m i=some x) (hy:putU (c x) fo (wkZ cs)=some (c y)) (hσ:ug σ.h K (.vec ((xs.set (off+i.toNat) y).map c).flatten e' sz st)=h'):opU T σ (fr n l) (.store t o z)=some (.junk,⟨h',σ.nx⟩):=by
 subst hσ
 have hb:Nat.beq st st=true:=by simp
 have hj:=(List.getElem?_eq_some_iff.1 (q7f hx).2.2).1
 have hg:=flat_at hc (q7f hx).2.2
 have hp:=put_in hg hy
 rw [flat_put hc hj y,Nat.add_mul] at hp
 exact op_e rfl rfl (by simp only [effU,q2j ho,q2j hz,storeU,hs,hcs,hl,hk,cond_true,cellsOf,hv,hb,wkB,hp,putOf])
end
theorem qar {σ:Sg} {k t e sz:Nat} {l:List U} (h:gt σ.h k=some (.vec l e sz t)):live σ k t=true:=by
 simp only [live,h,B.st,beq_eq,decide_true]
theorem fz_mE {A V:Type} (K:Nat) (b:B) (sz:Nat) (kU:A→U) (vU:V→U) [p:BFU vU] (es:List (A×V×Nat)) :
  (es.map (mE kU vU)).map (fun e=>{ e with val:=fz K b sz e.val })=es.map (mE kU vU):=by
 rw [List.map_map]
 refine List.map_congr_left fun e _=>?_
 simp only [Function.comp,mE,fz_bel b sz _ (p.h K e.2.1)]
end Go.Vx
end
section
namespace Go.Vx
open Go Go.Rx
set_option linter.unusedVariables false
def SubH (σ τ:Sg):Prop:=∀ k b,gt σ.h k=some b→gt τ.h k=some b
section
variable {σ τ:Sg} (hs:SubH σ τ)
include hs
theorem q72 {k st:Nat} (h:live σ k st=true):live τ k st=true:=by
 unfold live at *
 cases hg:gt σ.h k with
 | none=>rw [hg] at h; cases h
 | some b=>rw [hg] at h; rw [hs k b hg]; exact h
theorem q51 {α:Type} {k st:Nat} {X:Option α} {u:α} (h:cond (live σ k st) X none=some u):cond (live τ k st) X none=some u:=by
 cases hl:live σ k st with
 | false=>rw [hl] at h; cases h
 | true=>rw [hl] at h; rw [q72 hs hl]; exact h
theorem cellsOf_mono {k st:Nat} {l:List U} (h:cellsOf σ k st=some l):cellsOf τ k st=some l:=by
 unfold cellsOf at *
 cases hg:gt σ.h k with
 | none=>rw [hg] at h; cases h
 | some b=>rw [hg] at h; rw [hs k b hg]; exact h
theorem vecOf_mono {k st:Nat} {l:List U×TypeId×Nat} (h:vecOf σ k st=some l):vecOf τ k st=some l:=by
 unfold vecOf at *
 cases hg:gt σ.h k with
 | none=>rw [hg] at h; cases h
 | some b=>rw [hg] at h; rw [hs k b hg]; exact h
variable {T:Tb} {tm:List U}
theorem readU_mono {op:Op} {u:U} (h:readU T σ tm op=some u):readU T τ tm op=some u:=by
 cases op with
 | load t x =>
  simp only [readU] at *
  cases hx:evalU tm x with
  | none=>rw [hx] at h; exact h
  | some a =>
   rw [hx] at h
   cases a with
   | ptr k st off =>
    simp only [] at *
    cases hc:cellsOf σ k st with
    | none=>rw [hc] at h; cases h
    | some l=>rw [hc] at h; rw [cellsOf_mono hs hc]; exact h
   | _=>exact h
 | lookup t x k ok =>
  simp only [readU] at *
  cases hd:T.und t with
  | none=>rw [hd] at h; cases h
  | some d =>
   rw [hd] at h
   cases d with
   | map kt et =>
    cases hx:evalU tm x with
    | none=>rw [hx] at h; exact h
    | some a =>
     rw [hx] at h
     cases hk:evalU tm k with
     | none=>rw [hk] at h; cases h
     | some ku =>
      rw [hk] at h
      cases a with
      | map r =>
       simp only [] at *
       cases hg:gt σ.h r with
       | none =>
        rw [hg] at h
        cases hv:toV ku with
        | none=>rw [hv] at h; exact h
        | some kv =>
         rw [hv] at h
         simp only [] at h
         cases hkx:keyX T 50 kt kv<;>rw [hkx] at h<;>cases h
       | some b=>rw [hg] at h; rw [hs r b hg]; exact h
      | _=>exact h
   | _=>exact h
 | _=>exact h
theorem there_mono {u:U} {n:Nat} (hn:n≠0) (h:there σ u=n):there τ u=n:=by
 unfold there at *
 cases u with
 | ptr k st off =>
  simp only [] at *
  cases hl:live σ k st with
  | false=>rw [hl] at h; exact absurd h.symm hn
  | true=>rw [hl] at h; rw [q72 hs hl]; exact h
 | sl k a b c =>
  simp only [] at *
  cases hl:live σ k 0 with
  | false=>rw [hl] at h; exact absurd h.symm hn
  | true=>rw [hl] at h; rw [q72 hs hl]; exact h
 | map k =>
  simp only [] at *
  cases hl:live σ k 0 with
  | false=>rw [hl] at h; exact absurd h.symm hn
  | true=>rw [hl] at h; rw [q72 hs hl]; exact h
 | vl k st off m =>
  cases m with
  | zero=>exact h
  | succ m =>
   simp only [] at *
   cases hl:live σ k st with
   | false=>rw [hl] at h; exact absurd h.symm hn
   | true=>rw [hl] at h; rw [q72 hs hl]; exact h
 | isl t l=>cases l<;>exact h
 | _=>exact h
theorem nilCmp_mono {op:BinOp} {t:TypeId} {x y u:U} (h:nilCmp T σ op t x y=some u):nilCmp T τ op t x y=some u:=by
 unfold nilCmp at *
 by_cases hk:kindT T t=0
 ·simp only [beq_eq,hk,decide_true,cond_true] at h; cases h
 ·simp only [beq_eq,hk,decide_false,cond_false] at h ⊢
  by_cases hx:there σ x=kindT T t
  ·have:=there_mono hs hk hx
   simpa [hx,this] using h
  ·by_cases hy:there σ y=kindT T t
   ·have hy':=there_mono hs hk hy
    by_cases hn:nilKind x=kindT T t
    ·have hxx:cmpB op=some u:=by simpa [hx,hy,hn] using h
     have hz:there τ x=0:=by
      cases x<;>simp [nilKind] at hn<;>first | rfl | exact absurd hn.symm hk
     have hz':¬ there τ x=kindT T t:=by rw [hz]; exact fun h=>hk h.symm
     simpa [hz',hy',hn] using hxx
    ·simp [hx,hn] at h
   ·by_cases hn:nilKind x=kindT T t
    ·simp [hx,hn,hy] at h
    ·simp [hx,hn] at h
theorem binU_mono {op:BinOp} {t:TypeId} {x y u:U} (h:binU T σ op t x y=some u):binU T τ op t x y=some u:=by
 unfold binU at *
 cases hg:g2 (binX T op t) x y with
 | some r=>rw [hg] at h; exact h
 | none=>rw [hg] at h; exact nilCmp_mono hs h
theorem fieldAtU_mono {t:TypeId} {x u:U} {f:Nat} (h:fieldAtU T σ t x f=some u):fieldAtU T τ t x f=some u:=by
 unfold fieldAtU at *
 split at h
 ·split at h
  ·split at h
   ·split at h
    ·exact q51 hs h
    ·exact h
    ·cases h
   ·cases h
  ·cases h
 ·cases h
theorem indexAtU_mono {t:TypeId} {x i u:U} (h:indexAtU T σ t x i=some u):indexAtU T τ t x i=some u:=by
 unfold indexAtU at *
 split at h
 ·split at h
  ·split at h
   ·split at h
    ·exact q51 hs h
    ·split at h
     ·rename_i hv; rw [vecOf_mono hs hv]; exact h
     ·cases h
    ·exact h
    ·cases h
   ·cases h
  ·split at h
   ·split at h
    ·exact q51 hs h
    ·exact h
    ·cases h
   ·cases h
  ·cases h
 ·cases h
theorem lenU_mono {t:TypeId} {x u:U} (h:lenU T σ t x=some u):lenU T τ t x=some u:=by
 unfold lenU at *
 split at h
 ·split at h
  ·exact h
  ·exact q51 hs h
  ·exact q51 hs h
  ·exact h
  ·cases h
 ·exact h
 ·exact h
 ·split at h
  ·exact h
  ·split at h
   ·rename_i hv; rw [hs _ _ hv]; exact h
   ·cases h
  ·cases h
 ·cases h
theorem capU_mono {t:TypeId} {x u:U} (h:capU T σ t x=some u):capU T τ t x=some u:=by
 unfold capU at *
 split at h
 ·split at h
  ·exact h
  ·exact q51 hs h
  ·cases h
 ·cases h
theorem sliceU_mono {t:TypeId} {x u:U} {a b c:Option Value} (h:sliceU T σ t x a b c=some u):sliceU T τ t x a b c=some u:=by
 unfold sliceU at *
 split at h
 ·exact h
 ·split at h
  ·split at h
   ·exact h
   ·exact q51 hs h
   ·split at h
    ·rename_i hv; rw [vecOf_mono hs hv]; exact h
    ·cases h
   ·exact h
   ·cases h
  ·cases h
 ·cases h
theorem pureU_mono {op:Op} {u:U} (h:pureU T σ tm op=some u):pureU T τ tm op=some u:=by
 cases op with
 | nilCheck x =>
  simp only [pureU] at *
  split at h
  ·exact q51 hs h
  ·exact h
  ·exact h
  ·cases h
 | binOp o t x y ty =>
  simp only [pureU] at *
  split at h
  ·exact binU_mono hs h
  ·cases h
 | slice t x lo hi mx =>
  simp only [pureU] at *
  split at h
  ·exact sliceU_mono hs h
  ·cases h
 | fieldAddr t x f =>
  simp only [pureU] at *
  split at h
  ·exact fieldAtU_mono hs h
  ·cases h
 | indexAddr t x i =>
  simp only [pureU] at *
  split at h
  ·exact indexAtU_mono hs h
  ·cases h
 | call c =>
  simp only [pureU] at *
  split at h
  ·split at h
   ·exact lenU_mono hs h
   ·cases h
  ·split at h
   ·exact capU_mono hs h
   ·cases h
  ·exact h
  ·exact h
  ·cases h
 | _=>exact h
def noEff:Op→Bool
 | .alloc _ | .box _ _ | .store _ _ _ | .buildSlice _ _ _ | .makeSlice _ _ _ | .makeMap _ _ | .mapUpdate _ _ _ _ | .insert _ _ _ _ | .mapEntry _ _ _ | .entryStore _ _ _ _=>false
 | .call c=>(match c.callee with
  | .builtin .append=>false
  | .builtin .copy=>false
  | .builtin .delete=>false
  | .builtin .clear=>false
  | _=>true)
 | _=>true
omit hs in
theorem effU_none {op:Op} (h:noEff op=true):effU T σ tm op=none:=by
 cases op<;>simp only [noEff] at h<;>first | rfl | (cases h) | skip
 case call c =>
  simp only [effU]
  split<;>simp_all
theorem look_mono {op:Op} {u:U} (hn:noEff op=true) (h:opU T σ tm op=some (u,σ)):opU T τ tm op=some (u,τ):=by
 unfold opU at *
 cases hp:pureU T σ tm op with
 | some v =>
  rw [hp] at h; simp only [Option.some.injEq,Prod.mk.injEq,and_true] at h; subst h
  rw [pureU_mono hs hp]
 | none =>
  rw [hp] at h
  cases hr:readU T σ tm op with
  | none=>rw [hr] at h; simp only [effU_none hn] at h; cases h
  | some v =>
   rw [hr] at h; simp only [Option.some.injEq,Prod.mk.injEq,and_true] at h; subst h
   have hpt:pureU T τ tm op=none:=by
    cases op<;>first | rfl | (simp [readU] at hr)
   rw [hpt,readU_mono hs hr]
end
end Go.Vx
end
section
namespace Go.Vx
open Go Go.Rx
set_option linter.unusedVariables false
theorem BelB.le {n k:Nat} (h:n≤k):(b:B)→BelB n b→BelB k b
 | .row l _,hb=>BelL.le h l hb
 | .vec l _ _ _,hb=>BelL.le h l hb
 | .map es _,hb=>fun e he=>⟨Bel.le h _ (hb e he).1,Bel.le h _ (hb e he).2⟩
def alU:Option Nat→Nat→U
 | none,k=>.ptr k 0 0
 | some n,k=>.sl k 0 n n
theorem mv_name {F:Nat→Blk→Prop} {y:Cx} {σ:Sg} {nx0 k:Nat} {l:List U} {e:TypeId} (hy:y.σ=newU σ (.row l e)) (hh:HRel y) (hf:Fr F y) (hk1:nx0≤k) (hk2:k<σ.nx) (hgk:gt σ.h k=none)
  (hlt:∀ j b,gt σ.h j=some b→j<σ.nx) (hl:BelL 0 l) (hrows:∀ j b,gt σ.h j=some b→BelB nx0 b) :
  ∃ y':Cx,y'.σ=⟨(k,.row l e)::σ.h,σ.nx⟩∧y'.s=y.s∧HRel y'∧Fr F y'∧Ke nx0 y y'∧(∀ o v,Rel y (alU o σ.nx) v→Rel y' (alU o k) v)∧(∀ o j v,j≠k→j<σ.nx→Rel y (alU o j) v→Rel y' (alU o j) v):=by
 have gy:∀ j,gt y.σ.h j=if σ.nx=j then some (.row l e) else gt σ.h j:=fun j=>by rw [hy]; simp only [newU,q1a]
 have gy':∀ j,gt ((k,B.row l e)::σ.h) j=if k=j then some (.row l e) else gt σ.h j:=fun j=>by rw [q1a]
 have old:∀ j b,gt σ.h j=some b→gt y.σ.h j=some b:=fun j b hb=>by
  have:=hlt j b hb
  rw [gy,if_neg (by omega)]; exact hb
 have hnk:∀ j b,gt σ.h j=some b→j≠k:=fun j b hb h=>by subst h; rw [hgk] at hb; cases hb
 have hmo:Mo nx0 y ⟨fun j=>if j=k then y.ρ σ.nx else y.ρ j,⟨(k,.row l e)::σ.h,σ.nx⟩,y.s⟩:=by
  refine ⟨fun j h1 h2=>⟨by simp only; omega,fun b' hb'=>?_⟩,fun _ _ _ h=>h⟩
  simp only [gy'] at hb'
  rw [if_neg (by omega)] at hb'
  exact ⟨b',old j b' hb',Nat.le_refl _,fun _=>⟨by simp only; rw [if_neg (by omega)],fun l e sz st h=>⟨l,h⟩⟩⟩
 refine ⟨⟨fun j=>if j=k then y.ρ σ.nx else y.ρ j,⟨(k,.row l e)::σ.h,σ.nx⟩,y.s⟩,rfl,rfl,⟨fun j b hb=>?_,fun j j' b b' i hb hb' h1 h2=>?_,hh.bd⟩,fun i b hF=>?_,hmo.ke,fun o v hv=>?_,fun o j v hj hjl hv=>?_⟩
 ·simp only [gy'] at hb
  by_cases hjk:k=j
  ·subst hjk
   rw [if_pos rfl] at hb
   cases hb
   refine ⟨hk2,?_⟩
   obtain ⟨_,h2⟩:=hh.ok σ.nx (.row l e) (by rw [gy,if_pos rfl])
   obtain ⟨q1,i,l',q2,q3,q4⟩:=h2
   exact ⟨q1,i,l',by simp [q2],q3,hmo.ke.E (BelL.le (Nat.zero_le _) l hl) q4⟩
  ·rw [if_neg hjk] at hb
   refine ⟨hlt j b hb,?_⟩
   exact (hh.ok j b (old j b hb)).2.monoB (hrows j b hb) hmo (by simp only; rw [if_neg (fun h=>hjk h.symm)]) fun _ _ _ h=>h
 ·have key:∀ j b,gt ((k,B.row l e)::σ.h) j=some b→∀ i,(if j=k then y.ρ σ.nx else y.ρ j)=some i→∃ j0 b0,gt y.σ.h j0=some b0∧y.ρ j0=some i∧(j=k∧j0=σ.nx∨j≠k∧j0=j∧j<σ.nx):=fun j b hb i hi=>by
   rw [gy'] at hb
   by_cases hjk:j=k
   ·rw [if_pos hjk] at hi
    exact ⟨σ.nx,.row l e,by rw [gy,if_pos rfl],hi,.inl ⟨hjk,rfl⟩⟩
   ·rw [if_neg (fun h=>hjk h.symm)] at hb
    rw [if_neg hjk] at hi
    exact ⟨j,b,old j b hb,hi,.inr ⟨hjk,rfl,hlt j b hb⟩⟩
  obtain ⟨a,ba,g1,g2,g3⟩:=key j b hb i h1
  obtain ⟨c,bc,g4,g5,g6⟩:=key j' b' hb' i h2
  have:=hh.inj a c ba bc i g1 g4 g2 g5
  omega
 ·obtain ⟨h1,h2⟩:=hf i b hF
  refine ⟨h1,fun j c hc=>?_⟩
  simp only [gy'] at hc
  by_cases hjk:j=k
  ·simp only [hjk,if_true]
   exact h2 σ.nx (.row l e) (by rw [gy,if_pos rfl])
  ·rw [if_neg (fun h=>hjk h.symm)] at hc
   simp only [hjk,if_false]
   exact h2 j c (old j c hc)
 ·cases o<;>(
   simp only [alU,Rel,Ref] at hv ⊢
   refine ⟨hv.1,hk2,fun b hb=>?_⟩
   simp only [gy',if_true] at hb
   have:=hv.2.2 b (by rw [gy,if_pos rfl]; exact hb)
   simpa using this)
 ·cases o<;>(
   simp only [alU,Rel,Ref] at hv ⊢
   refine ⟨hv.1,hjl,fun b hb=>?_⟩
   simp only [gy',if_neg (fun h:k=j=>hj h.symm)] at hb
   have:=hv.2.2 b (old j b hb)
   simpa [hj] using this)
structure Al where
 i:Nat
 k:Nat
 o:Option Nat
 l:List U
 e:TypeId
structure Loc (T:Tb) (ops:List Oper) (als:List Al) (i:Nat) (r:RecU) (K:Nat) (q q':List U) (e:TypeId):Prop where
 name:∃ al∈als,al.k=K
 row:gt r.s.h K=some (.row q e)
 out:r.s'=⟨ug r.s.h K (.row q' e),r.s.nx⟩
 dst:r.o.dst=none
 run:∀ τ:Sg,gt τ.h K=some (.row q e)→opU T τ r.tm r.o.op=some (r.u,⟨ug τ.h K (.row q' e),τ.nx⟩)
 pre:∀ al∈als,Pre ops i al.i∨(al.k≠K∧BelL al.k q')
 want:wantedU ops r.tm r.o=some true
structure ChA (P:Program) (T:Tb) (ops:List Oper) (tm₀:List U) (σb σ1:Sg) (rs:List RecU) (als:List Al):Prop where
 some:als≠[]
 names:∀ al∈als,σb.nx≤al.k∧al.k<σ1.nx
 nodup:∀ a∈als,∀ b∈als,a.k=b.k→a.i=b.i
 le:σb.nx≤σ1.nx
 at_:∀ al∈als,∃ r d,rs[al.i]? = .some r∧r.u=alU al.o al.k∧r.act=false∧r.mv=true∧(∀ σ,opU T σ r.tm r.o.op = .some (alU al.o σ.nx,newU σ (.row al.l al.e)))∧r.o.guard=none∧r.o.dst = .some d
 row:∀ al∈als,BelL 0 al.l
 all:∀ (i:Nat) (r:RecU),rs[i]? = .some r→r.act=false→r.mv=true→∃ al∈als,al.i=i
 own:∀ al∈als,gt σ1.h al.k = .some (.row al.l al.e)
 oth:∀ j,(∀ al∈als,al.k≠j)→gt σ1.h j=gt σb.h j
 acts:∀ (i:Nat) (r:RecU),rs[i]? = .some r→r.act=true→(∀ al∈als,Pre ops i al.i)∨∃ K q q' e,Loc T ops als i r K q q' e
 early:∀ (i:Nat) (r:RecU),rs[i]? = .some r→r.act=false→r.mv=false→(∀ al∈als,Pre ops i al.i)∨(Bel σb.nx r.u∧(wantedU ops r.tm r.o = .some true→opU T r.s r.tm r.o.op = .some (r.u,r.s')→noEff r.o.op=true∧opU T ⟨σb.h,σ1.nx⟩ r.tm r.o.op = .some (r.u,⟨σb.h,σ1.nx⟩)))
section
variable {P:Program} {T:Tb} (hT:TbOk P T) (ops:Array Oper) {tm₀:List U} {σb σ1:Sg} {rs:List RecU} {tm':List U} {σ':Sg} {als:List Al}
 (htr:TrU P T ops.toList tm₀ σ1 rs tm' σ') (hst:staticOk ops.toList=true) (hch:ChU T ops.toList rs) (hal:ChA P T ops.toList tm₀ σb σ1 rs als)
include htr hal
theorem factsA (hbr:∀ j b,gt σb.h j=some b→j<σb.nx∧BelB σb.nx b) {al:Al} (hm:al∈als):∀ p,p≤rs.length→(∀ (e:Nat) (q:RecU),rs[e]? = some q→q.act=true→e<p→¬ Pre ops.toList e al.i) →
  gt (uAt rs σ' p).h al.k=some (.row al.l al.e)∧(∀ j b,gt (uAt rs σ' p).h j=some b→BelB al.k b)∧(∀ j,(∀ al∈als,al.k≠j)→gt (uAt rs σ' p).h j=gt σb.h j)∧(uAt rs σ' p).nx=σ1.nx:=by
 intro p
 induction p with
 | zero =>
  intro _ _
  rw [htr.s0]
  refine ⟨hal.own al hm,fun j b hb=>?_,hal.oth,rfl⟩
  by_cases hj:∀ al∈als,al.k≠j
  ·rw [hal.oth j hj] at hb
   exact BelB.le (hal.names al hm).1 _ (hbr j b hb).2
  ·have:∃ al∈als,al.k=j:=by
    apply Classical.byContradiction
    intro hc
    exact hj fun al hm h=>hc ⟨al,hm,h⟩
   obtain ⟨al',hm',rfl⟩:=this
   rw [hal.own al' hm'] at hb
   cases hb
   exact BelL.le (Nat.zero_le _) _ (hal.row al' hm')
 | succ p ih =>
  intro hp hno
  have hr:rs[p]? = some rs[p]:=by simp [show p<rs.length by omega]
  obtain ⟨f1,f2,f3,f4⟩:=ih (by omega) fun e q h1 h2 h3=>hno e q h1 h2 (by omega)
  obtain ⟨_,g2,g3,_⟩:=htr.all p _ hr
  have e1:uAt rs σ' p=rs[p].s:=by simp [uAt,hr]
  rw [g3]
  rw [e1] at f1 f2 f3 f4
  cases ha:rs[p].act with
  | false=>rw [g2.quiet ha]; exact ⟨f1,f2,f3,f4⟩
  | true =>
   rcases hal.acts p _ hr ha with h | ⟨K,q,q',e,hL⟩
   ·exact absurd (h al hm) (hno p _ hr ha (Nat.lt_succ_self _))
   ·have hK:al.k≠K∧BelL al.k q':=by
     rcases hL.pre al hm with h | h
     ·exact absurd h (hno p _ hr ha (Nat.lt_succ_self _))
     ·exact h
    obtain ⟨alK,hmK,hkK⟩:=hL.name
    rw [hL.out]
    refine ⟨?_,fun j b hb=>?_,fun j hj=>?_,f4⟩
    ·show gt (ug rs[p].s.h K _) al.k=_
     rw [q80,if_neg fun h=>hK.1 h.symm]; exact f1
    ·simp only [q80] at hb
     by_cases hj:K=j
     ·rw [if_pos hj,hL.row] at hb
      cases hb
      exact hK.2
     ·rw [if_neg hj] at hb; exact f2 j b hb
    ·show gt (ug rs[p].s.h K _) j=_
     rw [q80,if_neg fun h=>hj alK hmK (hkK.trans h)]; exact f3 j hj
include hT hst hch
theorem anyA_ok {ro:Option Nat} {n0:Nat} (hn0:n0≤σb.nx) (hb0:BelL σb.nx tm₀) (hbr:∀ j b,gt σb.h j=some b→j<σb.nx∧BelB σb.nx b) {F:Nat→Blk→Prop} {x0:Cx} {m0:Nm} {w0:World} {E:Exit→Act→World→Prop} {df:List Deferred} (hQ:∀ y tv m w a,y.σ=σ'→St F y tm' tv m w a→Adv m0 x0.s w0 m y.s w→Ke n0 x0 y→n0≤y.σ.nx→a.defers=df→E .normal a w) :
  ∀ (fuel:Nat) (listed:Array Bool) (a:Act) (w:World) (m:Nm) (tm:List U) (tv:List Value) (x:Cx) (p:Nat),p≤rs.length→(∀ (e:Nat) (r:RecU),rs[e]? = some r→r.act=true→(listed.getD e false=true↔e<p))→listed.size=ops.size→listed.toList.count false=fuel →
   Closed ops.toList (fun k=>listed.getD k false=true)→SeesU tm₀ rs (fun k=>listed.getD k false=true) tm→(∃ al∈als,¬ listed.getD al.i false=true) →
   x.σ.nx=σ1.nx→(∀ al∈als,gt x.σ.h al.k=if listed.getD al.i false=true then gt (uAt rs σ' p).h al.k else none)→(∀ j,(∀ al∈als,al.k≠j)→gt x.σ.h j=gt σb.h j) →
   St F x tm tv m w a→Adv m0 x0.s w0 m x.s w→Ke n0 x0 x→a.defers=df →
   wpAnyIn (fenR ro) 0 P .any ops E fuel listed a w:=by
 have hn:rs.length=ops.size:=by simpa using htr.len
 intro fuel
 induction fuel with
 | zero =>
  intro listed a w m tm tv x p hp hacts hsz hcnt hcl hsees hun hnx hrow hoth hstt hadv hke hdf
  exfalso
  obtain ⟨al,hm,hu⟩:=hun
  obtain ⟨r,d,h1,_⟩:=hal.at_ al hm
  have hlt:=(List.getElem?_eq_some_iff.1 h1).1
  have hk':al.i<listed.size:=by omega
  have:listed[al.i]≠false:=fun hf=>by
   have hm:false∈listed.toList:=by rw [← hf]; simp
   have:=List.count_pos_iff.2 hm
   omega
  have this':listed[al.i]=true:=by simpa using this
  exact hu (by simp [Array.getD,hk',this'])
 | succ fuel ih =>
  intro listed a w m tm tv x p hp hacts hsz hcnt hcl hsees hun hnx hrow hoth hstt hadv hke hdf
  have mem_ready:∀ i,i∈Region.ready .any ops listed↔i<ops.size∧listed.getD i true=false∧∃ o,ops[i]? = some o∧∀ e∈o.after.toList,Region.binds .any e=true→listed.getD e.on false=true:=by
   intro i
   unfold Region.ready
   rw [List.mem_filter,List.mem_range]
   refine and_congr_right fun hi=>?_
   have ho:ops[i]? = some ops[i]:=by simp [hi]
   simp only [ho,Option.map_some,Option.getD_some,Bool.and_eq_true,Bool.not_eq_true',Array.all_eq_true_iff_forall_mem,Bool.or_eq_true]
   refine and_congr_right fun _=>?_
   constructor
   ·intro h
    refine ⟨_,rfl,fun e he hb=>?_⟩
    rcases h e (by simpa using he) with h1 | h1
    ·simp [hb] at h1
    ·exact h1
   ·rintro ⟨o,ho',h⟩ e he
    cases ho'
    cases hb:Region.binds .any e with
    | false=>exact .inl rfl
    | true=>exact .inr (h e (by simpa using he) hb)
  refine ⟨fun hnil=>?_,fun i hi=>?_⟩
  ·exfalso
   have hex:∃ i,i<ops.size∧listed.getD i true=false:=by
    have hpos:0<listed.toList.count false:=by omega
    obtain ⟨i,hi,e⟩:=List.mem_iff_getElem.1 (List.count_pos_iff.1 hpos)
    simp at hi
    refine ⟨i,by omega,?_⟩
    simp only [Array.getElem_toList] at e
    simp [Array.getD,hi,e]
   have hmin:∀ n,n<ops.size→listed.getD n true=false→False:=by
    intro n
    induction n using Nat.strongRecOn with
    | _ n ihn =>
     intro hn1 hn2
     have:n∈Region.ready .any ops listed:=(mem_ready n).2 ⟨hn1,hn2,ops[n],by simp [hn1],fun e he hb=>by
      have hlt:=st_lt hst (i:=n) (o:=ops[n]) (by simp [hn1]) e he hb
      have hk':e.on<listed.size:=by omega
      cases hv:listed[e.on] with
      | true=>simp [Array.getD,hk',hv]
      | false=>exact (ihn e.on hlt (by omega) (by simp [Array.getD,hk',hv])).elim⟩
     rw [hnil] at this
     cases this
   obtain ⟨i,h1,h2⟩:=hex
   exact hmin i h1 h2
  ·obtain ⟨hilt,hil,o,ho,hedges⟩:=(mem_ready i).1 hi
   have hisz:i<listed.size:=by omega
   have hLi:¬ listed.getD i false=true:=by
    simp [Array.getD,hisz] at hil ⊢
    exact hil
   have hol:ops.toList[i]? = some o:=by simpa using ho
   obtain ⟨r,hr,hro⟩:=rsu_at ops htr hol
   subst hro
   have hrd:∀ q,ops.toList[i]? = some q→∀ e∈q.after.toList,Region.binds .any e=true→listed.getD e.on false=true:=fun q hq=>by
    rw [hol] at hq; cases hq; exact hedges
   have hlooks:=qb5 ops htr hst hcl hsees hr hLi hrd
   obtain ⟨_,hgood,hs1,_⟩:=htr.all i r hr
   have hget:∀ k,((listed.setIfInBounds i true).getD k false=true)↔(listed.getD k false=true∨k=i):=fun k=>by
    by_cases hk:k=i
    ·subst hk; simp [Array.getD,hisz]
    ·by_cases hks:k<listed.size
     ·simp [Array.getD,hks,hk,Ne.symm hk]
     ·simp [Array.getD,hks,hk]
   have hcl':Closed ops.toList (fun k=>(listed.setIfInBounds i true).getD k false=true):=fun k q hk hq e he hb=>by
    refine (hget e.on).2 (.inl ?_)
    rcases (hget k).1 hk with hk | rfl
    ·exact hcl k q hk hq e he hb
    ·exact hrd q hq e he hb
   have hsees':SeesU tm₀ rs (fun k=>(listed.setIfInBounds i true).getD k false=true) (putW tm r.o.dst r.u):=by
    have:=qb6 ops htr hst hsees hr
    exact ⟨this.len,fun k q d a b c hL=>this.yes k q d a b c ((hget k).1 hL),fun k q d a b hL=>this.no k q d a b fun x=>hL ((hget k).2 x),this.other⟩
   have hcnt':(listed.setIfInBounds i true).toList.count false=fuel:=by
    have hv:listed[i]=false:=by simpa [Array.getD,hisz] using hil
    rw [Array.toList_setIfInBounds,List.count_set (by simpa using hisz)]
    have hc2:Array.count false listed=fuel+1:=by simpa using hcnt
    simp [hv]
    omega
   obtain ⟨hopc,hwc⟩:=looksU hlooks
   have notall:¬ (∀ al∈als,Pre ops.toList i al.i):=fun h=>by
    obtain ⟨al,hm,hu⟩:=hun
    exact hu (q55 hst hcl hrd (h al hm))
   by_cases hact:r.act=true
   ·rcases hal.acts i r hr hact with h | ⟨K,q,q',e,hL⟩
    ·exact absurd h notall
    ·obtain ⟨alK,hmK,hkK⟩:=hL.name
     have hpi:p≤i:=by
      rcases Nat.lt_or_ge i p with h | h
      ·exact absurd ((hacts i r hr hact).2 h) hLi
      ·exact h
     have hil':i<rs.length:=(List.getElem?_eq_some_iff.1 hr).1
     have hbetween:∀ (e:Nat) (q:RecU),p≤e→e<i→rs[e]? = some q→q.act=false:=fun e q h1 h2 h3=>by
      cases hb:q.act with
      | false=>rfl
      | true =>
       have:=q55 hst hcl hrd (hch.acts i e r q hr h3 hact hb h2)
       have:=(hacts e q h3 hb).1 this
       omega
     have hsi:uAt rs σ' i=r.s:=by simp [uAt,hr]
     have hps:uAt rs σ' p=r.s:=(q6q ops htr hpi (by omega) hbetween).trans hsi
     have hKl:listed.getD alK.i false=true:=by
      rcases hL.pre alK hmK with h | h
      ·exact q55 hst hcl hrd h
      ·exact absurd hkK h.1
     have hgK:gt x.σ.h K=some (.row q e):=by
      have:=hrow alK hmK
      rw [if_pos hKl,hkK,hps,hL.row] at this
      exact this
     have hop':opU T x.σ tm r.o.op=some (r.u,⟨ug x.σ.h K (.row q' e),x.σ.nx⟩):=by rw [q69 hopc]; exact hL.run _ hgK
     unfold wpOpIn
     simp only [ho]
     rw [q8u (hstt.act m (Agree.refl _ _)) ops r.o,q2p hstt.e (hwc.trans hL.want)]
     simp only [if_true]
     refine q5c (qaw hop') (hstt.op hT r.o hop' fun y tv' m₁ w₁ a₁ e1 st' hadv' hke' hnx' hdf'=>?_)
     have hge:∀ al∈als,((listed.setIfInBounds i true).getD al.i false=true)↔listed.getD al.i false=true:=fun al hm=>by
      have:al.i≠i:=fun h=>by
       obtain ⟨q,d,q1,_,q3,_⟩:=hal.at_ al hm
       rw [h,hr] at q1; cases q1; rw [hact] at q3; cases q3
      rw [hget]; simp [this]
     refine ih _ _ _ m₁ _ tv' y (i+1) (by omega) (fun e' q1 hq hqk=>?_) (by simpa using hsz) hcnt' hcl' hsees' ?_ (by rw [e1]; exact hnx) (fun al hm=>?_) (fun j hj=>?_) st' (hadv.trans hadv') (hke.trans (hke'.le (by rw [hnx]; have:=hal.le; omega))) (hdf'.trans hdf)
     ·rw [hget]
      by_cases hei:e'=i
      ·subst hei; simp
      ·simp only [hei,or_false]
       constructor
       ·intro hLe
        have:=(hacts e' q1 hq hqk).1 hLe
        omega
       ·intro hlt
        exact q55 hst hcl hrd (hch.acts i e' r q1 hr hq hact hqk (by omega))
     ·obtain ⟨al,hm,hu⟩:=hun
      exact ⟨al,hm,fun h=>hu ((hge al hm).1 h)⟩
     ·rw [e1,hs1,hL.out]
      by_cases hl:listed.getD al.i false=true
      ·rw [if_pos ((hge al hm).2 hl)]
       show gt (ug x.σ.h K _) al.k=gt (ug r.s.h K _) al.k
       rw [q80,q80,hgK,hL.row,hrow al hm,if_pos hl,hps]
      ·rw [if_neg (fun h=>hl ((hge al hm).1 h))]
       show gt (ug x.σ.h K _) al.k=_
       rw [q80]
       have hne:K≠al.k:=fun h=>by
        have:=hal.nodup alK hmK al hm (hkK.trans h)
        rw [← this] at hl
        exact hl hKl
       rw [if_neg hne,hrow al hm,if_neg hl]
     ·rw [e1]
      show gt (ug x.σ.h K _) j=_
      rw [q80,if_neg (fun h=>hj alK hmK (hkK.trans h)),hoth j hj]
   have noact:r.act=false:=by simpa using hact
   have hacts':∀ (e:Nat) (q:RecU),rs[e]? = some q→q.act=true→((listed.setIfInBounds i true).getD e false=true↔e<p):=fun e q hq hqk=>by
    rw [hget]
    by_cases hei:e=i
    ·subst hei; rw [hr] at hq; cases hq; rw [noact] at hqk; cases hqk
    ·simp only [hei,or_false]; exact hacts e q hq hqk
   have stay:r.mv=false→∀ y tv' m₁ w₁ a₁,y.σ=x.σ→St F y (putW tm r.o.dst r.u) tv' m₁ w₁ a₁→Adv m0 x0.s w0 m₁ y.s w₁→Ke n0 x0 y→a₁.defers=df→wpAnyIn (fenR ro) 0 P .any ops E fuel (listed.setIfInBounds i true) a₁ w₁:=fun hmv y tv' m₁ w₁ a₁ h1 h2 h3 h4 h6=>by
    have hne:∀ al∈als,al.i≠i:=fun al hm h=>by
     obtain ⟨q,d,q1,_,_,q2,_⟩:=hal.at_ al hm
     rw [h,hr] at q1; cases q1; rw [hmv] at q2; cases q2
    have hge:∀ al∈als,((listed.setIfInBounds i true).getD al.i false=true)↔listed.getD al.i false=true:=fun al hm=>by
     rw [hget]; simp [hne al hm]
    refine ih _ _ _ m₁ _ tv' y p hp hacts' (by simpa using hsz) hcnt' hcl' hsees' ?_ (by rw [h1]; exact hnx) (fun al hm=>?_) (by rw [h1]; exact hoth) h2 h3 h4 h6
    ·obtain ⟨al,hm,hu⟩:=hun
     exact ⟨al,hm,fun h=>hu ((hge al hm).1 h)⟩
    ·rw [h1,hrow al hm]
     by_cases hL:listed.getD al.i false=true
     ·rw [if_pos hL,if_pos ((hge al hm).2 hL)]
     ·rw [if_neg hL,if_neg fun h=>hL ((hge al hm).1 h)]
   have hsub:SubH ⟨σb.h,σ1.nx⟩ x.σ:=fun k b hb=>by
    rw [hoth k fun al hm h=>?_]
    ·exact hb
    ·have:=(hbr k b hb).1
     have:=(hal.names al hm).1
     omega
   unfold wpOpIn
   simp only [ho]
   rw [q8u (hstt.act m (Agree.refl _ _)) ops r.o]
   cases hmv:r.mv with
   | true =>
    obtain ⟨al,hm,hi'⟩:=hal.all i r hr noact hmv
    obtain ⟨q,d,q1,q2,q3,q4,q5,q6,q7⟩:=hal.at_ al hm
    rw [hi',hr] at q1; cases q1
    have r2:=hal.row al hm
    have hw:wantedU ops.toList tm r.o=some true:=by unfold wantedU; rw [q6]
    rw [q2p hstt.e hw]
    simp only [if_true]
    have hop':opU T x.σ tm r.o.op=some (alU al.o x.σ.nx,newU x.σ (.row al.l al.e)):=by rw [q69 hopc]; exact q5 _
    refine q5c (qaw hop') (hstt.op hT r.o hop' fun y tv' m₁ w₁ a₁ e1 st' hadv' hke' hnx' hdf'=>?_)
    have hnoact:∀ (e:Nat) (q:RecU),rs[e]? = some q→q.act=true→e<p→¬ Pre ops.toList e al.i:=fun e q h1 h2 h3 h4=>by
     have:=q5l hst hcl e al.i ((hacts e q h1 h2).2 h3) h4
     simp only [hi'] at this
     exact hLi this
    obtain ⟨F1,F2,F3,F4⟩:=factsA ops htr hal hbr hm p hp hnoact
    have hrows:∀ j b,gt x.σ.h j=some b→BelB al.k b:=fun j b hb=>by
     by_cases hj:∀ al∈als,al.k≠j
     ·rw [hoth j hj,← F3 j hj] at hb; exact F2 j b hb
     ·have:∃ al∈als,al.k=j:=by
       apply Classical.byContradiction
       intro hc
       exact hj fun al hm h=>hc ⟨al,hm,h⟩
      obtain ⟨al',hm',rfl⟩:=this
      rw [hrow al' hm'] at hb
      split at hb
      ·exact F2 _ b hb
      ·cases hb
    have hgk:gt x.σ.h al.k=none:=by rw [hrow al hm,if_neg (by rw [hi']; exact hLi)]
    obtain ⟨y',z1,z2,z3,z4,z5,z6,z7⟩:=mv_name (F:=F) (nx0:=al.k) (k:=al.k) e1 st'.h st'.fr (Nat.le_refl _) (by rw [hnx]; exact (hal.names al hm).2) hgk (fun j b hb=>(hstt.h.ok j b hb).1) r2 hrows
    have hlen:tm.length=tm₀.length:=hsees.len
    have hslots:RelE y' (putW tm r.o.dst r.u) tv':=by
     have he:=st'.e
     rw [q7] at he ⊢
     simp only [putW] at he ⊢
     refine RelE.mk' (by have:=he.2; simpa using this) fun t u hu=>?_
     by_cases ht:t=d
     ·subst ht
      have htl:t<tm.length:=by have:=(List.getElem?_eq_some_iff.1 hu).1; simpa using this
      rw [List.getElem?_set_self htl] at hu
      obtain ⟨v,v1,v2⟩:=he.get (i:=t) (u:=alU al.o x.σ.nx) (by rw [List.getElem?_set_self htl])
      cases hu
      rw [q2]
      exact ⟨v,v1,z6 _ v v2⟩
     ·rw [List.getElem?_set_ne (fun h=>ht h.symm)] at hu
      obtain ⟨v,v1,v2⟩:=he.get (i:=t) (u:=u) (by rw [List.getElem?_set_ne (fun h=>ht h.symm)]; exact hu)
      refine ⟨v,v1,?_⟩
      have hold:tm₀[t]? = some u→Rel y' u v:=fun h=>z5 u v (Bel.le (hal.names al hm).1 u ((q5u _ _).1 hb0 u (List.mem_of_getElem? h))) v2
      by_cases hno:∀ (k:Nat) (q:RecU),rs[k]? = some q→q.o.dst≠some t
      ·rw [hsees.other t hno] at hu; exact hold hu
      ·have:∃ (k:Nat) (q:RecU),rs[k]? = some q∧q.o.dst=some t:=by
        apply Classical.byContradiction
        intro hn
        exact hno fun k r hr hd=>hn ⟨k,r,hr,hd⟩
       obtain ⟨k,q,hq,hd⟩:=this
       by_cases hL:listed.getD k false=true
       ·have htl:t<tm₀.length:=by rw [← hlen]; exact (List.getElem?_eq_some_iff.1 hu).1
        rw [hsees.yes k q t hq hd htl hL] at hu
        cases hu
        cases ha:q.act with
        | true =>
         exfalso
         rcases hal.acts k q hq ha with h | ⟨K,_,_,_,hLc⟩
         ·obtain ⟨al',hm',hu'⟩:=hun
          exact hu' (q5l hst hcl k al'.i hL (h al' hm'))
         ·rw [hLc.dst] at hd; cases hd
        | false =>
         cases hm2:q.mv with
         | true =>
          obtain ⟨al',hm',hi2⟩:=hal.all k q hq ha hm2
          obtain ⟨q',d',p1,p2,_⟩:=hal.at_ al' hm'
          rw [hi2,hq] at p1; cases p1
          rw [p2] at v2 ⊢
          refine z7 _ _ v (fun h=>?_) (by rw [hnx]; exact (hal.names al' hm').2) v2
          have:=hal.nodup al' hm' al hm h
          rw [hi2,hi'] at this
          subst this
          exact hLi hL
         | false =>
          rcases hal.early k q hq ha hm2 with h | h
          ·exfalso
           obtain ⟨al',hm',hu'⟩:=hun
           exact hu' (q5l hst hcl k al'.i hL (h al' hm'))
          ·exact z5 _ v (Bel.le (hal.names al hm).1 _ h.1) v2
       ·rw [hsees.no k q t hq hd hL] at hu; exact hold hu
    have st2:St F y' (putW tm r.o.dst r.u) tv' m₁ w₁ a₁:=⟨z3,z4,hslots,by rw [z2]; exact st'.fits,by rw [z2]; exact st'.act⟩
    have hke2:Ke n0 x0 y':=(hke.trans (hke'.le (by rw [hnx]; have:=hal.le; omega))).trans (z5.le (Nat.le_trans hn0 (hal.names al hm).1))
    have hadv2:Adv m0 x0.s w0 m₁ y'.s w₁:=by rw [z2]; exact hadv.trans hadv'
    have hnx2:y'.σ.nx=σ1.nx:=by rw [z1]; exact hnx
    have hrow2:∀ al'∈als,gt y'.σ.h al'.k=if (listed.setIfInBounds i true).getD al'.i false=true then gt (uAt rs σ' p).h al'.k else none:=fun al' hm'=>by
     rw [z1]
     simp only [q1a]
     by_cases hkk:al.k=al'.k
     ·have hii:=hal.nodup al hm al' hm' hkk
      rw [if_pos hkk,if_pos ((hget _).2 (.inr (by rw [← hii,hi'])))]
      rw [← hkk]; exact F1.symm
     ·rw [if_neg hkk,hrow al' hm']
      have hne:al'.i≠i:=fun h=>hkk (by
       obtain ⟨q',d',p1,p2,_⟩:=hal.at_ al' hm'
       rw [h,hr] at p1; cases p1
       rw [q2] at p2
       cases ho:al.o<;>cases ho':al'.o<;>rw [ho,ho'] at p2<;>simp only [alU] at p2<;>first | (cases p2; done) | (simp only [U.ptr.injEq,U.sl.injEq] at p2; exact p2.1))
      have:((listed.setIfInBounds i true).getD al'.i false=true)↔listed.getD al'.i false=true:=by rw [hget]; simp [hne]
      by_cases hL:listed.getD al'.i false=true
      ·rw [if_pos hL,if_pos (this.2 hL)]
      ·rw [if_neg hL,if_neg fun h=>hL (this.1 h)]
    have hoth2:∀ j,(∀ al∈als,al.k≠j)→gt y'.σ.h j=gt σb.h j:=fun j hj=>by
     rw [z1]; simp only [q1a]
     rw [if_neg (hj al hm)]; exact hoth j hj
    by_cases hmore:∃ al∈als,¬ (listed.setIfInBounds i true).getD al.i false=true
    ·exact ih _ _ _ m₁ _ tv' y' p hp hacts' (by simpa using hsz) hcnt' hcl' hsees' hmore hnx2 hrow2 hoth2 st2 hadv2 hke2 (hdf'.trans hdf)
    ·-- all allocs have come
     have hdone:∀ al∈als,(listed.setIfInBounds i true).getD al.i false=true:=fun al hm=>by
      apply Classical.byContradiction
      intro h
      exact hmore ⟨al,hm,h⟩
     have hgt:∀ k,gt (uAt rs σ' p).h k=gt y'.σ.h k:=fun k=>by
      by_cases hj:∀ al∈als,al.k≠k
      ·rw [F3 k hj,hoth2 k hj]
      ·have:∃ al∈als,al.k=k:=by
        apply Classical.byContradiction
        intro hc
        exact hj fun al hm h=>hc ⟨al,hm,h⟩
       obtain ⟨al',hm',rfl⟩:=this
       rw [hrow2 al' hm',if_pos (hdone al' hm')]
     obtain ⟨y2,k1,k2,k3,k4,k5,k6⟩:=Gh.same (n0:=n0) (tm:=putW tm r.o.dst r.u) (σ:=y'.σ) (uAt rs σ' p).h hgt F y' tv' rfl st2.h st2.fr st2.e
     have hσ2:y2.σ=uAt rs σ' p:=by rw [k2,hnx2,← F4]
     have hadv3:=k1 m₁ w₁ st2.fits
     refine anyU_ok hT ops htr hst hch (n0:=n0) (F:=F) (x0:=x0) (m0:=m0) (w0:=w0) (df:=df) hQ fuel (listed.setIfInBounds i true) a₁ w₁ m₁ p (putW tm r.o.dst r.u) tv' y2 (by simpa using hsz) hcnt' hcl' (fun e q h1 h2 h3=>?_) hsees' hp hacts' hσ2 ⟨k3,k4,k5,hadv3.fits,st2.act.ext hadv3.agree hadv3.nx⟩ (hadv2.trans hadv3) (hke2.trans k6) (by rw [hσ2,F4]; have:=hal.le; omega) (hdf'.trans hdf)
     ·obtain ⟨al',hm',hi2⟩:=hal.all e q h1 h2 h3
      rw [← hi2]; exact hdone al' hm'
   | false =>
    rcases hgood with ⟨hw,hu,ha,_⟩ | ⟨hw,hop,hqu⟩ | ⟨hw,ha,f,args,hcall,hev⟩ | ⟨hw,ha,_,hfree⟩ | ⟨ha,hm,_⟩
    ·rw [q2p hstt.e (hwc.trans hw)]
     simp only [Bool.false_eq_true,if_false]
     rw [hu] at stay
     exact ⟨fun _ _=>trivial,stay hmv x _ m w _ rfl (hstt.skip r.o.dst) hadv hke ((q4g _ _ _).trans hdf)⟩
    ·rw [q2p hstt.e (hwc.trans hw)]
     simp only [if_true]
     rcases hal.early i r hr noact hmv with h | h
     ·exact absurd h notall
     ·obtain ⟨g1,g2⟩:=h.2 hw hop
      have hop':opU T x.σ tm r.o.op=some (r.u,x.σ):=by
       rw [q69 hopc]; exact look_mono hsub g1 g2
      exact q5c (qaw hop') (hstt.op hT r.o hop' fun y tv' m₁ w₁ a₁ e1 st' hadv' hke' hnx' hdf'=>stay hmv y tv' m₁ w₁ a₁ e1 st' (hadv.trans hadv') (hke.trans (hke'.le (by rw [hnx]; have:=hal.le; omega))) (hdf'.trans hdf))
    ·rw [noact] at ha; cases ha
    ·rw [q2p hstt.e (hwc.trans hw)]
     simp only [if_true]
     exact q5c (hfree.congr hopc).nd (hstt.free hT r.o (hfree.congr hopc) fun y tv' m₁ w₁ a₁ e1 st' hadv' hke' hnx' hdf'=>stay hmv y tv' m₁ w₁ a₁ e1 st' (hadv.trans hadv') (hke.trans (hke'.le (by rw [hnx]; have:=hal.le; omega))) (hdf'.trans hdf))
    ·rw [hmv] at hm; cases hm
end
end Go.Vx
end
section
namespace Go.Vx
open Go Go.Rx
set_option linter.unusedVariables false
def locP (mk K:Nat) (q':List U):List Al→Prop
 | []=>True
 | al::r=>(Nat.testBit mk al.i=true∨(al.k≠K∧BelL al.k q'))∧locP mk K q' r
theorem locP_at {mk K:Nat} {q':List U}:∀ {l:List Al},locP mk K q' l→∀ al∈l,Nat.testBit mk al.i=true∨(al.k≠K∧BelL al.k q')
 | [],_,al,h=>by cases h
 | x::r,hl,al,h=>by
  rcases List.mem_cons.1 h with rfl | h
  ·exact hl.1
  ·exact locP_at hl.2 al h
def RA (P:Program) (T:Tb) (ops:List Oper) (nb:Nat) (σe:Sg) (qa:List Al):List Oper→List U→Sg→List RK→List Al→(List RK→List U→Sg→Prop)→Prop
 | [],tm,σ,acc,q,K=>q=[]∧K acc tm σ
 | o::r,tm,σ,acc,q,K =>
  (wantedU ops tm o=some true∧∃ u,opU T σ tm o.op=some (u,σ)∧RA P T ops nb σe qa r (putW tm o.dst u) σ ((1,⟨tm,o,u,false,false,σ,σ⟩)::acc) q K) ∨
  (wantedU ops tm o=some true∧∃ u σ',opU T σ tm o.op=some (u,σ')∧RA P T ops nb σe qa r (putW tm o.dst u) σ' ((3,⟨tm,o,u,true,true,σ,σ'⟩)::acc) q K) ∨
  (wantedU ops tm o=some true∧∃ f args u,callU T tm o.op=some (f,args)∧EvU P f args σ (fun u' σ'=>u'=u∧σ'=σ)∧RA P T ops nb σe qa r (putW tm o.dst u) σ ((2,⟨tm,o,u,true,false,σ,σ⟩)::acc) q K) ∨
  (wantedU ops tm o=some true∧∃ f args u σ',callU T tm o.op=some (f,args)∧EvU P f args σ (fun u' s'=>u'=u∧s'=σ')∧RA P T ops nb σe qa r (putW tm o.dst u) σ' ((3,⟨tm,o,u,true,true,σ,σ'⟩)::acc) q K) ∨
  (wantedU ops tm o=some false∧RA P T ops nb σe qa r (putW tm o.dst (.tup [])) σ ((0,⟨tm,o,.tup [],false,false,σ,σ⟩)::acc) q K) ∨
  (wantedU ops tm o=some true∧∃ u,FreeO P T tm o.op u∧Bel nb u∧RA P T ops nb σe qa r (putW tm o.dst u) σ ((6,⟨tm,o,u,false,false,σ,σ⟩)::acc) q K) ∨
  (wantedU ops tm o=some true∧∃ u,opU T σ tm o.op=some (u,σ)∧opU T σe tm o.op=some (u,σe)∧noEff o.op=true∧Bel nb u∧RA P T ops nb σe qa r (putW tm o.dst u) σ ((5,⟨tm,o,u,false,false,σ,σ⟩)::acc) q K) ∨
  (∃ al q' d,q=al::q'∧al.i=acc.length∧(∀ s,opU T s tm o.op=some (alU al.o s.nx,newU s (.row al.l al.e)))∧o.guard=none∧o.dst=some d∧RA P T ops nb σe qa r (putW tm o.dst (alU al.o al.k)) σ ((4,⟨tm,o,alU al.o al.k,false,true,σ,σ⟩)::acc) q' K) ∨
  (wantedU ops tm o=some true∧∃ u KK c c' e mk,(masks ops [])[acc.length]? = some mk∧o.dst=none∧gt σ.h KK=some (.row c e)∧(∀ τ:Sg,gt τ.h KK=some (.row c e)→opU T τ tm o.op=some (u,⟨ug τ.h KK (.row c' e),τ.nx⟩))∧(∃ al∈qa,al.k=KK)∧locP mk KK c' qa ∧
   RA P T ops nb σe qa r (putW tm o.dst u) ⟨ug σ.h KK (.row c' e),σ.nx⟩ ((7,⟨tm,o,u,true,true,σ,⟨ug σ.h KK (.row c' e),σ.nx⟩⟩)::acc) q K)
theorem alloc_ne {T:Tb} {σ:Sg} {tm:List U} {op:Op} {u u':U} {b:B} (h':opU T σ tm op=some (u',newU σ b)) (h:opU T σ tm op=some (u,σ)):False:=by
 rw [h'] at h
 simp only [Option.some.injEq,Prod.mk.injEq] at h
 have:=congrArg Sg.nx h.2
 simp only [newU] at this
 omega
structure KA (P:Program) (T:Tb) (ops:List Oper) (nb:Nat) (σe:Sg) (x:RK):Prop where
 good:Good P T ops x.2
 sm:x.1≠3→x.1≠7→x.2.s'=x.2.s
 act:x.2.act=true↔(x.1=2∨x.1=3∨x.1=7)
 mv:x.2.act=false→(x.2.mv=true↔x.1=4)
 lk:x.2.act=false→wantedU ops x.2.tm x.2.o=some true→opU T x.2.s x.2.tm x.2.o.op=some (x.2.u,x.2.s')→x.1=1∨x.1=5
 ear:x.2.act=false→x.2.mv=false→x.1=1∨(Bel nb x.2.u∧(wantedU ops x.2.tm x.2.o=some true→opU T x.2.s x.2.tm x.2.o.op=some (x.2.u,x.2.s')→noEff x.2.o.op=true∧opU T σe x.2.tm x.2.o.op=some (x.2.u,σe)))
theorem ra_ok {P:Program} {T:Tb} {ops:List Oper} {nb:Nat} {σe:Sg} {qa:List Al}:∀ (rest:List Oper) (tm:List U) (σ:Sg) (acc:List RK) (q:List Al) (K:List RK→List U→Sg→Prop),RA P T ops nb σe qa rest tm σ acc q K →
  ∃ (ks:List RK) (tm':List U) (σ':Sg),K (ks.reverse++acc) tm' σ'∧ks.length=rest.length∧uAt (ks.map (·.2)) σ' 0=σ∧vAt (ks.map (·.2)) tm' 0=tm ∧
   (∀ (i:Nat) (x:RK),ks[i]? = some x→rest[i]? = some x.2.o∧KA P T ops nb σe x∧uAt (ks.map (·.2)) σ' (i+1)=x.2.s'∧vAt (ks.map (·.2)) tm' (i+1)=putW x.2.tm x.2.o.dst x.2.u) ∧
   (∀ (i:Nat) (x:RK),ks[i]? = some x→x.1=7→∃ KK c c' e,Loc T ops qa (acc.length+i) x.2 KK c c' e) ∧
   (∀ (i:Nat) (x:RK),ks[i]? = some x→x.1=4→∃ al∈q,al.i=acc.length+i) ∧
   (∀ al∈q,∃ (i:Nat) (x:RK) (d:Tmp),al.i=acc.length+i∧ks[i]? = some x∧x.1=4∧x.2.u=alU al.o al.k∧(∀ s,opU T s x.2.tm x.2.o.op=some (alU al.o s.nx,newU s (.row al.l al.e)))∧x.2.o.guard=none∧x.2.o.dst=some d)
 | [],tm,σ,acc,q,K,h=>by
  obtain ⟨rfl,h⟩:=h
  exact ⟨[],tm,σ,h,rfl,rfl,rfl,fun i x hx=>by simp at hx,fun i x hx=>by simp at hx,fun i x hx=>by simp at hx,fun al h=>by cases h⟩
 | o::rest,tm,σ,acc,q,K,h=>by
  have step:∀ (k:Nat) (u:U) (ac mv:Bool) (σ1:Sg) (q':List Al),RA P T ops nb σe qa rest (putW tm o.dst u) σ1 ((k,⟨tm,o,u,ac,mv,σ,σ1⟩)::acc) q' K→KA P T ops nb σe (k,⟨tm,o,u,ac,mv,σ,σ1⟩) →
    (k=7→∃ KK c c' e,Loc T ops qa acc.length ⟨tm,o,u,ac,mv,σ,σ1⟩ KK c c' e) →
    (k≠4∧q=q'∨∃ al d,q=al::q'∧al.i=acc.length∧k=4∧u=alU al.o al.k∧(∀ s,opU T s tm o.op=some (alU al.o s.nx,newU s (.row al.l al.e)))∧o.guard=none∧o.dst=some d) →
    ∃ (ks:List RK) (tm':List U) (σ':Sg),K (ks.reverse++acc) tm' σ'∧ks.length=(o::rest).length∧uAt (ks.map (·.2)) σ' 0=σ∧vAt (ks.map (·.2)) tm' 0=tm ∧
     (∀ (i:Nat) (x:RK),ks[i]? = some x→(o::rest)[i]? = some x.2.o∧KA P T ops nb σe x∧uAt (ks.map (·.2)) σ' (i+1)=x.2.s'∧vAt (ks.map (·.2)) tm' (i+1)=putW x.2.tm x.2.o.dst x.2.u) ∧
     (∀ (i:Nat) (x:RK),ks[i]? = some x→x.1=7→∃ KK c c' e,Loc T ops qa (acc.length+i) x.2 KK c c' e) ∧
     (∀ (i:Nat) (x:RK),ks[i]? = some x→x.1=4→∃ al∈q,al.i=acc.length+i) ∧
     (∀ al∈q,∃ (i:Nat) (x:RK) (d:Tmp),al.i=acc.length+i∧ks[i]? = some x∧x.1=4∧x.2.u=alU al.o al.k∧(∀ s,opU T s x.2.tm x.2.o.op=some (alU al.o s.nx,newU s (.row al.l al.e)))∧x.2.o.guard=none∧x.2.o.dst=some d):=by
   intro k u ac mv σ1 q' h hk hloc hq
   obtain ⟨ks,tm',σ',g1,g2,g3,g4,g5,g9,g6,g7⟩:=ra_ok rest _ _ _ _ _ h
   refine ⟨(k,⟨tm,o,u,ac,mv,σ,σ1⟩)::ks,tm',σ',by simpa using g1,by simp [g2],rfl,rfl,fun i x hx=>?_,fun i x hx h7=>?_,fun i x hx h4=>?_,fun al hal=>?_⟩
   ·cases i with
    | zero =>
     simp at hx; subst hx
     refine ⟨rfl,hk,?_,?_⟩
     ·simp only [uAt,List.map_cons,List.getElem?_cons_succ]; exact g3
     ·simp only [vAt,List.map_cons,List.getElem?_cons_succ]; exact g4
    | succ i =>
     simp only [List.getElem?_cons_succ] at hx
     obtain ⟨k1,k2,k3,k4⟩:=g5 i x hx
     refine ⟨by simpa using k1,k2,?_,?_⟩
     ·simp only [uAt,List.map_cons,List.getElem?_cons_succ]; exact k3
     ·simp only [vAt,List.map_cons,List.getElem?_cons_succ]; exact k4
   ·cases i with
    | zero =>
     simp at hx; subst hx
     exact hloc h7
    | succ i =>
     simp only [List.getElem?_cons_succ] at hx
     have:=g9 i x hx h7
     have e:((k,(⟨tm,o,u,ac,mv,σ,σ1⟩:RecU))::acc).length+i=acc.length+(i+1):=by simp; omega
     rwa [e] at this
   ·cases i with
    | zero =>
     simp at hx; subst hx
     rcases hq with ⟨hne,_⟩ | ⟨al,d,rfl,hi,_⟩
     ·exact absurd h4 hne
     ·exact ⟨al,by simp,by omega⟩
    | succ i =>
     simp only [List.getElem?_cons_succ] at hx
     obtain ⟨al,h1,h2⟩:=g6 i x hx h4
     refine ⟨al,?_,by simp at h2; omega⟩
     rcases hq with ⟨_,rfl⟩ | ⟨al',d,rfl,_⟩
     ·exact h1
     ·exact List.mem_cons_of_mem _ h1
   ·have later:al∈q'→∃ (i:Nat) (x:RK) (d:Tmp),al.i=acc.length+i∧((k,(⟨tm,o,u,ac,mv,σ,σ1⟩:RecU))::ks)[i]? = some x∧x.1=4∧x.2.u=alU al.o al.k∧(∀ s,opU T s x.2.tm x.2.o.op=some (alU al.o s.nx,newU s (.row al.l al.e)))∧x.2.o.guard=none∧x.2.o.dst=some d:=fun hm=>by
     obtain ⟨i,x,d,h1,h2,h3⟩:=g7 al hm
     exact ⟨i+1,x,d,by simp at h1; omega,by simpa using h2,h3⟩
    rcases hq with ⟨_,rfl⟩ | ⟨al',d,rfl,hi,hk4,hu,ho,hg,hd⟩
    ·exact later hal
    ·rcases List.mem_cons.1 hal with rfl | hal
     ·exact ⟨0,_,d,by omega,rfl,hk4,hu,ho,hg,hd⟩
     ·exact later hal
  simp only [RA] at h
  rcases h with ⟨hw,u,h1,h2⟩ | ⟨hw,u,σ1,h1,h2⟩ | ⟨hw,f,args,u,h1,h2,h3⟩ | ⟨hw,f,args,u,σ1,h1,h2,h3⟩ | ⟨hw,h1⟩ | ⟨hw,u,h1,hb,h3⟩ | ⟨hw,u,h1,h2,h3,hb,h4⟩ | ⟨al,q',d,hq,hi,ho,hg,hd,h1⟩ | ⟨hw,u,KK,c,c',e,mk,hmk,hd,hg,hrun,hnm,hlp,h1⟩
  ·exact step 1 u false false σ q h2 ⟨.inr (.inl ⟨hw,h1,fun _=>rfl⟩),fun _ _=>rfl,by simp,by simp,fun _ _ _=>.inl rfl,fun _ _=>.inl rfl⟩ (fun h=>by omega) (.inl ⟨by omega,rfl⟩)
  ·exact step 3 u true true σ1 q h2 ⟨.inr (.inl ⟨hw,h1,by simp⟩),by simp,by simp,by simp,by simp,by simp⟩ (fun h=>by omega) (.inl ⟨by omega,rfl⟩)
  ·exact step 2 u true false σ q h3 ⟨.inr (.inr (.inl ⟨hw,rfl,f,args,h1,h2⟩)),fun _ _=>rfl,by simp,by simp,by simp,by simp⟩ (fun h=>by omega) (.inl ⟨by omega,rfl⟩)
  ·exact step 3 u true true σ1 q h3 ⟨.inr (.inr (.inl ⟨hw,rfl,f,args,h1,h2⟩)),by simp,by simp,by simp,by simp,by simp⟩ (fun h=>by omega) (.inl ⟨by omega,rfl⟩)
  ·exact step 0 _ false false σ q h1 ⟨.inl ⟨hw,rfl,rfl,rfl⟩,fun _ _=>rfl,by simp,by simp,(fun _ h=>by rw [hw] at h; cases h),fun _ _=>.inr ⟨by simp [Bel,BelL],fun h=>by rw [hw] at h; cases h⟩⟩ (fun h=>by omega) (.inl ⟨by omega,rfl⟩)
  ·exact step 6 u false false σ q h3 ⟨.inr (.inr (.inr (.inl ⟨hw,rfl,rfl,h1⟩))),fun _ _=>rfl,by simp,by simp,(fun _ _ h=>absurd h (h1.noop _)),fun _ _=>.inr ⟨hb,fun _ h=>absurd h (h1.noop _)⟩⟩ (fun h=>by omega) (.inl ⟨by omega,rfl⟩)
  ·exact step 5 u false false σ q h4 ⟨.inr (.inl ⟨hw,h1,fun _=>rfl⟩),fun _ _=>rfl,by simp,by simp,fun _ _ _=>.inr rfl,fun _ _=>.inr ⟨hb,fun _ _=>⟨h3,h2⟩⟩⟩ (fun h=>by omega) (.inl ⟨by omega,rfl⟩)
  ·exact step 4 _ false true σ q' h1 ⟨.inr (.inr (.inr (.inr ⟨rfl,rfl,rfl⟩))),fun _ _=>rfl,by simp,by simp,(fun _ _ h=>(alloc_ne (ho _) h).elim),by simp⟩ (fun h=>by omega) (.inr ⟨al,d,hq,hi,rfl,rfl,ho,hg,hd⟩)
  ·exact step 7 u true true _ q h1 ⟨.inr (.inl ⟨hw,hrun σ hg,by simp⟩),by simp,by simp,by simp,by simp,by simp⟩ (fun _=>⟨KK,c,c',e,⟨hnm,hg,rfl,hd,hrun,fun al hm=>by
    rcases locP_at hlp al hm with h | h
    ·exact .inl ⟨mk,hmk,h⟩
    ·exact .inr h,hw⟩⟩) (.inl ⟨by omega,rfl⟩)
def kf (k:Nat):Nat:=cond (Nat.beq k 4) 0 (cond (Nat.beq k 5) 1 (cond (Nat.beq k 6) 0 (cond (Nat.beq k 7) 3 k)))
def lateB (ai:List Nat) (m:Nat):Bool:=ai.all fun i=>Nat.testBit m i
def lateA (ai:List Nat):List Nat→List Nat→Bool
 | k::ks,m::ms=>cond (Nat.ble 1 k) (cond (Nat.ble k 3) (lateB ai m) true) true&&lateA ai ks ms
 | [],_=>true
 | _::_,[]=>false
theorem lateA_at {ai:List Nat}:∀ {ks ms:List Nat},lateA ai ks ms=true→∀ {i k:Nat},ks[i]? = some k→1≤k→k≤3→∃ m,ms[i]? = some m∧∀ a∈ai,m.testBit a=true
 | [],ms,_,i,k,hk,_,_=>by simp at hk
 | _::_,[],h,_,_,_,_,_=>by simp [lateA] at h
 | k0::ks,m0::ms,h,i,k,hk,h1,h3=>by
  simp only [lateA,Bool.and_eq_true] at h
  cases i with
  | zero =>
   simp at hk; subst hk
   have a1:Nat.ble 1 k0=true:=by rw [Nat.ble_eq]; exact h1
   have a2:Nat.ble k0 3=true:=by rw [Nat.ble_eq]; exact h3
   have:=h.1
   rw [a1,a2] at this
   simp only [cond_true,lateB,List.all_eq_true] at this
   exact ⟨m0,rfl,this⟩
  | succ i =>
   simp only [List.getElem?_cons_succ] at hk ⊢
   exact lateA_at h.2 hk h1 h3
section
variable {P:Program} {T:Tb}
theorem chU_of {ops : Array Oper} {nb : Nat} {σe : Sg} {tm : List U} {σ : Sg} {ks : List RK} {tm' : List U} {σ' : Sg} {pr : List (Nat × Nat)} (hst : staticOk ops.toList = true) (htr : TrU P T ops.toList tm σ (ks.map (·.2)) tm' σ')
    (hkk : ∀ (i : Nat) (x : RK), ks[i]? = some x → KA P T ops.toList nb σe x) (hfl : flE ops.toList (ks.map fun x => kf x.1) pr = true) (hpr : pairsOk T ks pr) : ChU T ops.toList (ks.map (·.2)) := by
  have hlen : (ks.map (·.2)).length = ops.toList.length := htr.len
  have same : ∀ (p q : Nat), p ≤ q → q ≤ ks.length → (∀ (e : Nat) (x : RK), p ≤ e → e < q → ks[e]? = some x → x.1 ≠ 3 ∧ x.1 ≠ 7) → uAt (ks.map (·.2)) σ' p = uAt (ks.map (·.2)) σ' q := by
    intro p q hpq hq hno
    induction q with
    | zero => have : p = 0 := by omega
              rw [this]
    | succ q ih =>
      rcases Nat.lt_or_ge q p with h | h
      · have : p = q + 1 := by omega
        rw [this]
      · rw [ih h (by omega) fun e r h1 h2 h3 => hno e r h1 (by omega) h3]
        have hr : ks[q]? = some ks[q] := by simp [show q < ks.length by omega]
        have hr2 : (ks.map (·.2))[q]? = some ks[q].2 := by simp [hr]
        have k3 := (htr.all q _ hr2).2.2.1
        rw [k3, (hkk q _ hr).sm (hno q _ h (Nat.lt_succ_self _) hr).1 (hno q _ h (Nat.lt_succ_self _) hr).2]
        simp [uAt, hr2]
  have at_ : ∀ (i : Nat) (r : RecU), (ks.map (·.2))[i]? = some r → ∃ k, ks[i]? = some (k, r) := by
    intro i r hr
    simp only [List.getElem?_map] at hr
    cases hk : ks[i]? with
    | none => rw [hk] at hr; simp at hr
    | some x =>
      obtain ⟨k, r'⟩ := x
      rw [hk] at hr; simp at hr; subst hr
      exact ⟨k, rfl⟩
  have trp : ∀ (i k : Nat) (r : RecU), ks[i]? = some (k, r) → ∃ m, (masks ops.toList [])[i]? = some m ∧ (trip 0 (ks.map fun x => kf x.1) (masks ops.toList []))[i]? = some (kf k, m, cntM ((ks.map fun x => kf x.1).take i)) := by
    intro i k r hk
    obtain ⟨m1, _, _⟩ := q74 ops.toList []
    have hi : i < ops.toList.length := by rw [← hlen]; simp only [List.length_map]; exact (List.getElem?_eq_some_iff.1 hk).1
    have hm : i < (masks ops.toList []).length := by rw [m1]; simpa using hi
    refine ⟨(masks ops.toList [])[i], by simp [hm], ?_⟩
    have := trip_at (ks.map fun x => kf x.1) (masks ops.toList []) 0 i (kf k) _ (by simp [hk]) (show (masks ops.toList [])[i]? = some (masks ops.toList [])[i] by simp [hm])
    rwa [Nat.zero_add] at this
  have chk : ∀ (i k ki kk : Nat) (r q : RecU), ks[i]? = some (ki, r) → ks[k]? = some (kk, q) → ∃ mi mk, (masks ops.toList [])[i]? = some mi ∧ (masks ops.toList [])[k]? = some mk ∧
      okE pr i (kf ki, mi, cntM ((ks.map fun x => kf x.1).take i)) k (kf kk, mk, cntM ((ks.map fun x => kf x.1).take k)) = true := by
    intro i k ki kk r q hi hk
    obtain ⟨mi, e1, e2⟩ := trp i ki r hi
    obtain ⟨mk, e3, e4⟩ := trp k kk q hk
    refine ⟨mi, mk, e1, e3, ?_⟩
    have h1 := qa7 hfl e2
    have h2 := qa7 h1 e4
    simpa using h2
  have nomv : ∀ (p q : Nat), p ≤ q → q ≤ ks.length → cntM ((ks.map fun x => kf x.1).take p) = cntM ((ks.map fun x => kf x.1).take q) → uAt (ks.map (·.2)) σ' p = uAt (ks.map (·.2)) σ' q := by
    intro p q hpq hq hc
    refine same p q hpq hq fun e x h1 h2 h3 => ?_
    have := cnt_none hpq (by simp; omega) hc e (kf x.1) h1 h2 (by simp [h3])
    exact ⟨fun h4 => this (by rw [h4]; rfl), fun h4 => this (by rw [h4]; rfl)⟩
  have kact : ∀ (i : Nat) (r : RecU), (ks.map (·.2))[i]? = some r → r.act = true → ∃ k, ks[i]? = some (k, r) ∧ Nat.ble 2 (kf k) = true ∧ (k = 2 ∨ k = 3 ∨ k = 7) := by
    intro i r hr ha
    obtain ⟨k, hk⟩ := at_ i r hr
    have := (hkk i _ hk).act.1 ha
    refine ⟨k, hk, ?_, this⟩
    rcases this with h | h | h <;> (simp only [] at h; subst h; rfl)
  have kqu : ∀ (i : Nat) (r : RecU), (ks.map (·.2))[i]? = some r → r.act = false → wantedU ops.toList r.tm r.o = some true → opU T r.s r.tm r.o.op = some (r.u, r.s') → ∃ k, ks[i]? = some (k, r) ∧ kf k = 1 := by
    intro i r hr ha hw hl
    obtain ⟨k, hk⟩ := at_ i r hr
    refine ⟨k, hk, ?_⟩
    rcases (hkk i _ hk).lk ha hw hl with h | h <;> (simp only [] at h; subst h; rfl)
  have succ : ∀ (l : List Nat) (a k : Nat), l[a]? = some k → cntM (l.take (a + 1)) = cntM (l.take a) + isM k := by
    intro l
    induction l with
    | nil => intro a k h; simp at h
    | cons x l ih =>
      intro a k h
      cases a with
      | zero => simp at h; subst h; simp [cntM]
      | succ a => simp only [List.getElem?_cons_succ] at h; simp only [List.take_succ_cons, cntM]; rw [ih a k h]; omega
  have hb1 : Nat.ble 2 1 = false := rfl
  have hb2 : Nat.beq 1 1 = true := rfl
  refine ⟨fun i k r q hr hq ha hb hlt => ?_, fun i k r q hr hq ha hw hl hb hlt => ?_, fun i k r q hr hq ha hw hl hb hlt => ?_⟩
  · obtain ⟨ki, h1, h2, _⟩ := kact i r hr ha
    obtain ⟨kk, h3, h4, _⟩ := kact k q hq hb
    obtain ⟨mi, mk, e1, e2, e3⟩ := chk i k ki kk r q h1 h3
    simp only [okE, h2, h4, cond_true, q3e hlt] at e3
    exact ⟨mi, e1, e3⟩
  · obtain ⟨ki, h1, hk1⟩ := kqu i r hr ha hw hl
    obtain ⟨kk, h3, h4, _⟩ := kact k q hq hb
    obtain ⟨mi, mk, e1, e2, e3⟩ := chk i k ki kk r q h1 h3
    simp only [okE, hk1, hb1, hb2, h4, cond_true, cond_false, q3e hlt, Bool.or_eq_true] at e3
    rcases e3 with e3 | e3 | e3
    · exact .inl ⟨mi, e1, e3⟩
    · have := nomv k i (by omega) (by have := (List.getElem?_eq_some_iff.1 h1).1; omega) (Nat.eq_of_beq_eq_true e3)
      exact .inr (.inl (by simpa [uAt, h1, h3] using this))
    · have := q5s hpr _ (qas e3)
      simp only [lookOk, q1w, h1, h3, q3e hlt, cond_true] at this
      exact .inr (.inr this)
  · obtain ⟨ki, h1, hk1⟩ := kqu i r hr ha hw hl
    obtain ⟨kk, h3, h4, _⟩ := kact k q hq hb
    obtain ⟨mi, mk, e1, e2, e3⟩ := chk i k ki kk r q h1 h3
    simp only [okE, hk1, hb1, hb2, h4, cond_true, cond_false, q58 (show ¬ k < i by omega), Bool.or_eq_true] at e3
    rcases e3 with e3 | e3 | e3
    · exact .inl ⟨mk, e2, e3⟩
    · have hc : cntM ((ks.map fun x => kf x.1).take i) = cntM ((ks.map fun x => kf x.1).take (k + 1)) := by
        rw [succ _ k (kf kk) (by simp [h3])]; exact Nat.eq_of_beq_eq_true e3
      have := nomv i (k + 1) (by omega) (by have := (List.getElem?_eq_some_iff.1 h3).1; omega) hc
      have h2 := (htr.all k q hq).2.2.1
      rw [h2] at this
      exact .inr (.inl (by simpa [uAt, h1] using this.symm))
    · have := q5s hpr _ (qas e3)
      simp only [lookOk, q1w, h1, h3, q58 (show ¬ k < i by omega), cond_false] at this
      exact .inr (.inr this)
end
def addA:Sg→List (Nat×Option Nat×List U×TypeId)→Sg
 | σ,[]=>σ
 | σ,x::r=>addA (newU σ (.row x.2.2.1 x.2.2.2)) r
def alsA:Nat→List (Nat×Option Nat×List U×TypeId)→List Al
 | _,[]=>[]
 | n,x::r=>⟨x.1,n,x.2.1,x.2.2.1,x.2.2.2⟩::alsA (n+1) r
theorem q8x:∀ (L:List (Nat×Option Nat×List U×TypeId)) (σ:Sg),(addA σ L).nx=σ.nx+L.length
 | [],σ=>rfl
 | x::r,σ=>by simp only [addA,q8x r,newU,List.length_cons]; omega
theorem alsA_k:∀ {L:List (Nat×Option Nat×List U×TypeId)} {n:Nat} {al:Al},al∈alsA n L→n≤al.k∧al.k<n+L.length
 | [],n,al,h=>by cases h
 | x::r,n,al,h=>by
  rcases List.mem_cons.1 h with rfl | h
  ·simp
  ·have:=alsA_k h; simp only [List.length_cons]; omega
theorem alsA_eq:∀ {L:List (Nat×Option Nat×List U×TypeId)} {n:Nat} {a b:Al},a∈alsA n L→b∈alsA n L→a.k=b.k→a=b
 | [],n,a,b,h,_,_=>by cases h
 | x::r,n,a,b,ha,hb,hk=>by
  rcases List.mem_cons.1 ha with rfl | ha
  ·rcases List.mem_cons.1 hb with rfl | hb
   ·rfl
   ·have:=alsA_k hb; simp only at hk; omega
  ·rcases List.mem_cons.1 hb with rfl | hb
   ·have:=alsA_k ha; simp only at hk; omega
   ·exact alsA_eq ha hb hk
theorem addA_low:∀ (L:List (Nat×Option Nat×List U×TypeId)) (σ:Sg) {j:Nat},(∀ al∈alsA σ.nx L,al.k≠j)→gt (addA σ L).h j=gt σ.h j
 | [],σ,j,_=>rfl
 | x::r,σ,j,hj=>by
  have h1:=hj ⟨x.1,σ.nx,x.2.1,x.2.2.1,x.2.2.2⟩ (by simp [alsA])
  simp only [addA]
  rw [addA_low r (newU σ (.row x.2.2.1 x.2.2.2)) fun al hm=>hj al (by simp only [alsA,List.mem_cons]; exact .inr hm)]
  simp only [newU,q1a]
  rw [if_neg h1]
theorem addA_own:∀ {L:List (Nat×Option Nat×List U×TypeId)} {σ:Sg} {al:Al},al∈alsA σ.nx L→gt (addA σ L).h al.k=some (.row al.l al.e)
 | [],σ,al,h=>by cases h
 | x::r,σ,al,h=>by
  rcases List.mem_cons.1 h with rfl | h
  ·simp only [addA]
   rw [addA_low r (newU σ (.row x.2.2.1 x.2.2.2)) fun al hm=>?_]
   ·simp [newU,q1a]
   ·have:=alsA_k hm; simp only [newU] at this; omega
  ·exact addA_own (σ:=newU σ (.row x.2.2.1 x.2.2.2)) h
def zerosP:List (Nat×Option Nat×List U×TypeId)→Prop
 | []=>True
 | x::r=>BelL 0 x.2.2.1∧zerosP r
theorem zerosP_at:∀ {L:List (Nat×Option Nat×List U×TypeId)} {n:Nat},zerosP L→∀ al∈alsA n L,BelL 0 al.l
 | [],n,_,al,h=>by cases h
 | x::r,n,hz,al,h=>by
  rcases List.mem_cons.1 h with rfl | h
  ·exact hz.1
  ·exact zerosP_at hz.2 al h
section
variable {C:PG} {T:Tb} (hT:TbOk C.prog T) {n0:Nat} {Q:Exit→List U→Sg→Prop} {tm:List U} {σ:Sg}
include hT
theorem WPU.drawA {id:Nat} {ops:Array Oper} (L:List (Nat×Option Nat×List U×TypeId)) (pr:List (Nat×Nat)) (hst:staticOk ops.toList=true) (hL:L≠[]) (hz:zerosP L)
  (h:RA C.prog T ops.toList σ.nx ⟨σ.h,σ.nx+L.length⟩ (alsA σ.nx L) ops.toList tm (addA σ L) [] (alsA σ.nx L) (fun ks tm' σ'=>flE ops.toList (ks.reverse.map fun x=>kf x.1) pr=true∧lateA (L.map (·.1)) (ks.reverse.map (·.1)) (masks ops.toList [])=true∧pairsOk T ks.reverse pr∧Q .normal tm' σ')):WPU C n0 (.region id ops true) tm σ Q:=fun hn F x tv m w a b0 hx st hG hd ro hro=>by
 obtain ⟨ks,tm',σ',⟨hfl,hlate,hpr,hQ⟩,g2,g3,g4,g5,g9,g6,g7⟩:=ra_ok _ _ _ _ _ _ h
 simp only [List.append_nil,List.reverse_reverse,List.length_nil,Nat.zero_add] at hfl hlate hpr g6 g7 g9
 have ati:∀ (i:Nat) (r:RecU),(ks.map (·.2))[i]? = some r→∃ k,ks[i]? = some (k,r):=by
  intro i r hr
  simp only [List.getElem?_map] at hr
  cases hk:ks[i]? with
  | none=>rw [hk] at hr; simp at hr
  | some x =>
   obtain ⟨k,r'⟩:=x
   rw [hk] at hr; simp at hr; subst hr
   exact ⟨k,rfl⟩
 have htr:TrU C.prog T ops.toList tm (addA σ L) (ks.map (·.2)) tm' σ':=⟨by simpa using g2,g3,g4,fun i r hr=>by
  obtain ⟨k,hk⟩:=ati i r hr
  obtain ⟨a,b,c,d⟩:=g5 i _ hk
  exact ⟨a,b.good,c,d⟩⟩
 have hch:ChU T ops.toList (ks.map (·.2)):=chU_of hst htr (fun i x hx=>(g5 i x hx).2.1) hfl hpr
 have inai:∀ al∈alsA σ.nx L,al.i∈L.map (·.1):=by
  have:∀ (L:List (Nat×Option Nat×List U×TypeId)) (n:Nat),∀ al∈alsA n L,al.i∈L.map (·.1):=by
   intro L
   induction L with
   | nil=>intro n al h; cases h
   | cons x r ih =>
    intro n al h
    rcases List.mem_cons.1 h with rfl | h
    ·simp
    ·simp only [List.map_cons,List.mem_cons]; exact .inr (ih _ al h)
  exact this L σ.nx
 have late:∀ (i k:Nat) (r:RecU),ks[i]? = some (k,r)→1≤k→k≤3→∀ al∈alsA σ.nx L,Pre ops.toList i al.i:=fun i k r hk h1 h3 al hm=>by
  obtain ⟨mk,e1,e2⟩:=lateA_at hlate (i:=i) (k:=k) (by simp [hk]) h1 h3
  exact ⟨mk,e1,e2 _ (inai al hm)⟩
 have hal:ChA C.prog T ops.toList tm σ (addA σ L) (ks.map (·.2)) (alsA σ.nx L):=by
  refine ⟨?_,fun al hm=>by rw [q8x]; exact alsA_k hm,fun a ha b hb hk=>by rw [alsA_eq ha hb hk],by rw [q8x]; omega,fun al hm=>?_,zerosP_at hz,fun i r hr ha hv=>?_,fun al hm=>addA_own hm,fun j hj=>addA_low L σ hj,fun i r hr ha=>?_,fun i r hr ha hv=>?_⟩
  ·cases L with
   | nil=>exact absurd rfl hL
   | cons x r=>simp [alsA]
  ·obtain ⟨i,x,d,e1,e2,e3,e4,e5,e6,e7⟩:=g7 al hm
   have hk:=(g5 i x e2).2.1
   have hact:x.2.act=false:=by
    cases hb:x.2.act with
    | false=>rfl
    | true=>have:=hk.act.1 hb; omega
   exact ⟨x.2,d,by rw [e1]; simp [e2],e4,hact,(hk.mv hact).2 e3,e5,e6,e7⟩
  ·obtain ⟨k,hk⟩:=ati i r hr
   have:=((g5 i _ hk).2.1.mv ha).1 hv
   exact g6 i _ hk this
  ·obtain ⟨k,hk⟩:=ati i r hr
   have:=(g5 i _ hk).2.1.act.1 ha
   simp only [] at this
   by_cases h7:k=7
   ·exact .inr (g9 i _ hk h7)
   ·exact .inl (late i k r hk (by omega) (by omega))
  ·obtain ⟨k,hk⟩:=ati i r hr
   rcases (g5 i _ hk).2.1.ear ha hv with h | h
   ·simp only [] at h
    exact .inl (late i k r hk (by omega) (by omega))
   ·rw [q8x]; exact .inr h
 subst hx
 have hup:Mo x.σ.nx x ⟨x.ρ,⟨x.σ.h,(addA x.σ L).nx⟩,x.s⟩:=⟨fun k _ h2=>⟨by simp only [q8x]; omega,fun b hb=>⟨b,hb,Nat.le_refl _,fun _=>⟨rfl,fun l e sz st h=>⟨l,h⟩⟩⟩⟩,fun _ _ _ h=>h⟩
 have hbr:∀ j b,gt x.σ.h j=some b→j<x.σ.nx∧BelB x.σ.nx b:=fun j b hb=>⟨(st.h.ok j b hb).1,(st.h.ok j b hb).2.belB⟩
 have hno:∀ k,(Array.replicate ops.size false).getD k false=false:=fun k=>by
  by_cases hk:k<ops.size<;>simp [Array.getD,hk]
 refine wpIn_region_any hT.mixed ?_
 refine anyA_ok (ro:=ro) hT ops htr hst hch hal hn st.e.bel hbr (F:=F) (x0:=x) (m0:=m) (w0:=w) (df:=a.defers) (fun y tv' m' w' a' h1 h2 h3 h4 h5 h6=>⟨y,tm',tv',m',h1 ▸ hQ,h2,h3,h4,h5,by rw [h6]; exact hd.adv st.fits h3⟩) ops.size (Array.replicate ops.size false) a _ m tm tv ⟨x.ρ,⟨x.σ.h,(addA x.σ L).nx⟩,x.s⟩ 0 (Nat.zero_le _) (fun e r _ _=>by rw [hno]; simp) (by simp) (by simp) ?_ ?_ ?_ rfl ?_ (fun _ _=>rfl) ?_ ?_ (hup.ke.le hn) rfl
 ·intro k q hk; rw [hno] at hk; cases hk
 ·have:=q9e (rs:=ks.map (·.2)) (tm₀:=tm)
  exact ⟨this.len,fun k r d _ _ _ hL=>(by rw [hno] at hL; cases hL),fun k r d g1 g2 _=>this.no k r d g1 g2 (fun x=>x),this.other⟩
 ·cases hA:alsA x.σ.nx L with
  | nil=>exact absurd hA hal.some
  | cons al r=>exact ⟨al,by simp,by rw [hno]; simp⟩
 ·intro al hm
  rw [hno]
  simp only [Bool.false_eq_true,if_false]
  cases hg:gt x.σ.h al.k with
  | none=>rfl
  | some b=>have:=(hbr _ _ hg).1; have:=(alsA_k hm).1; omega
 ·refine ⟨⟨fun k b hb=>?_,st.h.inj,st.h.bd⟩,st.fr,hup.ke.E st.e.bel st.e,(Adv.draw _ st.fits).fits,st.act⟩
  obtain ⟨h1,h2⟩:=st.h.ok k b hb
  exact ⟨by simp only [q8x]; omega,h2.mono hup rfl fun _ _ _ h=>h⟩
 ·exact Adv.draw _ st.fits
end
end Go.Vx
end
section
namespace Go.Vx
open Go Go.Rx
set_option linter.unusedVariables false
section
variable {P:Program} {T:Tb} {ops r:List Oper} {o:Oper} {n nb:Nat} {σe:Sg} {l:List (Nat×U)} {σ σ':Sg} {acc:List RK} {q qa:List Al} {K:List RK→List U→Sg→Prop} {u:U}
theorem RQ.act (hw:wantedU ops (fr n l) o=some true) (h:opU T σ (fr n l) o.op=some (u,σ')) {d:Tmp} (he:o.dst=some d) (hd:Nat.blt d n=true) (hk:RA P T ops nb σe qa r (fr n ((d,u)::l)) σ' ((3,⟨fr n l,o,u,true,true,σ,σ'⟩)::acc) q K):RA P T ops nb σe qa (o::r) (fr n l) σ acc q K :=
 .inr (.inl ⟨hw,u,σ',h,by rw [he,q4m (d:=some d) u hd]; exact hk⟩)
theorem RQ.actn (hw:wantedU ops (fr n l) o=some true) (h:opU T σ (fr n l) o.op=some (u,σ')) (he:o.dst=none) (hk:RA P T ops nb σe qa r (fr n l) σ' ((3,⟨fr n l,o,u,true,true,σ,σ'⟩)::acc) q K):RA P T ops nb σe qa (o::r) (fr n l) σ acc q K :=
 .inr (.inl ⟨hw,u,σ',h,by rw [he]; exact hk⟩)
theorem RQ.call {f:FuncId} {args:List U} (hw:wantedU ops (fr n l) o=some true) (hc:callU T (fr n l) o.op=some (f,args)) (hev:EvU P f args σ (fun u' σ'=>u'=u∧σ'=σ)) {d:Tmp} (he:o.dst=some d) (hd:Nat.blt d n=true) (hk:RA P T ops nb σe qa r (fr n ((d,u)::l)) σ ((2,⟨fr n l,o,u,true,false,σ,σ⟩)::acc) q K):RA P T ops nb σe qa (o::r) (fr n l) σ acc q K :=
 .inr (.inr (.inl ⟨hw,f,args,u,hc,hev,by rw [he,q4m (d:=some d) u hd]; exact hk⟩))
theorem RQ.early (hw:wantedU ops (fr n l) o=some true) (h:opU T σ (fr n l) o.op=some (u,σ)) (h0:opU T σe (fr n l) o.op=some (u,σe)) (hn:noEff o.op=true) (hb:Bel nb u) {d:Tmp} (he:o.dst=some d) (hd:Nat.blt d n=true) (hk:RA P T ops nb σe qa r (fr n ((d,u)::l)) σ ((5,⟨fr n l,o,u,false,false,σ,σ⟩)::acc) q K):RA P T ops nb σe qa (o::r) (fr n l) σ acc q K :=
 .inr (.inr (.inr (.inr (.inr (.inr (.inl ⟨hw,u,h,h0,hn,hb,by rw [he,q4m (d:=some d) u hd]; exact hk⟩))))))
theorem RQ.alloc {al:Al} (hi:al.i=acc.length) (ho:∀ s,opU T s (fr n l) o.op=some (alU al.o s.nx,newU s (.row al.l al.e))) (hg:o.guard=none) {d:Tmp} (he:o.dst=some d) (hd:Nat.blt d n=true) (hk:RA P T ops nb σe qa r (fr n ((d,alU al.o al.k)::l)) σ ((4,⟨fr n l,o,alU al.o al.k,false,true,σ,σ⟩)::acc) q K):RA P T ops nb σe qa (o::r) (fr n l) σ acc (al::q) K :=
 .inr (.inr (.inr (.inr (.inr (.inr (.inr (.inl ⟨al,q,d,rfl,hi,ho,hg,he,by rw [he,q4m (d:=some d) _ hd]; exact hk⟩)))))))
theorem hasK {qa:List Al} {K:Nat} (h:(qa.any fun al=>Nat.beq al.k K)=true):∃ al∈qa,al.k=K:=by
 obtain ⟨al,h1,h2⟩:=List.any_eq_true.1 h
 exact ⟨al,h1,Nat.eq_of_beq_eq_true h2⟩
theorem RQ.loc {KK mk:Nat} {c c':List U} {e:TypeId} {σ':Sg} (hw:wantedU ops (fr n l) o=some true) (hrun:∀ τ:Sg,gt τ.h KK=some (.row c e)→opU T τ (fr n l) o.op=some (u,⟨ug τ.h KK (.row c' e),τ.nx⟩)) (hmk:(masks ops [])[acc.length]? = some mk) (hd:o.dst=none) (hg:gt σ.h KK=some (.row c e)) (hs:(⟨ug σ.h KK (.row c' e),σ.nx⟩:Sg)=σ')
  (hn:(qa.any fun al=>Nat.beq al.k KK)=true) (hl:locP mk KK c' qa) (hk:RA P T ops nb σe qa r (fr n l) σ' ((7,⟨fr n l,o,u,true,true,σ,σ'⟩)::acc) q K):RA P T ops nb σe qa (o::r) (fr n l) σ acc q K:=by
 subst hs
 exact .inr (.inr (.inr (.inr (.inr (.inr (.inr (.inr ⟨hw,u,KK,c,c',e,mk,hmk,hd,hg,hrun,hasK hn,hl,by rw [hd]; exact hk⟩)))))))
theorem store_loc {t:TypeId} {a x:Operand} {v:U} {k off sz:Nat} {cs c c':List U} {e:TypeId} (hs:sizeX T t=some sz) (ha:evS n l a=some (.ptr k 0 off)) (hx:evS n l x=some v) (hc:cellsO v=some cs) (hl:Nat.beq cs.length sz=true) (hk:okL cs=true) (hp:putU c off cs=some c') (τ:Sg) (hg:gt τ.h k=some (.row c e)) :
  opU T τ (fr n l) (.store t a x)=some (.junk,⟨ug τ.h k (.row c' e),τ.nx⟩):=by
 have hb:Nat.beq 0 0=true:=rfl
 exact q0e hs ha hx hc hl hk (q:=c) (q':=c') (by simp only [cellsOf,hg,hb,cond_true]) (by simp only [wkB,hg]; exact hp) (by simp only [putOf,hg])
theorem RQ.done (h:K acc (fr n l) σ):RA P T ops nb σe qa [] (fr n l) σ acc [] K:=⟨rfl,h⟩
end
section
variable {C:PG} {T:Tb} (hT:TbOk C.prog T) {n0:Nat} {Q:Exit→List U→Sg→Prop} {tm:List U} {σ:Sg}
include hT
theorem WPU.drawQ {id:Nat} {ops:Array Oper} (L:List (Nat×Option Nat×List U×TypeId)) (pr:List (Nat×Nat)) {nb:Nat} {σe σ1:Sg} {q:List Al} (hst:staticOk ops.toList=true) (hL:L≠[]) (hz:zerosP L)
  (h1:σ.nx=nb) (h2:(⟨σ.h,σ.nx+L.length⟩:Sg)=σe) (h3:addA σ L=σ1) (h4:alsA σ.nx L=q)
  (h:RA C.prog T ops.toList nb σe q ops.toList tm σ1 [] q (fun ks tm' σ'=>flE ops.toList (ks.reverse.map fun x=>kf x.1) pr=true∧lateA (L.map (·.1)) (ks.reverse.map (·.1)) (masks ops.toList [])=true∧pairsOk T ks.reverse pr∧Q .normal tm' σ')):WPU C n0 (.region id ops true) tm σ Q:=by
 subst h1 h2 h3 h4
 exact WPU.drawA hT L pr hst hL hz h
end
end Go.Vx
end
