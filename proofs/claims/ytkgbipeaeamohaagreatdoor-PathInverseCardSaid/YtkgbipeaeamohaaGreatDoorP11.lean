/-
  Texts of the walk: MpR MpY MpW MpX MpZ MpB.
-/
import Derived.RangeFuncNested
import Derived.RangeFuncLeaves
import Derived.Test.YtkgbipeaeamohaaGreatDoorP10
set_option linter.unusedSimpArgs false
set_option linter.unusedVariables false
section
namespace Go.Vx
open Go Go.Rx
theorem z1s {m:Nm} {i:Nat} {w w':World} {b:Blk} (hk:∀ (k:Nat) (ob:Obj),w.heap[k]? = some ob→((∃ c e f,ob = .cells c e f)∨∃ q c,ob = .map q c)→w'.heap[k]? = some ob) (h:qbn m i w b):qbn m i w' b:=by
 rcases b with ⟨l,e,md⟩ | ⟨es,cl⟩
 ·simp only [qbn] at h ⊢
  match md,h with
  | 0,h=>simp only [qex] at h ⊢; exact ⟨h.1,hk _ _ h.2 (.inl ⟨_,_,_,rfl⟩)⟩
  | 1,h=>simp only [qex] at h ⊢; obtain ⟨c,e',fr,h1,h2⟩:=h; exact ⟨c,e',fr,hk _ _ h1 (.inl ⟨_,_,_,rfl⟩),h2⟩
  | n+2,h=>simp only [qex] at h ⊢; obtain ⟨pre,rest,h1,h2⟩:=h; exact ⟨pre,rest,hk _ _ h1 (.inl ⟨_,_,_,rfl⟩),h2⟩
 ·simp only [qbn] at h ⊢; exact hk _ _ h (.inr ⟨_,_,rfl⟩)
theorem qrg {m:Nm} {s:S} {w w':World} (hk:∀ (k:Nat) (ob:Obj),w.heap[k]? = some ob→((∃ c e f,ob = .cells c e f)∨∃ q c,ob = .map q c)→w'.heap[k]? = some ob) (hf:q25 m s w):q25 m s w':=fun m' ha =>
 let q:=hf m' ha
 ⟨fun i b hl=>z1s hk (q.ok i b hl),q.inj,q.bd⟩
theorem qln {m:Nm} {s:S} {w:World} {l:Nat} {r r':Obj} (hf:q25 m s w) (hl:w.heap[l]? = some r) (ho:(∀ c e f,r ≠ .cells c e f)∧∀ q c,r ≠ .map q c):q25 m s (w.putObj l r'):=by
 refine qrg (fun k ob h hd=>?_) hf
 by_cases hk:l=k
 ·subst hk
  rw [hl] at h; cases h
  rcases hd with ⟨c,e,f,rfl⟩ | ⟨q,c,rfl⟩
  ·exact absurd rfl (ho.1 c e f)
  ·exact absurd rfl (ho.2 q c)
 ·rw [World.putObj_heap_other (fun h=>hk h.symm)]; exact h
theorem qlt (r:Loop):(∀ c e f,(Obj.loop r) ≠ .cells c e f)∧∀ q c,(Obj.loop r) ≠ .map q c:=⟨by simp,by simp⟩
theorem qj0 (w:World) (l:Nat) (o:Obj):(w.putObj l o).heap.size=w.heap.size:=by simp [World.putObj]
theorem Adv.put_new {m:Nm} {s:S} {w:World} {m':Nm} {s':S} {w':World} {l:Nat} {r r':Obj} (h:Adv m s w m' s' w') (hl:w.heap.size≤l) (hw:w'.heap[l]? = some r) (ho:(∀ c e f,r ≠ .cells c e f)∧∀ q c,r ≠ .map q c):Adv m s w m' s' (w'.putObj l r') :=
 ⟨h.agree,h.nx,qln h.fits hw ho,h.own,fun b hb hn=>by rw [World.putObj_heap_other (by omega)]; exact h.same b hb hn,by rw [qj0]; exact h.size,h.os,h.tape,h.output⟩
theorem Adv.put_back {m:Nm} {s:S} {w:World} {m':Nm} {s':S} {w':World} {l:Nat} {r r1:Obj} (hf:q25 m s w) (hw:w.heap[l]? = some r) (ho:(∀ c e f,r ≠ .cells c e f)∧∀ q c,r ≠ .map q c) (ho1:(∀ c e f,r1 ≠ .cells c e f)∧∀ q c,r1 ≠ .map q c) (h:Adv m s (w.putObj l r1) m' s' w'):w'.heap[l]? = some r1∧Adv m s w m' s' (w'.putObj l r):=by
 have hlt:=(Array.getElem?_eq_some_iff.1 hw).1
 have hl1:(w.putObj l r1).heap[l]? = some r1:=World.putObj_heap_same hlt
 have hw':w'.heap[l]? = some r1:=qfj (qln hf hw ho) h hl1 ho1.1 ho1.2
 refine ⟨hw',h.agree,h.nx,qln h.fits hw' ho1,fun b hb=>?_,fun b hb hn=>?_,by rw [qj0]; have:=h.size; rw [qj0] at this; exact this,h.os,h.tape,h.output⟩
 ·rcases h.own b hb with h | h
  ·exact .inl h
  ·rw [qj0] at h; exact .inr h
 ·by_cases hbl:b=l
  ·subst hbl
   rw [World.putObj_heap_same (Array.getElem?_eq_some_iff.1 hw').1,hw]
  ·rw [World.putObj_heap_other hbl,h.same b (by rw [qj0]; exact hb) hn,World.putObj_heap_other hbl]
theorem Adv.grow {m:Nm} {s:S} {w:World} (hf:q25 m s w) (o:Obj):Adv m s w m s (w.alloc o):=by
 have hk:∀ b,b<w.heap.size→(w.alloc o).heap[b]? = w.heap[b]?:=fun b hb=>Go.RowKit.Below.heap_alloc _ _ _ hb
 refine ⟨Agree.refl _ _,zF _,qrg (fun k ob h _=>?_) hf,fun _ h=>.inl h,fun b hb _=>hk b hb,by simp,rfl,rfl,rfl⟩
 rw [hk k (Array.getElem?_eq_some_iff.1 h).1]; exact h
def qo7:List U→List Tmp→List U→List U
 | tm,p::ps,u::us=>qo7 (tm.set p u) ps us
 | tm,_,_=>tm
def qjf:List Value→List Tmp→List Value→List Value
 | tv,p::ps,v::vs=>qjf (tv.set p v) ps vs
 | tv,_,_=>tv
theorem qvs {x:Cx}:∀ {ps:List Tmp} {tm us:List U} {tv vs:List Value},q0t x tm tv→q0t x us vs→q0t x (qo7 tm ps us) (qjf tv ps vs)
 | [],tm,us,tv,vs,h,_=>by cases us<;>cases vs<;>simpa [qo7,qjf] using h
 | p::ps,tm,[],tv,vs,h,hu=>by rw [hu.nil_inv]; simpa [qo7,qjf] using h
 | p::ps,tm,u::us,tv,vs,h,hu=>by
  obtain ⟨v,vs',rfl,h1,h2⟩:=hu.inv
  simp only [qo7,qjf]
  exact qvs (h.set p h1) h2
theorem qlw (m:Nm):∀ (ps:List Tmp) (tv vs:List Value),((ps.zip (q0m m vs)).foldl (fun (t:Array Value) (q:Tmp×Value)=>t.setIfInBounds q.1 q.2) ⟨q0m m tv⟩)=⟨q0m m (qjf tv ps vs)⟩
 | [],tv,vs=>by simp [qjf]
 | p::ps,tv,[]=>by simp [qjf,q0m]
 | p::ps,tv,v::vs=>by
  simp only [q0m,List.zip_cons_cons,List.foldl_cons,qjf]
  rw [← qlw m ps (tv.set p v) vs,qvp]
  congr 1
  simp
theorem setP1 {n:Nat} {l:List (Nat×U)} {p:Nat} {u:U} (h:Nat.blt p n=true):qo7 (fr n l) [p] [u]=fr n ((p,u)::l):=q52 (d:=some p) u h
theorem setP2 {n:Nat} {l:List (Nat×U)} {p q:Nat} {u v:U} (h:Nat.blt p n=true) (h':Nat.blt q n=true):qo7 (fr n l) [p,q] [u,v]=fr n ((q,v)::(p,u)::l):=by
 show qo7 (q3t (fr n l) (some p) u) [q] [v]=_
 rw [q52 (d:=some p) u h]
 exact setP1 h'
structure ItG (l:Nat) (rec:Loop) (tm0:List U) (nb:Nat) (x:Cx) (m:Nm) (w:World):Prop where
 loop:w.heap[l]? = some (.loop rec)
 def_:w.heap[rec.defers]? = some (.deferred (some []))
 bel:q1g nb tm0
 tm:∃ tv0,q0t x tm0 tv0∧∀ m',Agree x.s.nx m m'→rec.tmps=⟨q0m m' tv0⟩
abbrev PG.it (P:Program) (l:Nat) (rec:Loop) (tm0:List U) (nb:Nat):PG where
 prog:=P
 nb:=nb
 G:=ItG l rec tm0 nb
 ro:=fun ro=>ro=none
 mks:=false
 st:=fun {x y m m' w w'} h hf ha hk=>by
  obtain ⟨tv0,h1,h2⟩:=h.tm
  exact ⟨qfj hf ha h.loop (by simp) (by simp),qfj hf ha h.def_ (by simp) (by simp),h.bel,tv0,hk.E h.bel h1,fun m'' hm=>h2 m'' (ha.agree.trans hm ha.nx)⟩
abbrev PG.top (P:Program):PG:=⟨P,0,fun _ _ _=>True,fun ro=>ro=none,true,fun _ _ _ _=>trivial⟩
instance {P:Program} {T:Tb} {l:Nat} {rec:Loop} {tm0:List U} {nb:Nat} [h:TbP P T]:TbI (PG.it P l rec tm0 nb) T:=⟨h.ok⟩
instance {P:Program} {T:Tb} [h:TbP P T]:TbI (PG.top P) T:=⟨h.ok⟩
theorem qey.yield {P:Program} {l:Nat} {rec:Loop} {tm0:List U} {nb:Nat} {σ:Sg} {tm:List U} {o:Oper} {c:Call} {f:Operand} {us tmx:List U} (ho:o.op = .call c) (hcal:c.callee = .value f) (hf:q0c tm f=some (.fn (.yield l) [] [])) (hl:q2s tm c.args.toList=some us)
  (hlen:rec.params.size=us.length) (hr:rec.state = .ready) (hp:rec.pending=none) (htm:qo7 tm0 rec.params.toList us=tmx) {R':Sg→Prop}
  (hw:WPU (PG.of P) σ.nx rec.assign tmx σ (qkp (fun tm1 σ1=>WPU (PG.of P) σ.nx rec.body tm1 σ1 (fun e _ σ'=>e = .normal∧R' σ')) (fun _ _ _=>False))) :
  qey (PG.it P l rec tm0 nb) σ tm o (fun u σ'=>u = .bool true∧R' σ'):=fun F x tv m w a next Q hxσ st hG hn ro hro=>by
 subst hxσ
 obtain ⟨g1,g2,g3,tv0,g4,g5⟩:=hG.g
 obtain ⟨v,ev,rv⟩:=q0e st.e hf
 simp only [Rel] at rv
 obtain ⟨va,vb,rfl,_,ha1,_,hb1⟩:=rv
 have hva:va=[]:=List.eq_nil_of_length_eq_zero (by simpa using ha1.symm)
 have hvb:vb=[]:=List.eq_nil_of_length_eq_zero (by simpa using hb1.symm)
 subst hva; subst hvb
 obtain ⟨vs,ea,ra⟩:=q5z st.e hl
 have e0:=q0q (st.act m (Agree.refl _ _)) ev
 have e1:=q26 (st.act m (Agree.refl _ _)) ea
 simp only [ren,renA_mk,q0m] at e0
 have hvl:vs.length=us.length:=ra.2.symm
 have hsz:(⟨q0m m vs⟩:Array Value).size=rec.params.size:=by rw [hlen]; simp [q1b,hvl]
 have hy:=run_yield (P:=P) (args:=⟨q0m m vs⟩) g1 hsz
 have htm':(rec.params.zip (⟨q0m m vs⟩:Array Value)).foldl (fun tmps (t,a)=>tmps.setIfInBounds t a) rec.tmps=⟨q0m m (qjf tv0 rec.params.toList vs)⟩:=by
  rw [g5 m (Agree.refl _ _),← qlw m rec.params.toList tv0 vs]
  cases rec.params
  simp
 rw [htm'] at hy
 have hrun:(execOp a.eval o).run P w = .ok (.round l rec.fn ⟨q0m m (qjf tv0 rec.params.toList vs)⟩ rec.assign rec.body) w:=by
  obtain ⟨callee,args,ats⟩:=c
  simp only at hcal hl ea e1
  subst hcal
  simp only [execOp,ho,zK,resolve,e0,e1,Deferred.ofValue,zL,zJ,invoke]
  simpa using hy
 refine ⟨fun _ _=>trivial,?_⟩
 rw [Oper.semAt_eq _ _ _ (by rw [ho]; intro c hc; cases hc),show (PG.it P l rec tm0 nb).prog=P from rfl,hrun]
 refine ⟨qph,roundIn_of_wpIn (n:=0) (fen_fn _) ?_⟩
 have stx:St F x tmx (qjf tv0 rec.params.toList vs) m w { tmps:=⟨q0m m (qjf tv0 rec.params.toList vs)⟩,defers:=[] }:=by
  subst htm
  refine ⟨st.h,st.fr,qvs g4 ra,st.fits,fun m' hm'=>?_⟩
  have q1:=g5 m' hm'
  have q0:=g5 m (Agree.refl _ _)
  have e1':=q26 (st.act m' hm') ea
  rw [e1] at e1'
  have hvv:q0m m vs=q0m m' vs:=by simpa using e1'
  have htt:q0m m tv0=q0m m' tv0:=by rw [q0] at q1; simpa using q1
  show (⟨q0m m (qjf tv0 rec.params.toList vs)⟩:Array Value)=_
  rw [← qlw m,← qlw m',hvv,htt]
 refine wpIn_mono (hw (zF _) F x _ m w _ 0 rfl stx ⟨Nat.zero_le _,trivial⟩ ⟨fun _=>rfl,fun h=>by cases h⟩ (some l) trivial) ?_
 rintro e a1 w1 ⟨y,tm1,tv1,m1,hq,st1,adv1,ke1,hn1,dr1⟩
 cases e with
 | normal =>
  have hl1:w1.heap[l]? = some (.loop rec):=qfj st.fits adv1 g1 (by simp) (by simp)
  refine ⟨_,run_beginRound hl1 hr,?_⟩
  refine wpIn_mono (hq hn1 F y tv1 m1 (w1.putObj l (.loop { rec with state:=.busy })) a1 0 rfl ⟨st1.h,st1.fr,st1.e,qln st1.fits hl1 (qlt _),st1.act⟩ ⟨Nat.zero_le _,trivial⟩ ⟨fun _=>rfl,fun h=>by cases h⟩ (some l) trivial) ?_
  rintro e a2 w3 ⟨z,tm2,tv2,m2,⟨rfl,hR'⟩,st2,adv2,ke2,hn2,dr2⟩
  obtain ⟨hl3,adv3⟩:=Adv.put_back st1.fits hl1 (qlt _) (qlt _) adv2
  have hrec:({ ({ rec with state:=.busy }:Loop) with state:=.ready,pending:=none }:Loop)=rec:=by
   cases rec; simp only at hr hp; subst hr; subst hp; rfl
  refine ⟨_,_,run_endRound none hl3,?_⟩
  have hadv:=adv1.trans adv3
  have hke:=ke1.trans ke2
  have fin:next (a.put o.dst (.bool true)) (w3.putObj l (.loop rec)):=hn (.bool true) z (z1h tv o.dst (.bool true)) m2 _ _ ⟨rfl,hR'⟩
   ⟨st2.h,st2.fr,qka (hke.E st.e.bel st.e) (by simp [Rel]) _,hadv.fits,(st.act.ext hadv.agree hadv.nx).put (q2l fun _=>by simp [ren]) o.dst⟩ hadv hke hn2 (q5h _ _ _)
  rw [← hrec] at fin
  exact fin
 | _=>exact hq.elim
theorem RS.yield {P:Program} {T:Tb} {l:Nat} {rec:Loop} {tm0:List U} {nb n:Nat} {sl:List (Nat×U)} {ops r:List Oper} {o:Oper} {σ:Sg} {K:List U→Sg→Prop} {c:Call} {f:Operand} {us tmx:List U} (hw:q07 ops (fr n sl) o=some true) (ho:o.op = .call c) (hcal:c.callee = .value f)
  (hf:evS n sl f=some (.fn (.yield l) [] [])) (hl:z2j n sl c.args.toList=some us) (hlen:rec.params.size=us.length) (hr:rec.state = .ready) (hp:rec.pending=none) (htm:qo7 tm0 rec.params.toList us=tmx) {d:Tmp} (he:o.dst=some d) (hd:Nat.blt d n=true)
  (hb:WPU (PG.of P) σ.nx rec.assign tmx σ (qkp (fun tm1 σ1=>WPU (PG.of P) σ.nx rec.body tm1 σ1 (fun e _ σ'=>e = .normal∧RU (PG.it P l rec tm0 nb) T ops r (fr n ((d,.bool true)::sl)) σ' K)) (fun _ _ _=>False))) :
  RU (PG.it P l rec tm0 nb) T ops (o::r) (fr n sl) σ K :=
 .inr (.inr (.inr (.inr ⟨hw,_,qey.yield ho hcal (q1s hf) (qrd hl) hlen hr hp htm hb,fun u σ' h=>by rw [h.1,he,q52 (d:=some d) _ hd]; exact h.2⟩)))
theorem WPU.range {C:PG} {T:Tb} (hT:qet C.prog T) {n0:Nat} {Q:Exit→List U→Sg→Prop} {tm:List U} {σ:Sg} {g:Operand} {ps:Array Tmp} {assign body:Code} {gf:FuncId} {fnG:Func} {cG:Code} {lb:List U} (hmk:C.mks=true) (hro:∀ ro,C.ro ro→ro=none)
  (hg:q0c tm g=some (.fn (.func gf) [] lb)) (hf:T.fn gf=some fnG) (hb:fnG.body=some cG) (hres:fnG.results.toList=[])
  (h:∀ (l fn:Nat) (tmps:Array Value) (D:Nat),WPU (PG.it C.prog l ⟨.ready,none,fn,tmps,ps,assign,body,D⟩ tm σ.nx) σ.nx cG (qve fnG.ntmps (.fn (.yield l) [] []::lb)) σ (fun e _ σ'=>(e = .normal∨e = .ret)∧Q .normal tm σ')) :
  WPU C n0 (.rangeFunc g ps assign body) tm σ Q:=fun hn F x tv m w a b0 hx st hG hd ro hro'=>by
 subst hx
 have:=hro ro hro'
 subst this
 refine wpIn_rangeFunc ?_
 intro fn _
 obtain ⟨v,ev,rv⟩:=q0e st.e hg
 simp only [Rel] at rv
 obtain ⟨va,vb,rfl,_,ha1,hvb,hb1⟩:=rv
 have hva:va=[]:=List.eq_nil_of_length_eq_zero (by simpa using ha1.symm)
 subst hva
 have e0:=q0q (st.act m (Agree.refl _ _)) ev
 simp only [ren,renA_mk,q0m] at e0
 obtain ⟨hf0,hname⟩:=hT.fn gf fnG hf
 obtain ⟨W1,hW1⟩:∃ W1,(w.alloc (.deferred (some []))).alloc (.loop { state:=.ready,pending:=none,fn,tmps:=a.tmps,params:=ps,assign,body,defers:=w.heap.size })=W1:=⟨_,rfl⟩
 have hg1:=Adv.grow st.fits (.deferred (some []))
 have hg2:=Adv.grow hg1.fits (.loop { state:=.ready,pending:=none,fn,tmps:=a.tmps,params:=ps,assign,body,defers:=w.heap.size })
 rw [hW1] at hg2
 have hgw:=hg1.trans hg2
 have hL1:W1.heap[w.heap.size+1]? = some (.loop { state:=.ready,pending:=none,fn,tmps:=a.tmps,params:=ps,assign,body,defers:=w.heap.size }):=by
  rw [← hW1]; have:=World.alloc_heap_new (w.alloc (.deferred (some []))) (.loop { state:=.ready,pending:=none,fn,tmps:=a.tmps,params:=ps,assign,body,defers:=w.heap.size }); rwa [World.size_alloc] at this
 have hK1:W1.heap[w.heap.size]? = some (.deferred (some [])):=by
  rw [← hW1]; exact (Go.RowKit.Below.heap_alloc _ _ _ (by simp)).trans (World.alloc_heap_new w _)
 have hnb:fnG.body.isNone=false:=by rw [hb]; rfl
 refine ⟨w.heap.size+1,[{ target:=.collected w.heap.size,args:=#[] }],W1,{ target:=.fn (.func gf) ⟨q0m m vb⟩,args:=#[.func (.yield (w.heap.size+1)) #[] #[]] },W1,gf,
  #[.func (.yield (w.heap.size+1)) #[] #[]]++⟨q0m m vb⟩,W1,?_,?_,fun _ _=>trivial,?_,qph,?_⟩
 ·rw [← hW1]; exact run_enterLoop_outer _ _ _ _ _
 ·simp only [resolve,e0]
  simp [go_sem]
 ·simp only [invoke,callFunc,zK,run_program,hf0,hname (by rw [hb]; rfl),hnb,Bool.false_eq_true,if_false,zJ]
  simp [go_sem]
 ·refine callsIn_of_wp hf0 hb trivial ?_ rfl
  have hE:q0t x (U.fn (.yield (w.heap.size+1)) [] []::lb) (Value.func (.yield (w.heap.size+1)) #[] #[]::vb):=q0t.cons (by simp only [Rel]; exact ⟨[],[],rfl,by simp [q2b],rfl,by simp [q2b],rfl⟩) ⟨hvb,hb1⟩
  have hact:qqv m x.s.nx (pad fnG.ntmps (Value.func (.yield (w.heap.size+1)) #[] #[]::vb)) { tmps:=(#[Value.func (.yield (w.heap.size+1)) #[] #[]]++(⟨q0m m vb⟩:Array Value))++Array.replicate (fnG.ntmps - (#[Value.func (.yield (w.heap.size+1)) #[] #[]]++(⟨q0m m vb⟩:Array Value)).size) undef,defers:=[] }:=fun m' hm'=>by
   have e0':=q0q (st.act m' hm') ev
   simp only [ren,renA_mk,q0m] at e0'
   rw [e0] at e0'
   have hvv:q0m m vb=q0m m' vb:=by simpa using e0'
   simp only [qzx,q2j,q0m,ren,hvv]
   apply Array.ext'
   simp [q1b,ren,undef,qqu]
  have hit:ItG (w.heap.size+1) { state:=.ready,pending:=none,fn,tmps:=a.tmps,params:=ps,assign,body,defers:=w.heap.size } tm x.σ.nx x m W1:=⟨hL1,hK1,st.e.bel,tv,st.e,st.act⟩
  refine wpIn_mono (h (w.heap.size+1) fn a.tmps w.heap.size (zF _) F x _ m W1 _ 0 rfl ⟨st.h,st.fr,qn4 _ hE,hgw.fits,hact⟩ ⟨zF _,hit⟩ ⟨fun _=>rfl,fun h=>by cases h⟩ none rfl) ?_
  rintro e a' w' ⟨y,tm',tv',m',⟨hex,hQ⟩,st',adv,ke,hn',dr⟩
  have hdf:a'.defers=[]:=dr.eq rfl
  have hl':=qfj hgw.fits adv hL1 (by simp) (by simp)
  have hk':=qfj hgw.fits adv hK1 (by simp) (by simp)
  have hres':qx2 T tv' y.s fnG.results.toList=some []:=by rw [hres]; rfl
  have hrr:=qkl hT (st'.fits m' (Agree.refl _ _)) hres'
  rw [← st'.act m' (Agree.refl _ _)] at hrr
  have hA:Adv m x.s w m' y.s (w'.putObj (w.heap.size+1) (.loop { state:=.exhausted,pending:=none,fn,tmps:=a.tmps,params:=ps,assign,body,defers:=w.heap.size })):=Adv.put_new (hgw.trans adv) (by omega) hl' (qlt _)
  have hpost:rangePost (qmn none) 0 C.prog (w.heap.size+1) (qw7 C n0 F x m w a.defers b0 Q) { a with defers:=[{ target:=.collected w.heap.size,args:=#[] }]++a.defers } (.returned (ren m' (qqt []))) w':=by
   refine ⟨none,_,run_endLoop hl' (by simp),y,tm,tv,m',hQ,⟨st'.h,st'.fr,ke.E st.e.bel st.e,hA.fits,st.act.ext hA.agree hA.nx⟩,hA,ke.le hn,by omega,⟨fun hk=>(by rw [hmk] at hk; cases hk),fun _=>?_⟩⟩
   obtain ⟨d0,bs,d1,d2,d3⟩:=hd.ok hmk
   refine ⟨Nat.le_trans d0 hA.size,w.heap.size::bs,List.nodup_cons.2 ⟨fun hm=>?_,d1⟩,by rw [d2]; rfl,fun b hb=>?_⟩
   ·have:=(Array.getElem?_eq_some_iff.1 (d3 _ hm).2).1; omega
   ·rcases zI.1 hb with rfl | hb
    ·exact ⟨d0,by rw [World.putObj_heap_other (by omega)]; exact hk'⟩
    ·exact ⟨(d3 b hb).1,qfj st.fits hA (d3 b hb).2 (by simp) (by simp)⟩
  have hfin:bodyPost C.prog fnG (rangePost (qmn none) 0 C.prog (w.heap.size+1) (qw7 C n0 F x m w a.defers b0 Q) { a with defers:=[{ target:=.collected w.heap.size,args:=#[] }]++a.defers }) .ret a' w':=⟨hdf,_,hrr,hpost⟩
  rcases hex with rfl | rfl
  ·exact hfin
  ·exact hfin
theorem qrm {P:Program} {fn:Func} {tmps:Array Value} {R:Ending→World→Prop} {b0:Nat} {m:Nm} {s:S} {w0:World} {m':Nm} {s':S} (hb0:w0.heap.size≤b0) (hfin:∀ w',Adv m s w0 m' s' w'→∃ v,(results fn tmps).run P w' = .ok v w'∧R (.returned v) w') :
  ∀ (bs:List Nat) (w':World),bs.Nodup→(∀ b∈bs,b0≤b∧w'.heap[b]? = some (.deferred (some [])))→Adv m s w0 m' s' w'→LeavesInM Fence.wide 0 P fn tmps R (bs.map fun b=>{ target:=.collected b,args:=#[] }) .returning w'
 | [],w',_,_,h=>hfin w' h
 | b::bs,w',hnd,hb,h=>by
  rw [List.nodup_cons] at hnd
  have h1:=hb b (by simp)
  refine ⟨by simp,.inl ⟨b,_,rfl,run_takeDeferred h1.2,?_⟩⟩
  refine qrm hb0 hfin bs _ hnd.2 (fun c hc=>⟨(hb c (by simp [hc])).1,?_⟩) (Adv.put_new h (by omega) h1.2 ⟨by simp,by simp⟩)
  rw [World.putObj_heap_other (fun e=>hnd.1 (by rw [← e]; exact hc))]
  exact (hb c (by simp [hc])).2
theorem z7d {P:Program} {T:Tb} (hT:qet P T) {f:FuncId} {fn:Func} {c:Code} {args:List U} {σ:Sg} {R:U→Sg→Prop} (hf:T.fn f=some fn) (hb:fn.body=some c)
  (h:WPU (PG.top P) σ.nx c (qve fn.ntmps args) σ fun e tm' σ'=>(e = .normal∨e = .ret)∧∃ l,qkk T σ' tm' fn.results.toList=some l∧∃ u' σ'',σ.nx≤σ''.nx∧Gh σ.nx [ql0 l] σ' [u'] σ''∧R u' σ''):EvU P f args σ R:=fun F x vs m w cargs hx hh hfr he hfit hargs=>by
 obtain ⟨hf0,_⟩:=hT.fn f fn hf
 have hcl:cargs.length=vs.length:=by rw [← hargs.at]; simp
 refine (callsIn_wide (n:=0)).1 (callsIn_of_wp_marks hf0 hb trivial ?_ rfl)
 have hact:qqv m x.s.nx (pad fn.ntmps vs) { tmps:=cargs.toArray++Array.replicate (fn.ntmps - cargs.toArray.size) undef,defers:=[] }:=fun m' hm'=>by
  simp only [qzx,q2j,hargs m' hm',hcl,List.size_toArray]
  apply Array.ext'
  simp [q1b,ren,undef]
 refine wpIn_mono (h (zF _) F x _ m w _ w.heap.size hx ⟨hh,hfr,qn4 _ he,hfit,hact⟩ ⟨Nat.zero_le _,trivial⟩ ⟨fun _=>rfl,fun _=>⟨zF _,[],List.nodup_nil,rfl,fun b hb=>by cases hb⟩⟩ none rfl) ?_
 rintro e a' w' ⟨y,tm',tv',m',⟨hex,l,hres,u',σ'',hnx,hgh,hR⟩,st',hadv,hke,hn,hdf⟩
 obtain ⟨ls,hres',hrl⟩:=qqi st'.h st'.e hres
 obtain ⟨z,z1,z2,z3,z4,z5,z6⟩:=hgh F y [qqt ls] rfl st'.h st'.fr (q0t.cons (qzs hrl) (q0t.nil y))
 obtain ⟨v0,vs0,e0,z7,_⟩:=z5.inv
 cases e0
 obtain ⟨_,bs,d1,d2,d3⟩:=hdf.ok rfl
 have hfin:∀ w2,Adv m x.s w m' y.s w2→∃ v,(results fn a'.tmps).run P w2 = .ok v w2∧∃ y m₁ u v0 cv,(Ending.returned v) = .returned cv∧R u y.σ∧Adv m x.s w m₁ y.s w2∧q5y m₁ y.s.nx v0 cv∧qcs y∧Fr F y∧Rel y u v0∧Ke x.σ.nx x y∧x.σ.nx≤y.σ.nx:=fun w2 hA=>by
  have hrun:∀ m'',Agree y.s.nx m' m''→(results fn a'.tmps).run P w2 = .ok (ren m'' (qqt ls)) w2:=fun m'' hm''=>by
   rw [st'.act m'' hm'']
   exact qkl hT (hA.fits m'' hm'') hres'
  have hrel:q5y m' y.s.nx (qqt ls) (ren m' (qqt ls)):=fun m'' hm''=>by
   have e1:=hrun m'' hm''
   rw [hrun m' (Agree.refl _ _)] at e1
   simp at e1
   exact e1.symm
  have hadv2:=z1 m' w2 hA.fits
  exact ⟨_,hrun m' (Agree.refl _ _),z,m',u',qqt ls,_,rfl,z2 ▸ hR,hA.trans hadv2,hrel.ext (Agree.refl _ _) hadv2.nx,z3,z4,z7,hx ▸ hke.trans z6,by rw [hx,z2]; exact hnx⟩
 have hl:=qrm (P:=P) (fn:=fn) (tmps:=a'.tmps) (R:=fun e w₁=>∃ y m₁ u v cv,e = .returned cv∧R u y.σ∧Adv m x.s w m₁ y.s w₁∧q5y m₁ y.s.nx v cv∧qcs y∧Fr F y∧Rel y u v∧Ke x.σ.nx x y∧x.σ.nx≤y.σ.nx) (zF _) hfin bs w' d1 d3 hadv
 rw [← d2] at hl
 rcases hex with rfl | rfl
 ·exact hl
 ·exact hl
end Go.Vx
end
section
namespace Go.Vx
open Go Go.Rx
def dmy:List Oper→List U→Sg→List q39
 | [],_,_=>[]
 | o::r,tm,σ=>⟨tm,o,.junk,false,true,σ,σ⟩::dmy r (q3t tm o.dst .junk) σ
def z47:List Oper→List U→List U
 | [],tm=>tm
 | o::r,tm=>z47 r (q3t tm o.dst .junk)
theorem z48 {P:Program} {T:Tb} {ops:List Oper}:∀ (l:List Oper) (tm:List U) (σ:Sg),(dmy l tm σ).length=l.length∧uAt (dmy l tm σ) σ 0=σ∧vAt (dmy l tm σ) (z47 l tm) 0=tm ∧
  ∀ (i:Nat) (r:q39),(dmy l tm σ)[i]? = some r→l[i]? = some r.o∧Good P T ops r∧r.act=false∧r.s=σ∧uAt (dmy l tm σ) σ (i+1)=r.s'∧vAt (dmy l tm σ) (z47 l tm) (i+1)=q3t r.tm r.o.dst r.u
 | [],tm,σ=>⟨rfl,rfl,rfl,fun i r h=>by simp [dmy] at h⟩
 | o::l,tm,σ=>by
  obtain ⟨g1,g2,g3,g4⟩:=z48 (P:=P) (T:=T) (ops:=ops) l (q3t tm o.dst .junk) σ
  refine ⟨by simp [dmy,g1],rfl,rfl,fun i r h=>?_⟩
  cases i with
  | zero =>
   simp [dmy] at h
   subst h
   refine ⟨rfl,.inr (.inr (.inr (.inr (.inl ⟨rfl,rfl,rfl⟩)))),rfl,rfl,?_,?_⟩
   ·simpa [uAt,dmy] using g2
   ·simpa [vAt,dmy,z47] using g3
  | succ i =>
   simp only [dmy,zH] at h
   obtain ⟨k1,k2,k3,k4,k5,k6⟩:=g4 i r h
   refine ⟨by simpa using k1,k2,k3,k4,?_,?_⟩
   ·simpa [uAt,dmy] using k5
   ·simpa [vAt,dmy,z47] using k6
def qvz:List Nat→Nat→Nat→Bool
 | [],_,_=>true
 | m::l,i,k=>(Nat.blt i k || Nat.beq (m % 2 ^ i) (2 ^ i - 1))&&qvz l (i+1) k
def sufOk (ops:List Oper) (k:Nat):Bool:=qvz (masks ops []) 0 k
theorem qsq:∀ {l:List Nat} {b k:Nat},qvz l b k=true→∀ {j m:Nat},l[j]? = some m→k≤b+j→∀ i,i<b+j→m.testBit i=true
 | [],b,k,_,j,m,hm=>by simp at hm
 | x::l,b,k,h,j,m,hm=>fun hk i hi=>by
  simp only [qvz,Bool.and_eq_true] at h
  cases j with
  | zero =>
   simp at hm
   subst hm
   have h1:=h.1
   rw [Bool.or_eq_true] at h1
   rcases h1 with h1 | h1
   ·have:b<k:=by simpa [Nat.blt_eq] using h1
    omega
   ·have e:x % 2 ^ b=2 ^ b - 1:=Nat.eq_of_beq_eq_true h1
    have hb:i<b:=by omega
    have h2:(x % 2 ^ b).testBit i=x.testBit i:=by rw [Nat.testBit_mod_two_pow]; simp [hb]
    rw [← h2,e,Nat.testBit_two_pow_sub_one]
    simp [hb]
  | succ j =>
   simp only [zH] at hm
   exact qsq h.2 hm (by omega) i (by omega)
theorem z0s {ops:List Oper} {k:Nat} (h:sufOk ops k=true) {i j:Nat} (hk:k≤i) (hi:i<ops.length) (hj:j<i):Pre ops i j:=by
 have hl:(masks ops []).length=ops.length:=by have:=(qfi ops []).1; simpa using this
 have hm:(masks ops [])[i]? = some ((masks ops [])[i]'(by omega)):=List.getElem?_eq_getElem (by omega)
 exact ⟨_,hm,qsq h hm (by omega) j (by omega)⟩
section
variable {P:Program} {ops:Array Oper} (hst:q6g ops.toList=true)
include hst
omit hst in
theorem qn8 (listed:Array Bool) (i:Nat):i∈Region.ready .any ops listed↔i<ops.size∧listed.getD i true=false∧∃ o,ops[i]? = some o∧∀ e∈o.after.toList,Region.binds .any e=true→listed.getD e.on false=true:=by
 unfold Region.ready
 rw [List.mem_filter,List.mem_range]
 refine and_congr_right fun hi=>?_
 have ho:ops[i]? = some ops[i]:=by simp [hi]
 simp only [ho,zM,Option.getD_some,Bool.and_eq_true,Bool.not_eq_true',Array.all_eq_true_iff_forall_mem,Bool.or_eq_true]
 refine and_congr_right fun _=>?_
 constructor
 ·intro h
  refine ⟨_,rfl,fun e he hb=>?_⟩
  rcases h e (by simpa using he) with h1 | h1
  ·simp [hb] at h1
  ·exact h1
 ·rintro ⟨o,ho',h⟩ e he
  cases ho'
  cases hb:Region.binds .any e with
  | false=>exact .inl rfl
  | true=>exact .inr (h e (by simpa using he) hb)
theorem qvl {listed:Array Bool} (hsz:listed.size=ops.size) (hnil:Region.ready .any ops listed=[]):∀ n,n<ops.size→listed.getD n true=false→False:=by
 intro n
 induction n using Nat.strongRecOn with
 | _ n ihn =>
  intro hn1 hn2
  have:n∈Region.ready .any ops listed:=(qn8 listed n).2 ⟨hn1,hn2,ops[n],by simp [hn1],fun e he hb=>by
   have hlt:=qx4 hst (i:=n) (o:=ops[n]) (by simp [hn1]) e he hb
   have hk':e.on<listed.size:=by omega
   cases hv:listed[e.on] with
   | true=>simp [Array.getD,hk',hv]
   | false=>exact (ihn e.on hlt (by omega) (by simp [Array.getD,hk',hv])).elim⟩
  rw [hnil] at this
  cases this
omit hst in
theorem qai {listed:Array Bool} {i:Nat} (hi:i<listed.size) (k:Nat):((listed.setIfInBounds i true).getD k false=true)↔(listed.getD k false=true∨k=i):=by
 by_cases hk:k=i
 ·subst hk; simp [Array.getD,hi]
 ·by_cases hks:k<listed.size
  ·simp [Array.getD,hks,hk,Ne.symm hk]
  ·simp [Array.getD,hks,hk]
omit hst in
theorem qop {listed:Array Bool} {i fuel:Nat} (hi:i<listed.size) (hil:listed.getD i true=false) (hcnt:listed.toList.count false=fuel+1):(listed.setIfInBounds i true).toList.count false=fuel:=by
 have hv:listed[i]=false:=by simpa [Array.getD,hi] using hil
 rw [Array.toList_setIfInBounds,List.count_set (by simpa using hi)]
 have hc2:Array.count false listed=fuel+1:=by simpa using hcnt
 simp [hv]
 omega
theorem z2b {ro:Option Nat} {E:Exit→Act→World→Prop} {k:Nat} (hsuf:∀ i j,k≤i→i<ops.size→j<i→Pre ops.toList i j) :
  ∀ (fuel j:Nat) (listed:Array Bool) (a:Act) (w:World),listed.size=ops.size→k≤j→j≤ops.size→(∀ e,listed.getD e false=true↔e<j)→listed.toList.count false=fuel→wpOpsIn (qmn ro) 0 P ops E (List.range' j (ops.size - j)) a w→wpAnyIn (qmn ro) 0 P .any ops E fuel listed a w:=by
 intro fuel
 induction fuel with
 | zero =>
  intro j listed a w hsz hkj hj hL hcnt h
  have hall:j=ops.size:=by
   rcases Nat.lt_or_ge j ops.size with hlt | hge
   ·exfalso
    have hk':j<listed.size:=by omega
    have h1:listed[j]=false:=by
     have:¬ listed.getD j false=true:=fun h=>Nat.lt_irrefl _ ((hL j).1 h)
     simpa [Array.getD,hk'] using this
    have hm:false∈listed.toList:=by rw [← h1]; simp
    have:=List.count_pos_iff.2 hm
    omega
   ·omega
  subst hall
  refine ⟨?_,?_⟩
  ·apply List.filter_eq_nil_iff.2
   intro q hq
   simp only [List.mem_range] at hq
   have hk':q<listed.size:=by omega
   have:=(hL q).2 hq
   simp [Array.getD,hk'] at this
   simp [Array.getD,hk',this]
  ·simpa [wpOpsIn] using h
 | succ fuel ih =>
  intro j listed a w hsz hkj hj hL hcnt h
  have hlt:j<ops.size:=by
   rcases Nat.lt_or_ge j ops.size with hlt | hge
   ·exact hlt
   ·exfalso
    have hpos:0<listed.toList.count false:=by omega
    obtain ⟨i,hi,e⟩:=List.mem_iff_getElem.1 (List.count_pos_iff.1 hpos)
    simp at hi
    simp only [Array.getElem_toList] at e
    have:=(hL i).2 (by omega)
    simp [Array.getD,hi,e] at this
  have hjl:j<listed.size:=by omega
  have hjf:listed.getD j true=false:=by
   have:¬ listed.getD j false=true:=fun h=>Nat.lt_irrefl _ ((hL j).1 h)
   simpa [Array.getD,hjl] using this
  refine ⟨fun hnil=>(qvl hst hsz hnil j hlt hjf).elim,fun i hi=>?_⟩
  obtain ⟨hi1,hi2,o,ho,hedges⟩:=(qn8 listed i).1 hi
  have hij:i=j:=by
   rcases Nat.lt_trichotomy i j with h1 | h1 | h1
   ·have h2:=(hL i).2 h1
    have hil:i<listed.size:=by omega
    simp [Array.getD,hil] at h2 hi2
    rw [h2] at hi2; cases hi2
   ·exact h1
   ·have hp:=hsuf i j (by omega) hi1 h1
    have hcl:Closed ops.toList (fun e=>listed.getD e false=true):=fun q p hq hp' e he hb=>by
     have h3:=qx4 hst hp' e he hb
     exact (hL e.on).2 (by have:=(hL q).1 hq; omega)
    have:=q63 hst hcl (i:=i) (fun q hq e he hb=>by
     have hol:ops.toList[i]? = some o:=by simpa using ho
     rw [hol] at hq; cases hq; exact hedges e he hb) hp
    have:=(hL j).1 this
    omega
  subst hij
  have hr:List.range' i (ops.size - i)=i::List.range' (i+1) (ops.size - (i+1)):=by
   rw [show ops.size - i=(ops.size - (i+1))+1 by omega,List.range'_succ]
  rw [hr,wpOpsIn_cons] at h
  exact wpOpIn_mono (fun a1 w1 h1=>ih (i+1) _ a1 w1 (by simpa using hsz) (by omega) (by omega) (fun e=>by rw [qai hjl,hL]; omega) (qop hjl hjf hcnt) h1) h
end
section
variable {P:Program} {T:Tb} (hT:qet P T) (ops:Array Oper) {tm₀:List U} {σ₀:Sg} {rs:List q39} {tm':List U}
 (htr:TrU P T ops.toList tm₀ σ₀ rs tm' σ₀) (hst:q6g ops.toList=true)
include hT htr hst
theorem z5e {ro:Option Nat} {n0:Nat} {F:Nat→Blk→Prop} {x0:Cx} {m0:Nm} {w0:World} {E:Exit→Act→World→Prop} {df:List Deferred} {k:Nat} (hkn:k≤ops.size) (hlook:∀ (i:Nat) (r:q39),rs[i]? = some r→r.act=false∧r.s=σ₀∧(i<k→r.mv=false))
  (hsuf:∀ i j,k≤i→i<ops.size→j<i→Pre ops.toList i j)
  (hS:∀ (fuel:Nat) (listed:Array Bool) (a:Act) (w:World) (m:Nm) (tv:List Value) (x:Cx),listed.size=ops.size→listed.toList.count false=fuel→(∀ e,listed.getD e false=true↔e<k)→x.σ=σ₀→St F x (vAt rs tm' k) tv m w a→Adv m0 x0.s w0 m x.s w→Ke n0 x0 x→n0≤x.σ.nx→a.defers=df→wpAnyIn (qmn ro) 0 P .any ops E fuel listed a w) :
  ∀ (fuel:Nat) (listed:Array Bool) (a:Act) (w:World) (m:Nm) (tm:List U) (tv:List Value) (x:Cx),listed.size=ops.size→listed.toList.count false=fuel →
   Closed ops.toList (fun e=>listed.getD e false=true)→(∀ e,listed.getD e false=true→e<k)→qjo tm₀ rs (fun e=>listed.getD e false=true) tm→x.σ=σ₀→St F x tm tv m w a→Adv m0 x0.s w0 m x.s w→Ke n0 x0 x→n0≤x.σ.nx→a.defers=df →
   wpAnyIn (qmn ro) 0 P .any ops E fuel listed a w:=by
 have hn:rs.length=ops.size:=by simpa using htr.len
 intro fuel
 induction fuel with
 | zero =>
  intro listed a w m tm tv x hsz hcnt hcl hlt hsees hxσ hstt hadv hke hnx hdf
  have hall:∀ e,e<ops.size→listed.getD e false=true:=fun e he=>by
   have hk':e<listed.size:=by omega
   have:listed[e]≠false:=fun hf=>by
    have hm:false∈listed.toList:=by rw [← hf]; simp
    have:=List.count_pos_iff.2 hm
    omega
   have this':listed[e]=true:=by simpa using this
   simp [Array.getD,hk',this']
  have et:tm=vAt rs tm' k:=by
   have h1:=qjc ops htr hst k (by omega)
   exact qkn (L:=fun e=>e<k) ⟨hsees.len,fun e r d g1 g2 g3 g4=>hsees.yes e r d g1 g2 g3 (hall e (by omega)),fun e r d g1 g2 g3=>hsees.no e r d g1 g2 (fun h=>g3 (hlt e h)),hsees.other⟩ h1
  subst et
  exact hS 0 listed a w m tv x hsz hcnt (fun e=>⟨hlt e,fun he=>hall e (by omega)⟩) hxσ hstt hadv hke hnx hdf
 | succ fuel ih =>
  intro listed a w m tm tv x hsz hcnt hcl hlt hsees hxσ hstt hadv hke hnx hdf
  by_cases hfull:∀ e,e<k→listed.getD e false=true
  ·have et:tm=vAt rs tm' k:=by
    have h1:=qjc ops htr hst k (by omega)
    exact qkn (L:=fun e=>e<k) ⟨hsees.len,fun e r d g1 g2 g3 g4=>hsees.yes e r d g1 g2 g3 (hfull e g4),fun e r d g1 g2 g3=>hsees.no e r d g1 g2 (fun h=>g3 (hlt e h)),hsees.other⟩ h1
   subst et
   exact hS (fuel+1) listed a w m tv x hsz hcnt (fun e=>⟨hlt e,hfull e⟩) hxσ hstt hadv hke hnx hdf
  obtain ⟨e0,he0,hne0⟩:∃ e,e<k∧¬ listed.getD e false=true:=by
   apply Classical.byContradiction
   intro hno
   exact hfull fun e he=>Classical.byContradiction fun h=>hno ⟨e,he,h⟩
  refine ⟨fun hnil=>?_,fun i hi=>?_⟩
  ·refine (qvl hst hsz hnil e0 (by omega) ?_).elim
   have hl:e0<listed.size:=by omega
   simpa [Array.getD,hl] using hne0
  obtain ⟨hilt,hil,o,ho,hedges⟩:=(qn8 listed i).1 hi
  have hisz:i<listed.size:=by omega
  have hLi:¬ listed.getD i false=true:=by
   simp [Array.getD,hisz] at hil ⊢
   exact hil
  have hol:ops.toList[i]? = some o:=by simpa using ho
  obtain ⟨r,hr,hro⟩:=z0b ops htr hol
  subst hro
  have hrd:∀ q,ops.toList[i]? = some q→∀ e∈q.after.toList,Region.binds .any e=true→listed.getD e.on false=true:=fun q hq=>by
   rw [hol] at hq; cases hq; exact hedges
  have hik:i<k:=by
   rcases Nat.lt_or_ge i k with h | h
   ·exact h
   ·exact absurd (q63 hst hcl hrd (hsuf i e0 h hilt (by omega))) hne0
  have hlooks:=qhx ops htr hst hcl hsees hr hLi hrd
  obtain ⟨_,hgood,hs1,_⟩:=htr.all i r hr
  obtain ⟨ha,hrs,hmv⟩:=hlook i r hr
  have hmv:=hmv hik
  have hss:r.s'=σ₀:=by rw [hgood.quiet ha,hrs]
  have hcl':Closed ops.toList (fun e=>(listed.setIfInBounds i true).getD e false=true):=fun q p hk hq e he hb=>by
   refine (qai hisz e.on).2 (.inl ?_)
   rcases (qai hisz q).1 hk with hk | rfl
   ·exact hcl q p hk hq e he hb
   ·exact hrd p hq e he hb
  have hsees':qjo tm₀ rs (fun e=>(listed.setIfInBounds i true).getD e false=true) (q3t tm r.o.dst r.u):=by
   have:=qjd ops htr hst hsees hr
   exact ⟨this.len,fun q p d a b c hL=>this.yes q p d a b c ((qai hisz q).1 hL),fun q p d a b hL=>this.no q p d a b fun x=>hL ((qai hisz q).2 x),this.other⟩
  obtain ⟨hopc,hwc⟩:=qze hlooks
  have stay:∀ y tv' m₁ w₁ a₁,y.σ=σ₀→St F y (q3t tm r.o.dst r.u) tv' m₁ w₁ a₁→Adv m0 x0.s w0 m₁ y.s w₁→Ke n0 x0 y→n0≤y.σ.nx→a₁.defers=df→wpAnyIn (qmn ro) 0 P .any ops E fuel (listed.setIfInBounds i true) a₁ w₁:=fun y tv' m₁ w₁ a₁ h1 h2 h3 h4 h5 h6 =>
   ih _ _ _ m₁ _ tv' y (by simpa using hsz) (qop hisz hil hcnt) hcl' (fun e he=>by
    rcases (qai hisz e).1 he with h | h
    ·exact hlt e h
    ·omega) hsees' h1 h2 h3 h4 h5 h6
  unfold wpOpIn
  simp only [ho]
  rw [qg2 (hstt.act m (Agree.refl _ _)) ops r.o]
  rcases hgood with ⟨hw,hu,ha',_⟩ | ⟨hw,hop,hqu⟩ | ⟨hw,ha',_⟩ | ⟨hw,ha',_,hfree⟩ | ⟨ha',hm',_⟩ | ⟨hw,ha',_⟩
  ·rw [q1m hstt.e (hwc.trans hw)]
   simp only [Bool.false_eq_true,if_false]
   rw [hu] at stay
   exact ⟨fun _ _=>trivial,stay x _ m w _ hxσ (hstt.skip r.o.dst) hadv hke hnx ((q5h _ _ _).trans hdf)⟩
  ·rw [q1m hstt.e (hwc.trans hw)]
   simp only [if_true]
   have hop':opU T x.σ tm r.o.op=some (r.u,σ₀):=by rw [hxσ,q96 hopc]; rw [hrs,hss] at hop; exact hop
   exact q5x (qgy hop') (hstt.op hT r.o hop' fun y tv' m₁ w₁ a₁ e1 st' hadv' hke' hnx' hdf'=>stay y tv' m₁ w₁ a₁ e1 st' (hadv.trans hadv') (hke.trans (hke'.le hnx)) (by omega) (hdf'.trans hdf))
  ·rw [ha] at ha'; cases ha'
  ·rw [q1m hstt.e (hwc.trans hw)]
   simp only [if_true]
   exact q5x (hfree.congr hopc).nd (hstt.free hT r.o (hfree.congr hopc) fun y tv' m₁ w₁ a₁ e1 st' hadv' hke' hnx' hdf'=>stay y tv' m₁ w₁ a₁ (e1.trans hxσ) st' (hadv.trans hadv') (hke.trans (hke'.le hnx)) (by omega) (hdf'.trans hdf))
  ·rw [hmv] at hm'; cases hm'
  ·rw [ha] at ha'; cases ha'
end
theorem WPU.drawS {C:PG} {T:Tb} (hT:qet C.prog T) (k:Nat) {n0:Nat} {Q:Exit→List U→Sg→Prop} {tm:List U} {σ:Sg} {id:Nat} {ops:Array Oper} (hst:q6g ops.toList=true) (hkn:Nat.ble k ops.toList.length=true) (hsuf:sufOk ops.toList k=true)
  (h:RH C.prog T ops.toList (ops.toList.take k) tm σ [] (fun acc tmk σk=>(acc.all fun x=>Nat.ble x.1 1)=true∧RU C T ops.toList (ops.toList.drop k) tmk σk (fun tm' σ'=>Q .normal tm' σ'))):WPU C n0 (.region id ops true) tm σ Q:=fun hn F x tv m w a b0 hx st hG hd ro hro=>by
 refine wpIn_region_any hT.mixed ?_
 have hkn':k≤ops.size:=by simpa [Nat.ble_eq] using hkn
 obtain ⟨rs,tmk,σk,⟨ks,hks,hkind,hall,hRU⟩,g2,g3,g4,g5⟩:=z67 _ _ _ _ (RH.rd h)
 have hlen:rs.length=k:=by rw [g2,List.length_take]; simp; omega
 have hlook:∀ (i:Nat) (r:q39),rs[i]? = some r→r.act=false∧r.mv=false:=fun i r hr=>by
  rw [← hks,List.getElem?_map] at hr
  cases hq:ks[i]? with
  | none=>rw [hq] at hr; cases hr
  | some q =>
   rw [hq] at hr; cases hr
   have hmem:q∈ks:=by rw [List.mem_iff_getElem?]; exact ⟨i,hq⟩
   have h1:Nat.ble q.1 1=true:=List.all_eq_true.1 hall q (by simp [hmem])
   rw [Nat.ble_eq] at h1
   rcases hkind q hmem with ⟨_,_,h2,h3⟩ | ⟨_,h2,h3⟩ | ⟨h2,_⟩ | ⟨h2,_⟩
   ·exact ⟨h2,h3⟩
   ·exact ⟨h2,h3⟩
   ·omega
   ·omega
 have hsame:∀ p,p≤rs.length→uAt rs σk p=σ:=by
  intro p
  induction p with
  | zero=>intro _; exact g3
  | succ p ih =>
   intro hp
   have hr:rs[p]? = some rs[p]:=by simp [show p<rs.length by omega]
   obtain ⟨_,q2,q3,_⟩:=g5 p _ hr
   have h1:=ih (by omega)
   have h2:uAt rs σk p=(rs[p]'(by omega)).s:=by simp [uAt,hr]
   rw [q3,q2.quiet (hlook p _ hr).1,← h2,h1]
 have hσk:σk=σ:=by
  have:=hsame rs.length (zF _)
  simpa [uAt] using this
 subst hσk
 obtain ⟨d1,d2,d3,d4⟩:=z48 (P:=C.prog) (T:=T) (ops:=ops.toList) (ops.toList.drop k) tmk σk
 have hL:∀ p,(rs++dmy (ops.toList.drop k) tmk σk)[p]? = if p<k then rs[p]? else (dmy (ops.toList.drop k) tmk σk)[p - k]?:=fun p=>by
  rw [List.getElem?_append,hlen]
 have hu:∀ p,p≤k→uAt (rs++dmy (ops.toList.drop k) tmk σk) σk p=uAt rs σk p:=fun p hp=>by
  unfold uAt
  rw [hL]
  by_cases hpk:p<k
  ·rw [if_pos hpk]
  ·have:p=k:=by omega
   subst this
   rw [if_neg hpk,Nat.sub_self,List.getElem?_eq_none (l:=rs) (by omega)]
   have:=d2
   unfold uAt at this
   cases hz:(dmy (ops.toList.drop p) tmk σk)[0]? with
   | none=>rfl
   | some q=>rw [hz] at this; exact this
 have hv:∀ p,p≤k→vAt (rs++dmy (ops.toList.drop k) tmk σk) (z47 (ops.toList.drop k) tmk) p=vAt rs tmk p:=fun p hp=>by
  unfold vAt
  rw [hL]
  by_cases hpk:p<k
  ·rw [if_pos hpk,List.getElem?_eq_getElem (by omega)]
  ·have:p=k:=by omega
   subst this
   rw [if_neg hpk,Nat.sub_self,List.getElem?_eq_none (l:=rs) (by omega)]
   have:=d3
   unfold vAt at this
   cases hz:(dmy (ops.toList.drop p) tmk σk)[0]? with
   | none=>rw [hz] at this; exact this
   | some q=>rw [hz] at this; exact this
 have htr:TrU C.prog T ops.toList tm σk (rs++dmy (ops.toList.drop k) tmk σk) (z47 (ops.toList.drop k) tmk) σk:=by
  refine ⟨?_,(hu 0 (Nat.zero_le _)).trans g3,(hv 0 (Nat.zero_le _)).trans g4,fun i r hr=>?_⟩
  ·rw [List.length_append,d1,hlen,List.length_drop]; simp; omega
  ·rw [hL] at hr
   by_cases hik:i<k
   ·rw [if_pos hik] at hr
    obtain ⟨q1,q2,q3,q4,_⟩:=g5 i r hr
    refine ⟨?_,q2,(hu (i+1) (by omega)).trans q3,(hv (i+1) (by omega)).trans q4⟩
    rw [List.getElem?_take] at q1
    simpa [hik] using q1
   ·rw [if_neg hik] at hr
    obtain ⟨q1,q2,q3,q4,q5,q6⟩:=d4 (i - k) r hr
    refine ⟨?_,q2,?_,?_⟩
    ·rw [List.getElem?_drop] at q1
     rwa [show k+(i - k)=i by omega] at q1
    ·rw [← q5]; unfold uAt; rw [hL,if_neg (by omega),show i+1 - k=i - k+1 by omega]
    ·rw [← q6]; unfold vAt; rw [hL,if_neg (by omega),show i+1 - k=i - k+1 by omega]
 have hno:∀ k,(Array.replicate ops.size false).getD k false=false:=fun k=>by
  by_cases hk:k<ops.size<;>simp [Array.getD,hk]
 have hpre:∀ i j,k≤i→i<ops.size→j<i→Pre ops.toList i j:=fun i j h1 h2 h3=>z0s hsuf h1 (by simpa using h2) h3
 have vk:vAt (rs++dmy (ops.toList.drop k) tmk σk) (z47 (ops.toList.drop k) tmk) k=tmk:=by
  rw [hv k (zF _)]; unfold vAt; rw [List.getElem?_eq_none (by omega)]
 refine z5e (ro:=ro) hT ops htr hst (n0:=n0) (F:=F) (x0:=x) (m0:=m) (w0:=w) (df:=a.defers) (k:=k) hkn' (fun i r hr=>?_) hpre (fun fuel listed a' w' m' tv' y h1 h2 h3 h4 h5 h6 h7 h8 h9=>?_) ops.size (Array.replicate ops.size false) a _ m tm tv x (by simp) (by simp) ?_ ?_ ?_ hx ⟨st.h,st.fr,st.e,(Adv.draw _ st.fits).fits,st.act⟩ (Adv.draw _ st.fits) (Ke.refl _ _) (hx ▸ hn) rfl
 ·rw [hL] at hr
  by_cases hik:i<k
  ·rw [if_pos hik] at hr
   refine ⟨(hlook i r hr).1,?_,fun _=>(hlook i r hr).2⟩
   have h1:=hsame i (by omega)
   simpa [uAt,hr] using h1
  ·rw [if_neg hik] at hr
   obtain ⟨q1,q2,q3,q4,_⟩:=d4 (i - k) r hr
   exact ⟨q3,q4,fun h=>absurd h hik⟩
 ·rw [vk] at h5
  refine z2b hst hpre fuel k listed a' w' h1 (zF _) hkn' h3 h2 ?_
  have:=qu1 hT ops (qw7 C n0 F x m w a.defers b0 Q) (F:=F) (x0:=x) (m0:=m) (w0:=w) (df:=a.defers) (fun tm' σ'=>Q .normal tm' σ') hG st.fits ro hro (ops.toList.drop k) k rfl y tmk tv' m' w' a' h5 h9 h6 h7 h8 (h4 ▸ hRU)
   (fun z tm' tv' m' w' a' q1 q2 q3 q4 q5 q6=>⟨z,tm',tv',m',q1,q2,q3,q4,q5,by rw [q6]; exact hd.adv st.fits q3⟩)
  rw [List.length_drop] at this
  simpa using this
 ·intro k q hk; rw [hno] at hk; cases hk
 ·intro e he; rw [hno] at he; cases he
 ·have:=qgm (rs:=rs++dmy (ops.toList.drop k) tmk σk) (tm₀:=tm)
  exact ⟨this.len,fun k r d _ _ _ hL=>(by rw [hno] at hL; cases hL),fun k r d g1 g2 _=>this.no k r d g1 g2 (fun x=>x),this.other⟩
end Go.Vx
end
section
namespace Go.Vx
open Go Go.Rx
theorem z6a {F:Nat→Blk→Prop} {y:Cx} {K:Nat} {l:List U} {e:TypeId} {sz t n:Nat} {h:List (Nat×B)} (hy:y.σ=⟨(K,.vec l e sz t)::h,K+1⟩) (hh:qcs y) (hf:Fr F y) (hb:∀ k b,gt h k=some b→k<K∧qkq K b) (hl:q1g 0 l) :
  ∃ y':Cx,y'.σ=⟨(K,.vec l e sz 0)::h,K+1⟩∧y'.s=y.s∧qcs y'∧Fr F y'∧Ke K y y'∧∀ v,Rel y (.vl K t 0 n) v→Rel y' (.vl K 0 0 n) v:=by
 have gy:∀ j,gt y.σ.h j=if K=j then some (.vec l e sz t) else gt h j:=fun j=>by rw [hy]; exact q11 _ _ _ _
 have gy':∀ j,gt ((K,B.vec l e sz 0)::h) j=if K=j then some (.vec l e sz 0) else gt h j:=fun j=>q11 _ _ _ _
 have hnx:y.σ.nx=K+1:=by rw [hy]
 let y':Cx:=⟨y.ρ,⟨(K,.vec l e sz 0)::h,K+1⟩,y.s⟩
 have hmo:Mo K y y':=by
  refine ⟨fun j h1 h2=>⟨by show j<K+1; omega,fun b' hb'=>?_⟩,fun _ _ _ h=>h⟩
  have hb2:gt ((K,B.vec l e sz 0)::h) j=some b':=hb'
  rw [gy',if_neg (by omega)] at hb2
  exact ⟨b',by rw [gy,if_neg (by omega)]; exact hb2,zF _,fun _=>⟨rfl,fun l e sz st h=>⟨l,h⟩⟩⟩
 refine ⟨y',rfl,rfl,⟨fun j b hbj=>?_,fun j j' b b' i hbj hbj' h1 h2=>?_,hh.bd⟩,fun i b hF=>?_,hmo.ke,fun v hv=>?_⟩
 ·have hb2:gt ((K,B.vec l e sz 0)::h) j=some b:=hbj
  rw [gy'] at hb2
  by_cases e1:K=j
  ·subst e1
   rw [if_pos rfl] at hb2
   cases hb2
   refine ⟨by show K<K+1; omega,?_⟩
   obtain ⟨_,q1,q2,q3⟩:=hh.ok K (.vec l e sz t) (by rw [gy,if_pos rfl])
   refine ⟨q1,q2,?_⟩
   rcases q3 with q3 | ⟨i,l',r1,r2,r3⟩
   ·exact .inl q3
   ·exact .inr ⟨i,l',r1,r2,hmo.ke.E (q1g.le (Nat.zero_le _) l hl) r3⟩
  ·rw [if_neg e1] at hb2
   obtain ⟨h1,h2⟩:=hb j b hb2
   refine ⟨by show j<K+1; omega,?_⟩
   exact (hh.ok j b (by rw [gy,if_neg e1]; exact hb2)).2.monoB h2 hmo rfl fun _ _ _ h=>h
 ·have key:∀ j b,gt ((K,B.vec l e sz 0)::h) j=some b→∃ c,gt y.σ.h j=some c:=fun j b hb=>by
   rw [gy'] at hb
   by_cases e1:K=j
   ·exact ⟨_,by rw [gy,if_pos e1]⟩
   ·rw [if_neg e1] at hb; exact ⟨b,by rw [gy,if_neg e1]; exact hb⟩
  obtain ⟨c,g1⟩:=key j b hbj
  obtain ⟨c',g2⟩:=key j' b' hbj'
  exact hh.inj j j' c c' i g1 g2 h1 h2
 ·obtain ⟨h1,h2⟩:=hf i b hF
  refine ⟨h1,fun j c hc=>?_⟩
  have hc2:gt ((K,B.vec l e sz 0)::h) j=some c:=hc
  rw [gy'] at hc2
  by_cases e1:K=j
  ·exact h2 j _ (by rw [gy,if_pos e1])
  ·rw [if_neg e1] at hc2; exact h2 j c (by rw [gy,if_neg e1]; exact hc2)
 ·simp only [Rel] at hv ⊢
  refine ⟨hv.1,by show K<K+1; omega,fun b hb=>?_⟩
  have hb2:gt ((K,B.vec l e sz 0)::h) K=some b:=hb
  rw [gy',if_pos rfl] at hb2
  cases hb2
  obtain ⟨_,g2⟩:=hv.2.2 (.vec l e sz t) (by rw [gy,if_pos rfl])
  obtain ⟨l2,e2,sz2,g3,g4⟩:=g2 rfl
  cases g3
  exact ⟨zF _,fun _=>⟨l,e,sz,rfl,g4⟩⟩
theorem z7e {α:Type} (c:α→List U) {P:Program} {f:FuncId} {ys:List α} {e:TypeId} {sz:Nat} {as:List U} [hc:BF c] [ha:BUL 0 as] {k:Nat}
  (h:EvU P f as ⟨[],0⟩ (fun u σ'=>∃ t',u = .vl k t' 0 ys.length∧σ'=⟨[(k,.vec (ys.map c).flatten e sz t')],k+1⟩))
  (σ:Sg) (K:Nat) (hK:σ.nx+k=K) :
  EvU P f as σ (fun u σ'=>u = .vl K 0 0 ys.length∧σ'=⟨(K,.vec (ys.map c).flatten e sz 0)::σ.h,K+1⟩):=fun F x vs m w cargs hx hh hfr he hfit hargs=>by
 have h1:=EvU.own1 c h σ K hK
 refine (h1 F x vs m w cargs hx hh hfr he hfit hargs).mono ?_
 rintro e' w₁ ⟨y,m₁,u,v,cv,q1,⟨t',rfl,q3⟩,q4,q5,q6,q7,q8,q9,q10⟩
 obtain ⟨y',z1,z2,z3,z4,z5,z6⟩:=z6a (F:=F) q3 q6 q7 (fun k b hb=>by
  have:=hh.ok k b (by rw [hx]; exact hb)
  rw [hx] at this
  refine ⟨by omega,?_⟩
  have hbel:=this.2.belB
  rw [hx] at hbel
  cases b with
  | row l e=>exact q1g.le (by omega) l hbel
  | vec l e s st=>exact q1g.le (by omega) l hbel
  | map es cl=>exact fun e he=>⟨Bel.le (by omega) _ (hbel e he).1,Bel.le (by omega) _ (hbel e he).2⟩) (q3a 0 (hc.h 0) ys)
 exact ⟨y',m₁,_,v,cv,q1,⟨rfl,z1⟩,by rw [z2]; exact q4,by rw [z2]; exact q5,z3,z4,z6 v q8,q9.trans (z5.le (by rw [hx]; omega)),by rw [z1,hx]; show σ.nx≤K+1; omega⟩
theorem RD.callm {P:Program} {T:Tb} {ops r:List Oper} {o:Oper} {n:Nat} {l:List (Nat×U)} {σ σ1:Sg} {acc:List RK} {K:List RK→List U→Sg→Prop} {u:U} {f:FuncId} {args:List U} (hw:q07 ops (fr n l) o=some true) (hc:q4x T (fr n l) o.op=some (f,args)) (hev:EvU P f args σ (fun u' σ'=>u'=u∧σ'=σ1)) {d:Tmp} (he:o.dst=some d) (hd:Nat.blt d n=true)
  (hk:RH P T ops r (fr n ((d,u)::l)) σ1 ((3,⟨fr n l,o,u,true,true,σ,σ1⟩)::acc) K):RH P T ops (o::r) (fr n l) σ acc K :=
 RH.callM hw hc hev (by rw [he,q52 (d:=some d) u hd]; exact hk)
def andI (k:IntKind) (a b:Int):Int:=k.wrap (BitVec.ofInt k.bits a &&& BitVec.ofInt k.bits b).toNat
def orI (k:IntKind) (a b:Int):Int:=k.wrap (BitVec.ofInt k.bits a ||| BitVec.ofInt k.bits b).toNat
def qp8 (k:IntKind) (a b:Int):Int:=k.wrap (BitVec.ofInt k.bits a &&& ~~~ BitVec.ofInt k.bits b).toNat
theorem qz5 (k:IntKind) (a b:Int):qeu .andNot k a k b=some (.int k (qp8 k a b)):=by simp [qeu,qp8]
theorem z4i (k:IntKind) (a b:Int):qeu .and k a k b=some (.int k (andI k a b)):=by simp [qeu,andI]
theorem ix_or (k:IntKind) (a b:Int):qeu .or k a k b=some (.int k (orI k a b)):=by simp [qeu,orI]
def z0r (s:List UInt8) (i:Int):Option Int:=if 0≤i∧i<(s.length:Int) then (s[i.toNat]?).map fun b=>(b.toNat:Int) else none
theorem qpy {T:Tb} {σ:Sg} {n:Nat} {l:List (Nat×U)} {t:TypeId} {x y:Operand} {s:List UInt8} {k:IntKind} {i z:Int} (hd:T.und t=some .string) (hx:evS n l x=some (.str s)) (hy:evS n l y=some (.int k i)) (h:z0r s i=some z):opU T σ (fr n l) (.index t x y)=some (.int .u8 z,σ):=by
 unfold z0r at h
 split at h
 ·rename_i hp
  cases hb:s[i.toNat]? with
  | none=>rw [hb] at h; cases h
  | some b =>
   rw [hb] at h
   simp only [zM,zA] at h
   subst h
   have e1:inR i s.length=true:=qio hp
   refine qs0 ?_
   simp only [q2d,q1s hx,q1s hy,quw,g2,toV,qmq,hd,e1,zC,q1k,hb,ofV]
 ·cases h
end Go.Vx
end
section
namespace Go.Vx
open Go Go.Rx
theorem EvU.strJoin {P:Program} {f:FuncId} {l:List (List UInt8)} {sep r:List UInt8} {t:Bool}
  (h0:l=[]→∀ a c w,Calls P f #[.slice a 0 c,.string ⟨⟨sep⟩⟩] w fun e w'=>e = .returned (.string ⟨⟨r⟩⟩)∧RowKit.Below w.heap.size w w')
  (h1:∀ bk o c w,(∀ (j:Nat) x,l[j]? = some x→w.cell? ⟨bk,o+j,none⟩=some (.string ⟨⟨x⟩⟩))→bk<w.heap.size→l.length≤c →
   Calls P f #[.slice (some ⟨bk,o,none⟩) l.length c,.string ⟨⟨sep⟩⟩] w fun e w'=>e = .returned (.string ⟨⟨r⟩⟩)∧RowKit.Below w.heap.size w w')
  (σ:Sg):EvU P f [.isl t (l.map fun s=>[.str s]),.str sep] σ (fun u σ'=>u = .str r∧σ'=σ):=fun F x vs m w cargs hx hh hfr he hfit hargs=>by
 obtain ⟨v0,vs0,rfl,r0,he⟩:=he.inv
 obtain ⟨v1,vs1,rfl,r1,he⟩:=he.inv
 have:=he.nil_inv
 subst this
 simp only [Rel] at r0 r1
 subst r1
 have hca:=hargs.at
 have key:Calls P f cargs.toArray w fun e w'=>e = .returned (.string ⟨⟨r⟩⟩)∧RowKit.Below w.heap.size w w':=by
  simp only [q0m,ren] at hca
  subst hca
  rcases r0 with ⟨hl,h⟩ | ⟨i,off,c,rfl,_,h⟩
  ·have hl':l=[]:=by simpa using hl
   rcases h with rfl | ⟨q,rfl⟩
   ·exact h0 hl' none 0 w
   ·exact h0 hl' (some ⟨m.blk q,m.sh q,some (m.cp q)⟩) 0 w
  ·rw [List.length_map]
   by_cases hl':l=[]
   ·subst hl'
    exact h0 rfl _ _ w
   rcases h with h | ⟨row,e,sz,hlk,hR,hcap⟩
   ·exact absurd (by simpa using h) hl'
   have hfm:=hfit m (Agree.refl _ _)
   obtain ⟨cs,e',fr,hheap,hcell,hn⟩:=(hfm.ok i _ hlk:qex m i row e w 1)
   have hsz:sz=1:=by
    cases l with
    | nil=>exact absurd rfl hl'
    | cons s l=>have:=(qgk hR 0 [.str s] (by simp)).1; simpa using this.symm
   subst hsz
   refine h1 (m.blk i) (m.sh i+off) _ w (fun j s hj=>?_) (hfm.size hlk) ?_
   ·have h2:=qgk hR j [.str s] (by simp [hj])
    obtain ⟨v,g1,g2⟩:=(q5t x _ _).1 h2.2.2 0 (.str s) rfl
    simp only [Rel] at g2
    subst g2
    rw [List.getElem?_drop,List.getElem?_drop] at g1
    have h3:=hcell _ _ g1
    simp only [World.cell?,hheap]
    simp only [Option.isSome_none,Bool.false_eq_true,if_false,id]
    rw [show m.sh i+off+j=m.sh i+(off+(j*1+0)) by omega]
    simpa [ren] using h3
   ·rcases hcap with ⟨h3,h4⟩ | ⟨h3,h4,_,h5,h6⟩
    ·simpa [capOf,h3] using h4
    ·have h7:=hn 1 (by omega)
     have h8:¬ c<q05:=by omega
     simp only [List.length_map] at h6
     simp only [capOf,h8,if_false]
     omega
 refine key.mono ?_
 rintro e w' ⟨rfl,hb⟩
 have hsame:∀ b,b<w.heap.size→w'.heap[b]? = w.heap[b]?:=fun b hlt=>hb.block b hlt
 refine ⟨x,m,.str r,.string ⟨⟨r⟩⟩,.string ⟨⟨r⟩⟩,rfl,⟨rfl,hx⟩,⟨Agree.refl _ _,zF _,fun m' hm'=>?_,fun b h=>.inl h,fun b hlt _=>hsame b hlt,hb.size,hb.os,hb.tape,hb.output⟩,fun m' _=>by simp [ren],hh,hfr,by simp [Rel],Ke.refl _ _,zF _⟩
 have hfm:=hfit m' hm'
 exact ⟨fun i b hb=>(hfm.ok i b hb).world (hsame _ (hfm.size hb)),hfm.inj,hfm.bd⟩
theorem EvU.viewT {P:Program} {f:FuncId} {args args':List U} {σ:Sg} {us:List U} {rs:List Value} (h:EvU P f args ⟨[],0⟩ (fun u' _=>u' = .tup us∧Bel 0 u')) (ha:q1g 0 args) (hu:qp4 us=some rs) (hren:∀ m,q0m m rs=rs) {σ1:Sg} (hg:Gh 0 args' σ args σ1):EvU P f args' σ (fun u' σ'=>u' = .tup us∧σ'=σ):=fun F x vs m w cargs hx hh hfr he hfit hargs=>by
 obtain ⟨y1,a1,a2,a3,a4,a5,a6⟩:=hg F x vs hx hh hfr he
 have hadv1:=a1 m w hfit
 have hadv2:=Adv.less hadv1.fits (qk1 y1.s)
 have hmo:Mo 0 y1 (cx (qd0 y1.s)):=⟨fun k hk=>by omega,fun i row e hl=>by show lk (qd0 y1.s).h i=_; rw [q5c,hl]; rfl⟩
 have hno:∀ b,¬ z1l m (qd0 y1.s) b:=fun b ⟨i,c,hc,ho,_⟩=>by
  rw [q5c] at hc
  obtain ⟨_,l,e,rfl⟩:=q60 hc
  simp [Rx.Own] at ho
 refine (h (fun _ _=>False) (cx (qd0 y1.s)) vs m w cargs rfl ⟨fun k b hb=>by simp [cx,gt] at hb,fun k k' b b' i hb=>by simp [cx,gt] at hb,fun i b hb=>?_⟩ (fun _ _ hF=>hF.elim) (hmo.ke.E ha a5) hadv2.fits (hargs.ext (Agree.refl _ _) (Nat.le_trans hadv1.nx hadv2.nx))).mono ?_
 ·have hb':lk (qd0 y1.s).h i=some b:=hb
  rw [q5c] at hb'
  exact a3.bd i b (q60 hb').1
 rintro e w₂ ⟨y2,m₂,u',v',cv,rfl,⟨rfl,_⟩,hadv,hrel,_,_,hru,_,_⟩
 simp only [Rel] at hru
 obtain ⟨vs2,rfl,hv1,hv2⟩:=hru
 have hv:=(q6h us rs hu y2 vs2).1 ⟨hv1,hv2⟩
 subst hv
 have hcv:cv = .tuple ⟨vs2⟩:=by rw [← hrel.at]; simp only [ren,renA_mk,hren]
 subst hcv
 have hsame:∀ b,b<w.heap.size→w₂.heap[b]? = w.heap[b]?:=fun b hlt=>hadv.same b hlt (hno b)
 refine ⟨x,m,.tup us,.tuple ⟨vs2⟩,.tuple ⟨vs2⟩,rfl,⟨rfl,hx⟩,⟨Agree.refl _ _,zF _,fun m' hm'=>?_,fun b h=>.inl h,fun b hlt _=>hsame b hlt,hadv.size,hadv.os,hadv.tape,hadv.output⟩,fun m' _=>by simp only [ren,renA_mk,hren],hh,hfr,by simp only [Rel]; exact ⟨vs2,rfl,((q6h us vs2 hu x vs2).2 rfl).1,((q6h us vs2 hu x vs2).2 rfl).2⟩,Ke.refl _ _,zF _⟩
 have hfm:=hfit m' hm'
 exact ⟨fun i b hb=>(hfm.ok i b hb).world (hsame _ (hfm.size hb)),hfm.inj,hfm.bd⟩
theorem EvU.of_bel {P:Program} {f:FuncId} {us:List U} {vs:List Value} {u:U} {cv:Value} (hv:qp4 us=some vs) (hr:∀ m,q0m m vs=vs) (hu:toV u=some cv) (hru:∀ m,ren m cv=cv) (h:∀ w,Calls P f vs.toArray w fun e w'=>e = .returned cv∧RowKit.Below w.heap.size w w') (σ:Sg):EvU P f us σ (fun u' σ'=>u'=u∧σ'=σ):=fun F x ws m w cargs hx hh hfr he hfit hargs=>by
 have:=(q6h us vs hv x ws).1 he
 subst this
 have hca:cargs=ws:=by rw [← hargs.at,hr]
 subst hca
 refine (h w).mono ?_
 rintro e w' ⟨rfl,hb⟩
 have hsame:∀ b,b<w.heap.size→w'.heap[b]? = w.heap[b]?:=fun b hlt=>hb.block b hlt
 refine ⟨x,m,u,cv,cv,rfl,⟨rfl,hx⟩,⟨Agree.refl _ _,zF _,fun m' hm'=>?_,fun b h=>.inl h,fun b hlt _=>hsame b hlt,hb.size,hb.os,hb.tape,hb.output⟩,fun m' _=>hru m',hh,hfr,(q4r u cv hu x cv).2 rfl,Ke.refl _ _,zF _⟩
 have hfm:=hfit m' hm'
 exact ⟨fun i b hb=>(hfm.ok i b hb).world (hsame _ (hfm.size hb)),hfm.inj,hfm.bd⟩
theorem EvU.strsNew {P:Program} {f:FuncId} {us:List U} {vs:List Value} (hv:qp4 us=some vs) (hr:∀ m,q0m m vs=vs) {ps:List (List UInt8)} {N:Nat} {e0:TypeId}
  (h:∀ w,Calls P f vs.toArray w fun e w'=>e = .returned (.slice (some ⟨w.heap.size,0,none⟩) ps.length N)∧∃ cells,w'=w.alloc (.cells cells e0)∧∀ (j:Nat) x,ps[j]? = some x→cells[j]? = some (.string ⟨⟨x⟩⟩))
  (hN:ps.length≤N) (hNb:N<q05) (σ:Sg):EvU P f us σ (fun u σ'=>u = .isl false (ps.map fun s=>[.str s])∧σ'=σ):=fun F x ws m w cargs hx hh hfr he hfit hargs=>by
 have:=(q6h us vs hv x ws).1 he
 subst this
 have hca:cargs=ws:=by rw [← hargs.at,hr]
 subst hca
 refine (h w).mono ?_
 rintro e w' ⟨rfl,cells,rfl,hcell⟩
 have hadv:=Adv.alloc hfit (.cells cells e0) (.inl (ps.map fun s=>Value.string ⟨⟨s⟩⟩,0,1)) 0 (fun m' ha=>by
  have h1:=ha x.s.nx (zN _)
  simp only [Nm.set,if_true] at h1
  refine ⟨cells,e0,(0,0),?_,fun k v hk=>?_,fun n hn=>by cases hn⟩
  ·rw [h1.1]; exact Array.getElem?_push_size
  ·rw [List.getElem?_map] at hk
   cases hp:ps[k]? with
   | none=>rw [hp] at hk; cases hk
   | some s =>
    rw [hp] at hk
    cases hk
    rw [h1.2.1,Nat.zero_add,hcell k s hp]
    simp [ren])
 have hlk:∀ i c,lk x.s.h i=some c→lk ((x.s.nx,(.inl (ps.map fun s=>Value.string ⟨⟨s⟩⟩,0,1):Blk))::x.s.h) i=some c:=fun i c hc=>by
  have:=hh.bd i c hc
  rw [q1n,if_neg (by omega)]
  exact hc
 let y:Cx:=⟨x.ρ,x.σ,⟨(x.s.nx,.inl (ps.map fun s=>Value.string ⟨⟨s⟩⟩,0,1))::x.s.h,x.s.nx+1⟩⟩
 have hmo:∀ n,Mo n x y:=fun n=>⟨fun k _ h2=>⟨h2,fun b hb=>⟨b,hb,zF _,fun _=>⟨rfl,fun l e sz st h=>⟨l,h⟩⟩⟩⟩,fun i row e hl=>hlk i _ hl⟩
 refine ⟨y,_,.isl false (ps.map fun s=>[.str s]),.slice (some ⟨x.s.nx,0,none⟩) ps.length N,_,rfl,⟨rfl,hx⟩,hadv,fun m' ha=>?_,⟨fun k b hb=>⟨(hh.ok k b hb).1,(hh.ok k b hb).2.mono (hmo _) rfl fun i c _ hc=>hlk i c hc⟩,hh.inj,fun i b hb=>?_⟩,fun i b hF=>⟨hlk i b (hfr i b hF).1,(hfr i b hF).2⟩,?_,(hmo _).ke,zF _⟩
 ·have h1:=ha x.s.nx (zN _)
  simp only [Nm.set,if_true] at h1
  simp only [ren,h1.1,h1.2.1,capOf,hNb,if_true,Nat.add_zero]
 ·simp only [y,q1n] at hb
  by_cases e:x.s.nx=i
  ·subst e; exact zN _
  ·simp only [e,if_false] at hb; exact Nat.lt_succ_of_lt (hh.bd i b hb)
 ·simp only [Rel]
  refine .inr ⟨x.s.nx,0,N,by rw [List.length_map],(fun h=>by cases h),?_⟩
  by_cases hp:ps=[]
  ·left; simp [hp]
  refine .inr ⟨ps.map fun s=>Value.string ⟨⟨s⟩⟩,0,1,by simp [y,q1n],?_,.inl ⟨hNb,by simpa using hN⟩⟩
  rw [List.drop_zero]
  refine qu0 fun i c hc=>?_
  rw [List.getElem?_map] at hc
  cases hi:ps[i]? with
  | none=>rw [hi] at hc; cases hc
  | some s =>
   rw [hi] at hc
   cases hc
   refine ⟨rfl,rfl,(q5t _ _ _).2 fun j u hu=>?_⟩
   cases j with
   | zero =>
    cases hu
    refine ⟨.string ⟨⟨s⟩⟩,?_,by simp [Rel]⟩
    rw [List.getElem?_drop,List.getElem?_map,Nat.mul_one,Nat.add_zero,hi]
    rfl
   | succ j=>simp at hu
end Go.Vx
end
section
namespace Go.Vx
open Go Go.Rx
class qoa {α:Type} (c:α→List U) (n:outParam Nat):Prop where
 h:∀ x,(c x).length=n
instance (k:IntKind):qoa (cI k) 1:=⟨q6o k⟩
instance:qoa cS 1:=⟨qgx⟩
instance {α:Type} (c:α→List U):qoa (cL c) 1:=⟨qfd c⟩
abbrev U.iM {α:Type} (c:α→List U) (l:List α):U:=.isl false (List.map c l)
abbrev U.i6 (z:Int):U:=.int .i64 z
theorem pC {P:Program} {f:FuncId} {args:List U} {u:U} (h:EvU P f args ⟨[],0⟩ (fun u' _=>u'=u∧Bel 0 u')) [q:BUL 0 args] (σ:Sg):EvU P f args σ (fun u' σ'=>u'=u∧σ'=σ):=z78 h σ
theorem sI {α:Type} {a b:α} (h:some a=some b):a=b:=Option.some.inj h
class Nq (a b:Nat):Prop where
 h:Nat.beq a b=false
instance {b:Nat}:Nq 0 (b+1):=⟨rfl⟩
instance {b:Nat}:Nq (b+1) 0:=⟨rfl⟩
instance {a b:Nat} [q:Nq a b]:Nq (a+1) (b+1):=⟨q.h⟩
class GtC (h:List (Nat×B)) (K:Nat) (b:outParam B):Prop where
 h:gt h K=some b
instance (priority:=low) {K k:Nat} {x b:B} {t:List (Nat×B)} [n:Nq k K] [g:GtC t K b]:GtC ((k,x)::t) K b:=⟨by simp only [gt,n.h,zD,g.h]⟩
instance {K:Nat} {b:B} {t:List (Nat×B)}:GtC ((K,b)::t) K b:=⟨by simp [gt]⟩
class NMp (b:B):Prop where
 h:∀ es cl,b ≠ .map es cl
instance {l:List U} {e:TypeId}:NMp (.row l e):=⟨fun _ _=>nofun⟩
instance {l:List U} {e:TypeId} {s t:Nat}:NMp (.vec l e s t):=⟨fun _ _=>nofun⟩
class Ck (n sz:Nat) (l:List U) (r:outParam (List (List U))):Prop where
 h:n*sz≤l.length
 e:chunks sz n l=r
instance {s:Nat} {l:List U}:Ck 0 s l []:=⟨by omega,by simp [chunks]⟩
instance {n:Nat} {a:U} {l:List U} {r:List (List U)} [q:Ck n 1 l r]:Ck (n+1) 1 (a::l) ([a]::r):=⟨by have:=q.h; simp; omega,by have:=q.e; simp [chunks,this]⟩
instance {n:Nat} {a b:U} {l:List U} {r:List (List U)} [q:Ck n 2 l r]:Ck (n+1) 2 (a::b::l) ([a,b]::r):=⟨by have:=q.h; simp; omega,by have:=q.e; simp [chunks,this]⟩
instance {n:Nat} {a b c:U} {l:List U} {r:List (List U)} [q:Ck n 3 l r]:Ck (n+1) 3 (a::b::c::l) ([a,b,c]::r):=⟨by have:=q.h; simp; omega,by have:=q.e; simp [chunks,this]⟩
instance (priority:=low) {α:Type} {c:α→List U} {x:α} {sz:Nat} [q:qoa c sz]:Ck 1 sz (c x) [c x]:=⟨by have:=q.h x; omega,by have:=q.h x; simp [chunks,← this]⟩
class FzU (K:Nat) (b:B) (sz:Nat) (u:U) (u':outParam U):Prop where
 h:fz K b sz u=u'
class FzL (K:Nat) (b:B) (sz:Nat) (l:List U) (l':outParam (List U)):Prop where
 h:fzL K b sz l=l'
section
variable {K:Nat} {b:B} {sz:Nat}
instance (priority:=low) {l:List U} [q:BUL K l]:FzL K b sz l l:=⟨q36 b sz l q.h⟩
instance:FzL K b sz [] []:=⟨qbr K b sz⟩
instance {u u':U} {l l':List U} [a:FzU K b sz u u'] [q:FzL K b sz l l']:FzL K b sz (u::l) (u'::l'):=⟨by rw [q67,a.h,q.h]⟩
instance {k:IntKind} {z:Int}:FzU K b sz (.int k z) (.int k z):=⟨qih K b sz k z⟩
instance {x:List UInt8}:FzU K b sz (.str x) (.str x):=⟨qij K b sz x⟩
instance:FzU K b sz .nils .nils:=⟨qdf K b sz⟩
instance {t:Bool} {l:List (List U)}:FzU K b sz (.isl t l) (.isl t l):=⟨qii K b sz t l⟩
instance {l l':List U} [q:FzL K b sz l l']:FzU K b sz (.agg l) (.agg l'):=⟨by rw [qig,q.h]⟩
instance {l l':List U} [q:FzL K b sz l l']:FzU K b sz (.tup l) (.tup l'):=⟨by rw [qik,q.h]⟩
instance {f:Fn} {a a' c c':List U} [q:FzL K b sz a a'] [r:FzL K b sz c c']:FzU K b sz (.fn f a c) (.fn f a' c'):=⟨by rw [qnv,q.h,r.h]⟩
instance {k st off n:Nat} [q:Nq k K]:FzU K b sz (.vl k st off n) (.vl k st off n):=⟨q93 q.h b sz st off n⟩
instance {k off n c:Nat} [q:Nq k K]:FzU K b sz (.sl k off n c) (.sl k off n c):=⟨q92 q.h b sz off n c⟩
instance {k st off:Nat} [q:Nq k K]:FzU K b sz (.ptr k st off) (.ptr k st off):=⟨q91 q.h b sz st off⟩
end
instance {α:Type} {c:α→List U} {sz s K st:Nat} {l:List α} {e:TypeId} [q:qoa c sz]:FzU K (.vec (l.map c).flatten e sz st) s (.vl K st 0 l.length) (.isl false (l.map c)):=⟨z2s q.h l K s e st⟩
instance {K sz n:Nat} {l:List U} {e:TypeId} {r:List (List U)} [q:Ck n sz l r]:FzU K (.row l e) sz (.sl K 0 n n) (.isl false r):=⟨by rw [fz_sl K l e sz n q.h,q.e]⟩
instance {K sz:Nat} {l:List U} {e:TypeId}:FzU K (.row l e) sz (.ptr K 0 0) (.iptr l):=⟨fz_p0 K l e sz⟩
instance {K sz:Nat} {b:B} {u u':U} [q:FzU K b sz u u']:FzU K b sz (ql0 [u]) u':=⟨q.h⟩
instance {K sz:Nat} {b:B} {u v u':U} {l:List U} [q:FzU K b sz (.tup (u::v::l)) u']:FzU K b sz (ql0 (u::v::l)) u':=⟨q.h⟩
class FzB (K:Nat) (b:B) (sz:Nat) (x:B) (x':outParam B):Prop where
 h:fzB K b sz x=x'
instance {K sz:Nat} {b:B} {l l':List U} {e:TypeId} [q:FzL K b sz l l']:FzB K b sz (.row l e) (.row l' e):=⟨by rw [fzB,q.h]⟩
instance {K sz:Nat} {b:B} {l l':List U} {e:TypeId} {s st:Nat} [q:FzL K b sz l l']:FzB K b sz (.vec l e s st) (.vec l' e s st):=⟨by rw [fzB,q.h]⟩
class FzH (K:Nat) (b:B) (sz:Nat) (h:List (Nat×B)) (h':outParam (List (Nat×B))):Prop where
 h:fzH K b sz h=h'
section
variable {K:Nat} {b:B} {sz:Nat}
instance:FzH K b sz [] []:=⟨rfl⟩
instance (priority:=low) {k:Nat} {c c':B} {h h':List (Nat×B)} [n:Nq k K] [p:FzB K b sz c c'] [q:FzH K b sz h h']:FzH K b sz ((k,c)::h) ((k,c')::h'):=⟨by simp only [fzH,n.h,zD,p.h,q.h]⟩
instance {c:B} {h h':List (Nat×B)} [q:FzH K b sz h h']:FzH K b sz ((K,c)::h) h':=⟨by simp [fzH,q.h]⟩
end
class FzS (K:Nat) (b:B) (sz:Nat) (l:List (Nat×U)) (l':outParam (List (Nat×U))):Prop where
 h:fzS K b sz l=l'
instance {K:Nat} {b:B} {sz:Nat}:FzS K b sz [] []:=⟨rfl⟩
instance {K:Nat} {b:B} {sz i:Nat} {u u':U} {l l':List (Nat×U)} [a:FzU K b sz u u'] [q:FzS K b sz l l']:FzS K b sz ((i,u)::l) ((i,u')::l'):=⟨by rw [fzS,a.h,q.h]⟩
theorem z6r {n0:Nat} {tm tm':List U} {nx:Nat} {h h':List (Nat×B)} {b:B} (K sz:Nat) [g:GtC h K b] [m:NMp b] [t:FzL K b sz tm tm'] [q:FzH K b sz h h']:Gh n0 tm ⟨h,nx⟩ tm' ⟨h',nx⟩:=Gh.fz K b sz g.h m.h t.h q.h
theorem z7a {n0 n:Nat} {l l':List (Nat×U)} {nx:Nat} {h h':List (Nat×B)} {b:B} (K sz:Nat) [g:GtC h K b] [m:NMp b] [t:FzS K b sz l l'] [q:FzH K b sz h h']:Gh n0 (fr n l) ⟨h,nx⟩ (fr n l') ⟨h',nx⟩:=Gh.fzS K b sz g.h m.h t.h q.h
class UgC (h:List (Nat×B)) (K:Nat) (b:B) (h':outParam (List (Nat×B))):Prop where
 h:ug h K b=h'
instance {K:Nat} {x b:B} {t:List (Nat×B)}:UgC ((K,x)::t) K b ((K,b)::t):=⟨by simp [ug]⟩
instance (priority:=low) {K k:Nat} {x b:B} {t t':List (Nat×B)} [n:Nq k K] [g:UgC t K b t']:UgC ((k,x)::t) K b ((k,x)::t'):=⟨by simp only [ug,n.h,zD,g.h]⟩
class WkC (l:List U) (l':outParam (List U)):Prop where
 h:WkL l l'
instance:WkC [] []:=⟨.nil⟩
instance (priority:=low) {u:U} {l l':List U} [q:WkC l l']:WkC (u::l) (u::l'):=⟨.cons (.refl _) q.h⟩
instance {l l':List U} [q:WkC l l']:WkC (.nils::l) (.isl false []::l'):=⟨.cons (.nil false) q.h⟩
theorem z7g {n0:Nat} {tm:List U} {nx:Nat} {h h':List (Nat×B)} {q q':List U} {e:TypeId} (K:Nat) [g:GtC h K (.row q e)] [w:WkC q q'] [u:UgC h K (.row q' e) h'] (hk:okL q'=true:=by exact rfl):Gh n0 tm ⟨h,nx⟩ tm ⟨h',nx⟩:=by
 have:=Gh.rowW (n0:=n0) (tm:=tm) (σ:=⟨h,nx⟩) g.h hk w.h
 simp only [u.h] at this
 exact this
theorem NZ {n:Nat}:0≤n:=Nat.zero_le n
theorem NL {a b:Nat} (h:Nat.ble a b=true:=by exact rfl):a≤b:=Nat.le_of_ble_eq_true h
theorem sB {a b:Nat} (h:Nat.ble a b=true):a≤b:=Nat.le_of_ble_eq_true h
theorem bg0 {P:Program} {T:Tb} [t:TbP P T] {f:FuncId} {fn:Func} {k:Code} {σ:Sg} {R:U→Sg→Prop} (n:Nat) (hf:T.fn f=some fn) (h:WPU (PG.of P) σ.nx k (fr n []) σ fun e tm' σ'=>(e = .normal∨e = .ret)∧∃ l,qkk T σ' tm' fn.results.toList=some l∧∃ u' σ'',σ.nx≤σ''.nx∧Gh σ.nx [ql0 l] σ' [u'] σ''∧R u' σ'') (hn:fn.ntmps=n:=by exact rfl) (hb:fn.body=some k:=by exact rfl) (hk:Nat.ble 0 n=true:=by exact rfl):EvU P f [] σ R:=z6z t.ok hf hb (WPU.ghost (by rw [hn]; exact z71 (sB hk)) (zF _) h)
theorem bg1 {P:Program} {T:Tb} [t:TbP P T] {f:FuncId} {fn:Func} {k:Code} {a:U} {σ:Sg} {R:U→Sg→Prop} (n:Nat) (hf:T.fn f=some fn) (h:WPU (PG.of P) σ.nx k (fr n [(0,a)]) σ fun e tm' σ'=>(e = .normal∨e = .ret)∧∃ l,qkk T σ' tm' fn.results.toList=some l∧∃ u' σ'',σ.nx≤σ''.nx∧Gh σ.nx [ql0 l] σ' [u'] σ''∧R u' σ'') (hn:fn.ntmps=n:=by exact rfl) (hb:fn.body=some k:=by exact rfl) (hk:Nat.ble 1 n=true:=by exact rfl):EvU P f [a] σ R:=z6z t.ok hf hb (WPU.ghost (by rw [hn]; exact z71 (sB hk)) (zF _) h)
theorem bg2 {P:Program} {T:Tb} [t:TbP P T] {f:FuncId} {fn:Func} {k:Code} {a b:U} {σ:Sg} {R:U→Sg→Prop} (n:Nat) (hf:T.fn f=some fn) (h:WPU (PG.of P) σ.nx k (fr n [(0,a),(1,b)]) σ fun e tm' σ'=>(e = .normal∨e = .ret)∧∃ l,qkk T σ' tm' fn.results.toList=some l∧∃ u' σ'',σ.nx≤σ''.nx∧Gh σ.nx [ql0 l] σ' [u'] σ''∧R u' σ'') (hn:fn.ntmps=n:=by exact rfl) (hb:fn.body=some k:=by exact rfl) (hk:Nat.ble 2 n=true:=by exact rfl):EvU P f [a,b] σ R:=z6z t.ok hf hb (WPU.ghost (by rw [hn]; exact z71 (sB hk)) (zF _) h)
theorem bg3 {P:Program} {T:Tb} [t:TbP P T] {f:FuncId} {fn:Func} {k:Code} {a b c:U} {σ:Sg} {R:U→Sg→Prop} (n:Nat) (hf:T.fn f=some fn) (h:WPU (PG.of P) σ.nx k (fr n [(0,a),(1,b),(2,c)]) σ fun e tm' σ'=>(e = .normal∨e = .ret)∧∃ l,qkk T σ' tm' fn.results.toList=some l∧∃ u' σ'',σ.nx≤σ''.nx∧Gh σ.nx [ql0 l] σ' [u'] σ''∧R u' σ'') (hn:fn.ntmps=n:=by exact rfl) (hb:fn.body=some k:=by exact rfl) (hk:Nat.ble 3 n=true:=by exact rfl):EvU P f [a,b,c] σ R:=z6z t.ok hf hb (WPU.ghost (by rw [hn]; exact z71 (sB hk)) (zF _) h)
theorem bg4 {P:Program} {T:Tb} [t:TbP P T] {f:FuncId} {fn:Func} {k:Code} {a b c d:U} {σ:Sg} {R:U→Sg→Prop} (n:Nat) (hf:T.fn f=some fn) (h:WPU (PG.of P) σ.nx k (fr n [(0,a),(1,b),(2,c),(3,d)]) σ fun e tm' σ'=>(e = .normal∨e = .ret)∧∃ l,qkk T σ' tm' fn.results.toList=some l∧∃ u' σ'',σ.nx≤σ''.nx∧Gh σ.nx [ql0 l] σ' [u'] σ''∧R u' σ'') (hn:fn.ntmps=n:=by exact rfl) (hb:fn.body=some k:=by exact rfl) (hk:Nat.ble 4 n=true:=by exact rfl):EvU P f [a,b,c,d] σ R:=z6z t.ok hf hb (WPU.ghost (by rw [hn]; exact z71 (sB hk)) (zF _) h)
theorem bg5 {P:Program} {T:Tb} [t:TbP P T] {f:FuncId} {fn:Func} {k:Code} {a b c d e:U} {σ:Sg} {R:U→Sg→Prop} (n:Nat) (hf:T.fn f=some fn) (h:WPU (PG.of P) σ.nx k (fr n [(0,a),(1,b),(2,c),(3,d),(4,e)]) σ fun e tm' σ'=>(e = .normal∨e = .ret)∧∃ l,qkk T σ' tm' fn.results.toList=some l∧∃ u' σ'',σ.nx≤σ''.nx∧Gh σ.nx [ql0 l] σ' [u'] σ''∧R u' σ'') (hn:fn.ntmps=n:=by exact rfl) (hb:fn.body=some k:=by exact rfl) (hk:Nat.ble 5 n=true:=by exact rfl):EvU P f [a,b,c,d,e] σ R:=z6z t.ok hf hb (WPU.ghost (by rw [hn]; exact z71 (sB hk)) (zF _) h)
class WkU (u u':U):Prop where
 h:Wk u u'
class WkT (l l':List U):Prop where
 h:WkL l l'
instance (priority:=low) {u:U}:WkU u u:=⟨.refl u⟩
instance:WkU .nils (.isl false []):=⟨.nil false⟩
instance {l l':List U} [q:WkT l l']:WkU (.agg l) (.agg l'):=⟨.agg q.h⟩
instance {l l':List U} [q:WkT l l']:WkU (.tup l) (.tup l'):=⟨.tup q.h⟩
instance {u u':U} [q:WkU u u']:WkU (ql0 [u]) u':=⟨q.h⟩
instance {u v u':U} {l:List U} [q:WkU (.tup (u::v::l)) u']:WkU (ql0 (u::v::l)) u':=⟨q.h⟩
instance:WkT [] []:=⟨.nil⟩
instance {u u':U} {l l':List U} [a:WkU u u'] [q:WkT l l']:WkT (u::l) (u'::l'):=⟨.cons a.h q.h⟩
theorem lC {I:Nat→List U→Sg→Prop} {m n0 n n1 nx:Nat} {l l':List (Nat×U)} {h h':List (Nat×B)} (hI:I m (fr n l') ⟨h',n1⟩) (ht:z1i l l':=by ((repeat refine ⟨rfl,?_⟩); exact trivial)) (hs:Vx.cut n1 h=h':=by exact rfl) (h1:n0≤n1:=by first | exact Nat.zero_le _ | exact Nat.le_of_ble_eq_true rfl) (h2:n1≤nx:=by exact Nat.le_of_ble_eq_true rfl) [hb:BS n1 l'] [hh:BH n1 h']:∃ n' tm' σ',n'<m+1∧I n' tm' σ'∧n0≤σ'.nx∧Gh n0 (fr n l) ⟨h,nx⟩ tm' σ':=⟨m,_,_,zN _,hI,h1,Gh.toC ht hs h1 h2⟩
theorem xC {E:List U→Sg→Prop} {n0 n n1 nx:Nat} {l l':List (Nat×U)} {h h':List (Nat×B)} (hE:E (fr n l') ⟨h',n1⟩) (ht:z1i l l':=by ((repeat refine ⟨rfl,?_⟩); exact trivial)) (hs:Vx.cut n1 h=h':=by exact rfl) (h1:n0≤n1:=by first | exact Nat.zero_le _ | exact Nat.le_of_ble_eq_true rfl) (h2:n1≤nx:=by exact Nat.le_of_ble_eq_true rfl) [hb:BS n1 l'] [hh:BH n1 h']:∃ tm' σ',E tm' σ'∧n0≤σ'.nx∧Gh n0 (fr n l) ⟨h,nx⟩ tm' σ':=⟨_,_,hE,h1,Gh.toC ht hs h1 h2⟩
section
variable {T:Tb} {n:Nat} {l:List (Nat×U)} {σ:Sg} {rs:List ResultVar}
theorem rT {us:List U} {u:U} (hr:qkk T σ (fr n l) rs=some us) (hg:Gh 0 [ql0 us] σ [u] ⟨[],0⟩) [q:BU 0 u]:(Exit.ret = .normal∨Exit.ret = .ret)∧∃ l',qkk T σ (fr n l) rs=some l'∧∃ u' σ'',(⟨[],0⟩:Sg).nx≤σ''.nx∧Gh (⟨[],0⟩:Sg).nx [ql0 l'] σ [u'] σ''∧u'=u∧Bel 0 u':=⟨.inr rfl,us,hr,u,⟨[],0⟩,zF _,hg,rfl,q.h⟩
theorem rt1 {a:Tmp} {t:List ResultVar} {u v:U} (ht:rs = .tmp a::t) (h:evS n l (.tmp a)=some v) (h0:t=[]) (hu:v=u) [q:BU 0 u]:(Exit.ret = .normal∨Exit.ret = .ret)∧∃ l',qkk T σ (fr n l) rs=some l'∧∃ u' σ'',(⟨[],0⟩:Sg).nx≤σ''.nx∧Gh (⟨[],0⟩:Sg).nx [ql0 l'] σ [u'] σ''∧u'=u∧Bel 0 u':=by
 subst ht; subst h0; subst hu
 exact rT (q1y h q1t) (z6y _ rfl)
theorem rt2 {a b:Tmp} {t:List ResultVar} {u v w:U} (ht:rs = .tmp a :: .tmp b::t) (h:evS n l (.tmp a)=some v) (h':evS n l (.tmp b)=some w) (h0:t=[]) (hu : .tup [v,w]=u) [q:BU 0 u]:(Exit.ret = .normal∨Exit.ret = .ret)∧∃ l',qkk T σ (fr n l) rs=some l'∧∃ u' σ'',(⟨[],0⟩:Sg).nx≤σ''.nx∧Gh (⟨[],0⟩:Sg).nx [ql0 l'] σ [u'] σ''∧u'=u∧Bel 0 u':=by
 subst ht; subst h0; subst hu
 exact rT (q1y h (q1y h' q1t)) (z6y _ rfl)
end
theorem fR {u0 u:U} {h h':List (Nat×B)} {nx:Nat} {b:B} (K sz:Nat) [g:GtC h K b] [m:NMp b] [t:FzU K b sz u0 u] [q:FzH K b sz h h'] [p:BU 0 u]:Gh 0 [u0] ⟨h,nx⟩ [u] ⟨[],0⟩:=Gh.trans (z6r K sz) (z6y u rfl)
theorem wR {u0 u:U} {σ:Sg} [w:WkU u0 u] [p:BU 0 u]:Gh 0 [u0] σ [u] ⟨[],0⟩:=Gh.trans (Gh.wk (.cons w.h .nil)) (z6y u rfl)
section
variable {C:PG} {n0 n:Nat} {Q:Exit→List U→Sg→Prop} {l:List (Nat×U)} {σ:Sg}
theorem cF {β:Type} {c:Operand} {p q:Code} {t:Bool} {a b r:Option β} (hF:cond t a b=r) (h1:t=true→a=r→WPU C n0 p (fr n l) σ Q) (h2:t=false→b=r→WPU C n0 q (fr n l) σ Q) (hc:evS n l c=some (.bool t):=by exact rfl):WPU C n0 (.cond c p q) (fr n l) σ Q:=z74 hc (fun h=>h1 h (cond_t h hF)) (fun h=>h2 h (cond_f h hF))
theorem gS {l':List (Nat×U)} {c:Code} (hw:WPU C n0 c (fr n l') σ Q) (hn:n0≤σ.nx:=by first | exact Nat.zero_le _ | exact Nat.le_of_ble_eq_true rfl) (ht:z1i l l':=by ((repeat refine ⟨rfl,?_⟩); exact trivial)):WPU C n0 c (fr n l) σ Q:=WPU.ghost (Gh.sub ht) hn hw
end
class IxC (op:BinOp) (k:IntKind) (a:Int) (k':IntKind) (b:Int) (r:outParam Value):Prop where
 h:qeu op k a k' b=some r
section
variable {k:IntKind} {a b:Int}
instance:IxC .add k a k b (.int k (k.wrap (a+b))):=⟨ix_add k a b⟩
instance:IxC .sub k a k b (.int k (k.wrap (a - b))):=⟨ix_sub k a b⟩
instance:IxC .mul k a k b (.int k (k.wrap (a*b))):=⟨ix_mul k a b⟩
instance:IxC .eql k a k b (.bool (a == b)):=⟨ix_eql k a b⟩
instance:IxC .neq k a k b (.bool (a != b)):=⟨ix_neq k a b⟩
instance:IxC .lss k a k b (.bool (decide (a<b))):=⟨ix_lss k a b⟩
instance:IxC .leq k a k b (.bool (decide (a≤b))):=⟨ix_leq k a b⟩
instance:IxC .gtr k a k b (.bool (decide (a > b))):=⟨ix_gtr k a b⟩
instance:IxC .geq k a k b (.bool (decide (a ≥ b))):=⟨ix_geq k a b⟩
end
class UnC (T:Tb) (t:TypeId) (d:outParam TypeDesc):Prop where
 h:T.und t=some d
class SzC (T:Tb) (t:TypeId) (n:outParam Nat):Prop where
 h:q0j T t=some n
section
variable {P:Program} {T:Tb} {ops r:List Oper} {o:Oper} {n:Nat} {l:List (Nat×U)} {σ σ':Sg} {u:U}
theorem wT {j:Nat} {b:Bool} {d:Tmp} (hg:o.guard=some (j,true)) (hj:qh9 ops j=some d) (hl:evS n l (.tmp d)=some (.bool b)) (hb:b=true):q07 ops (fr n l) o=some true:=z1a hg hj hl hb
theorem wF {j:Nat} {b:Bool} {d:Tmp} (hg:o.guard=some (j,false)) (hj:qh9 ops j=some d) (hl:evS n l (.tmp d)=some (.bool b)) (hb:b=false):q07 ops (fr n l) o=some true:=z1a hg hj hl hb
theorem RS.w {C:PG} {K:List U→Sg→Prop} {d:Tmp} (he:o.dst=some d) (h:opU T σ (fr n l) o.op=some (u,σ')) (hk:RU C T ops r (fr n ((d,u)::l)) σ' K) (hw:q07 ops (fr n l) o=some true:=by first | exact rfl | exact wT rfl rfl rfl (by first | with_reducible_and_instances assumption | exact rfl) | exact wF rfl rfl rfl (by first | with_reducible_and_instances assumption | exact rfl)) (hd:Nat.blt d n=true:=by exact rfl):RU C T ops (o::r) (fr n l) σ K:=RS.op hw h he hd hk
theorem RD.w {acc:List RK} {K:List RK→List U→Sg→Prop} {d:Tmp} (he:o.dst=some d) (h:opU T σ (fr n l) o.op=some (u,σ)) (hk:RH P T ops r (fr n ((d,u)::l)) σ ((1,⟨fr n l,o,u,false,false,σ,σ⟩)::acc) K) (hw:q07 ops (fr n l) o=some true:=by first | exact rfl | exact wT rfl rfl rfl (by first | with_reducible_and_instances assumption | exact rfl) | exact wF rfl rfl rfl (by first | with_reducible_and_instances assumption | exact rfl)) (hd:Nat.blt d n=true:=by exact rfl):RH P T ops (o::r) (fr n l) σ acc K:=RD.look hw h he hd hk
def qxx (n:Nat) (l:List (Nat×U)) (o:Oper):Option (Tmp×FuncId×List U):=match o.dst,o.op with
 | some d,.call c=>match c.callee with
  | .value f=>match evS n l f with
   | some (.fn (.func g) [] [])=>match z2j n l c.args.toList with
    | some as=>some (d,g,as)
    | none=>none
   | _=>none
  | _=>none
 | _,_=>none
theorem qg6 {d:Tmp} {g:FuncId} {as:List U} {fn:Func} (h:qxx n l o=some (d,g,as)) (hg:T.fn g=some fn) (hb:fn.body.isSome=true):o.dst=some d∧q4x T (fr n l) o.op=some (g,as):=by
 unfold qxx at h
 split at h
 ·next d' c h1 h2 =>
  split at h
  ·next f h3 =>
   split at h
   ·next g' h4 =>
    split at h
    ·next as' h5 =>
     simp only [zA,zB] at h
     obtain ⟨rfl,rfl,rfl⟩:=h
     exact ⟨h1,by rw [h2]; exact q3s h3 h4 hg hb h5 (by simp)⟩
    ·cases h
   ·cases h
  ·cases h
 ·cases h
theorem RS.cl {C:PG} {K:List U→Sg→Prop} {d:Tmp} {f:FuncId} {args:List U} {fn:Func} (h:qxx n l o=some (d,f,args)) (hev:EvU C.prog f args σ (fun u' σ'=>u'=u∧σ'=σ)) (hg:T.fn f=some fn) (hk:RU C T ops r (fr n ((d,u)::l)) σ K) (hb:fn.body.isSome=true:=by exact rfl) (hw:q07 ops (fr n l) o=some true:=by first | exact rfl | exact wT rfl rfl rfl (by first | with_reducible_and_instances assumption | exact rfl) | exact wF rfl rfl rfl (by first | with_reducible_and_instances assumption | exact rfl)) (hd:Nat.blt d n=true:=by exact rfl):RU C T ops (o::r) (fr n l) σ K:=RS.call hw (qg6 h hg hb).2 hev (qg6 h hg hb).1 hd hk
theorem z6v {C:PG} {K:List U→Sg→Prop} {d:Tmp} {f:FuncId} {args args':List U} {σ1:Sg} {fn:Func} (h:qxx n l o=some (d,f,args)) (hG:Gh σ.nx args σ args' σ1) (hev:EvU C.prog f args' σ1 (fun u' σ'=>u'=u∧σ'=σ1)) (hg:T.fn f=some fn) (hk:RU C T ops r (fr n ((d,u)::l)) σ1 K) (hn:σ.nx≤σ1.nx:=by exact Nat.le_of_ble_eq_true rfl) (hb:fn.body.isSome=true:=by exact rfl) (hw:q07 ops (fr n l) o=some true:=by first | exact rfl | exact wT rfl rfl rfl (by first | with_reducible_and_instances assumption | exact rfl) | exact wF rfl rfl rfl (by first | with_reducible_and_instances assumption | exact rfl)) (hd:Nat.blt d n=true:=by exact rfl):RU C T ops (o::r) (fr n l) σ K:=RS.fcall hw (qg6 h hg hb).2 hG hn hev (qg6 h hg hb).1 hd hk
theorem z6w {acc:List RK} {K:List RK→List U→Sg→Prop} {d:Tmp} {f:FuncId} {args:List U} {fn:Func} (h:qxx n l o=some (d,f,args)) (hev:∀ s,EvU P f args s (fun u' σ'=>u'=u∧σ'=s)) (hg:T.fn f=some fn) (hk:RH P T ops r (fr n ((d,u)::l)) σ ((0,⟨fr n l,o,u,false,false,σ,σ⟩)::acc) K) (hb:fn.body.isSome=true:=by exact rfl) (hw:q07 ops (fr n l) o=some true:=by first | exact rfl | exact wT rfl rfl rfl (by first | with_reducible_and_instances assumption | exact rfl) | exact wF rfl rfl rfl (by first | with_reducible_and_instances assumption | exact rfl)) (hd:Nat.blt d n=true:=by exact rfl):RH P T ops (o::r) (fr n l) σ acc K:=RD.free hw (qg6 h hg hb).2 hev (qg6 h hg hb).1 hd hk
end
theorem vw {P:Program} {f:FuncId} {args args':List U} {σ:Sg} {u:U} {v:Value} {σ1:Sg} (h:EvU P f args ⟨[],0⟩ (fun u' _=>u'=u∧Bel 0 u')) (hg:Gh 0 args' σ args σ1) [ha:BUL 0 args] (hu:toV u=some v:=by simp only [toV,qp4,okL,okC,zC]<;>rfl) (hren:∀ m,ren m v=v:=by exact fun m=>by simp [ren,q0m]):EvU P f args' σ (fun u' σ'=>u'=u∧σ'=σ):=EvU.view h ha.h hu hren hg
structure Hd (B:Prop):Prop where
 h:B
section
variable {C:PG} {n0:Nat} {tm:List U} {σ:Sg} {Q:Exit→List U→Sg→Prop}
theorem rg0 {T:Tb} [t:TbI C T] {i:Nat} {ops:Array Oper} {L:List Oper} (h:RU C T L L tm σ (fun tm' σ'=>Q .normal tm' σ')) (hl:ops.toList=L):WPU C n0 (.region i ops false) tm σ Q:=WPU.region t.ok (by rw [hl]; exact h)
theorem rg1 {T:Tb} [t:TbI C T] {i:Nat} {ops:Array Oper} {o:Oper} {r:List Oper} (hl:ops.toList=o::r) (h:RU C T (o::r) (o::r) tm σ (fun tm' σ'=>Q .normal tm' σ')):WPU C n0 (.region i ops false) tm σ Q:=rg0 h hl
end
section
variable {C:PG} {T:Tb} {ops r:List Oper} {o:Oper} {n:Nat} {l:List (Nat×U)} {σ σ':Sg} {u:U} {K:List U→Sg→Prop} {d:Tmp}
theorem RS.nt {j:Nat} {b:Bool} {d':Tmp} (hg:o.guard=some (j,true)) (hj:qh9 ops j=some d') (hl:evS n l (.tmp d')=some (.bool b)) (hb:b=false) (he:o.dst=some d) (hd:Nat.blt d n=true) (hk:RU C T ops r (fr n ((d,.tup [])::l)) σ K):RU C T ops (o::r) (fr n l) σ K:=RS.no (z3u hg hj hl hb) he hd hk
theorem RS.nf {j:Nat} {b:Bool} {d':Tmp} (hg:o.guard=some (j,false)) (hj:qh9 ops j=some d') (hl:evS n l (.tmp d')=some (.bool b)) (hb:b=true) (he:o.dst=some d) (hd:Nat.blt d n=true) (hk:RU C T ops r (fr n ((d,.tup [])::l)) σ K):RU C T ops (o::r) (fr n l) σ K:=RS.no (z3u hg hj hl hb) he hd hk
theorem RS.mo {x:Operand} (ho:o.op = .move x) (hx:evS n l x=some u) (he:o.dst=some d) (hw:q07 ops (fr n l) o=some true) (hd:Nat.blt d n=true) (hk:RU C T ops r (fr n ((d,u)::l)) σ K):RU C T ops (o::r) (fr n l) σ K:=RS.w he (by rw [ho]; exact q3h hx) hk hw hd
theorem RS.in {op:BinOp} {t t':TypeId} {x y:Operand} {k k':IntKind} {a b:Int} {v:Value} (ho:o.op = .binOp op t x y t') (hx:evS n l x=some (.int k a)) (hy:evS n l y=some (.int k' b)) [h:IxC op k a k' b v] (hr:ofV v=some u) (he:o.dst=some d) (hw:q07 ops (fr n l) o=some true) (hd:Nat.blt d n=true) (hk:RU C T ops r (fr n ((d,u)::l)) σ K):RU C T ops (o::r) (fr n l) σ K:=RS.w he (by rw [ho]; exact qbg hx hy h.h hr) hk hw hd
theorem RS.p1 {c a b:Operand} {t:Bool} (ho:o.op = .pick c a b) (hc:evS n l c=some (.bool t)) (ht:t=true) (h:evS n l a=some u) (he:o.dst=some d) (hw:q07 ops (fr n l) o=some true) (hd:Nat.blt d n=true) (hk:RU C T ops r (fr n ((d,u)::l)) σ K):RU C T ops (o::r) (fr n l) σ K:=RS.w he (by rw [ho]; exact qvd hc ht h) hk hw hd
theorem RS.p0 {c a b:Operand} {t:Bool} (ho:o.op = .pick c a b) (hc:evS n l c=some (.bool t)) (ht:t=false) (h:evS n l b=some u) (he:o.dst=some d) (hw:q07 ops (fr n l) o=some true) (hd:Nat.blt d n=true) (hk:RU C T ops r (fr n ((d,u)::l)) σ K):RU C T ops (o::r) (fr n l) σ K:=RS.w he (by rw [ho]; exact qvc hc ht h) hk hw hd
theorem RS.ex {x:Operand} {i:Nat} {q:List U} (ho:o.op = .extract x i) (hx:evS n l x=some (.tup q)) (h:nth q i=some u) (he:o.dst=some d) (hw:q07 ops (fr n l) o=some true) (hd:Nat.blt d n=true) (hk:RU C T ops r (fr n ((d,u)::l)) σ K):RU C T ops (o::r) (fr n l) σ K:=RS.w he (by rw [ho]; exact z4o hx h) hk hw hd
theorem RS.un {op:UnOp} {t:TypeId} {x:Operand} {v:U} {v1 v2:Value} (ho:o.op = .unOp op t x) (hx:evS n l x=some v) (h:toV v=some v1) (hu:unX op v1=some v2) (hq:ofV v2=some u) (he:o.dst=some d) (hw:q07 ops (fr n l) o=some true) (hd:Nat.blt d n=true) (hk:RU C T ops r (fr n ((d,u)::l)) σ K):RU C T ops (o::r) (fr n l) σ K:=RS.w he (by rw [ho]; exact op_un hx h hu hq) hk hw hd
theorem RS.a {x:Operand} (ho:o.op = .assign x) (hx:evS n l x=some u) (he:o.dst=some d) (hw:q07 ops (fr n l) o=some true) (hd:Nat.blt d n=true) (hk:RU C T ops r (fr n ((d,u)::l)) σ K):RU C T ops (o::r) (fr n l) σ K:=RS.as hw ho hx he hk hd
end
end Go.Vx
end
section
namespace Go.Vx
open Go Go.Rx
class InC (T:Tb) (t:TypeId) (a b:outParam Nat) (z:outParam Value):Prop where
 h:T.inf t=some (a,b,z)
instance {T:Tb} {t:TypeId} {a b:Nat} {z:Value} [q:InC T t a b z]:SzC T t a:=⟨q0i q.h⟩
class ZeC (T:Tb) (t:TypeId) (zu:outParam (List U)):Prop where
 h:∃ a b z,T.inf t=some (a,b,z)∧qkz z.cells.toList=some zu∧okL zu=true
class CeC (u:U) (cs:outParam (List U)):Prop where
 h:q6z u=some cs
instance {l:List U}:CeC (.agg l) l:=⟨rfl⟩
instance {k:IntKind} {z:Int}:CeC (.int k z) [.int k z]:=⟨rfl⟩
instance {s:List UInt8}:CeC (.str s) [.str s]:=⟨rfl⟩
instance {t:Bool} {l:List (List U)}:CeC (.isl t l) [.isl t l]:=⟨rfl⟩
instance:CeC .nils [.nils]:=⟨rfl⟩
instance {k st off n:Nat}:CeC (.vl k st off n) [.vl k st off n]:=⟨rfl⟩
instance {k off n c:Nat}:CeC (.sl k off n c) [.sl k off n c]:=⟨rfl⟩
instance {k:Nat}:CeC (.map k) [.map k]:=⟨rfl⟩
instance {f:Fn} {a c:List U}:CeC (.fn f a c) [.fn f a c]:=⟨rfl⟩
class z5c (q:List U) (off n:Nat) (cs:outParam (List U)):Prop where
 h:qf0 q off n=some cs
instance {q:List U}:z5c q 0 0 []:=⟨by simp [qf0]⟩
instance {a:U} {q cs:List U} {n:Nat} [s:z5c q 0 n cs]:z5c (a::q) 0 (n+1) (a::cs):=⟨by
 have:=s.h
 unfold qf0 at *
 split at this
 ·next h=>cases this; rw [if_pos (by simp at *; omega)]; simp
 ·cases this⟩
instance (priority:=low) {α:Type} {c:α→List U} {x:α} {sz:Nat} [q:qoa c sz]:z5c (c x) 0 sz (c x):=⟨by
 unfold qf0
 rw [if_pos (by rw [q.h]; omega),List.drop_zero,List.take_of_length_le (by rw [q.h]; exact zF _)]⟩
class LeL (q:List U) (n:Nat):Prop where
 h:q.length=n
instance:LeL [] 0:=⟨rfl⟩
instance {a:U} {q:List U} {n:Nat} [s:LeL q n]:LeL (a::q) (n+1):=⟨by simp [s.h]⟩
class PuC (q:List U) (off:Nat) (cs:List U) (q':outParam (List U)):Prop where
 h:qk9 q off cs=some q'
instance {q:List U}:PuC q 0 [] q:=⟨by simp [qk9]⟩
instance {a b:U} {q cs q':List U} [s:PuC q 0 cs q']:PuC (a::q) 0 (b::cs) (b::q'):=⟨by
 have:=s.h
 unfold qk9 at *
 split at this
 ·next h=>cases this; rw [if_pos (by simp at *; omega)]; simp
 ·cases this⟩
instance {a:U} {q cs q':List U} {o:Nat} [s:PuC q o cs q']:PuC (a::q) (o+1) cs (a::q'):=⟨by
 have:=s.h
 unfold qk9 at *
 split at this
 ·next h =>
  cases this
  rw [if_pos (by simp at *; omega)]
  simp [show o+1+cs.length=(o+cs.length)+1 by omega]
 ·cases this⟩
instance (priority:=low) {α:Type} {c:α→List U} {x:α} {sz:Nat} {q:List U} [s:qoa c sz] [t:LeL q sz]:PuC q 0 (c x) (c x):=⟨by
 unfold qk9
 have h1:=s.h x
 have h2:=t.h
 rw [if_pos (by omega),List.drop_eq_nil_of_le (by omega)]
 simp⟩
class ApC (a b:List U) (c:outParam (List U)):Prop where
 h:a++b=c
instance {b:List U}:ApC [] b b:=⟨rfl⟩
instance {x:U} {a b c:List U} [s:ApC a b c]:ApC (x::a) b (x::c):=⟨by rw [List.cons_append,s.h]⟩
class PlC (pl:List (Nat×Nat)) (i:Nat) (o s:outParam Nat):Prop where
 h:nth pl i=some (o,s)
instance {o s:Nat} {pl:List (Nat×Nat)}:PlC ((o,s)::pl) 0 o s:=⟨rfl⟩
instance {a:Nat×Nat} {i o s:Nat} {pl:List (Nat×Nat)} [q:PlC pl i o s]:PlC (a::pl) (i+1) o s:=⟨q.h⟩
theorem z4b {place:Nat→Option (Nat×Nat)} {zu q' cs c0:List U} {i o s:Nat} {v:U} {qs:List (Nat×U)} (hp:place i=some (o,s)) (hc:q6z v=some c0) (hl:c0.length=s) (hq:qk9 zu o c0=some q') (hr:qbq place q' qs=some cs):qbq place zu ((i,v)::qs)=some cs:=by
 have:Nat.beq c0.length s=true:=by simp [beq_eq,hl]
 simp only [qbq,hp,hc,this,zC,hq,hr]
class FbC (pl:List (Nat×Nat)) (zu:List U) (qs:List (Nat×U)) (cs:outParam (List U)):Prop where
 h:qbq (nth pl) zu qs=some cs
instance {pl:List (Nat×Nat)} {zu:List U}:FbC pl zu [] zu:=⟨rfl⟩
instance {pl:List (Nat×Nat)} {zu q' cs c0:List U} {i o s:Nat} {v:U} {qs:List (Nat×U)} [p:PlC pl i o s] [c:CeC v c0] [l:LeL c0 s] [q:PuC zu o c0 q'] [r:FbC pl q' qs cs]:FbC pl zu ((i,v)::qs) cs:=⟨z4b p.h c.h l.h q.h r.h⟩
class MuC (a b:Nat) (c:outParam Nat):Prop where
 h:a*b=c
instance {b:Nat}:MuC 0 b 0:=⟨Nat.zero_mul b⟩
instance {b:Nat}:MuC 1 b b:=⟨Nat.one_mul b⟩
instance {a:Nat}:MuC (a+2) 1 (a+2):=⟨Nat.mul_one _⟩
class FsC (s:Nat) (zu:List U) (qs:List (Nat×U)) (cs:outParam (List U)):Prop where
 h:qbq (fun i=>some (i*s,s)) zu qs=some cs
instance {s:Nat} {zu:List U}:FsC s zu [] zu:=⟨rfl⟩
instance {zu q' cs c0:List U} {i o s:Nat} {v:U} {qs:List (Nat×U)} [m:MuC i s o] [c:CeC v c0] [l:LeL c0 s] [q:PuC zu o c0 q'] [r:FsC s q' qs cs]:FsC s zu ((i,v)::qs) cs:=⟨z4b (by rw [m.h]) c.h l.h q.h r.h⟩
class ZsC (z:List U) (k:Nat) (zs:outParam (List U)):Prop where
 h:q6u z k=zs
instance {z:List U}:ZsC z 0 []:=⟨rfl⟩
instance {z a b:List U} {k:Nat} [q:ZsC z k a] [p:ApC z a b]:ZsC z (k+1) b:=⟨by
 have:=q.h
 have:=p.h
 simp only [q6u,List.replicate_succ,List.flatten_cons] at *
 simp_all⟩
class DeC {α:Type} (c:α→List U) (cs:List U) (x:outParam α):Prop where
 h:c x=cs
instance {k:IntKind} {z:Int}:DeC (cI k) [.int k z] z:=⟨rfl⟩
instance {s:List UInt8}:DeC cS [.str s] s:=⟨rfl⟩
instance {α:Type} {c:α→List U} {l:List α}:DeC (cL c) [.isl false (l.map c)] l:=⟨rfl⟩
instance (priority:=low) {α:Type} {c:α→List U} {x:α}:DeC c (c x) x:=⟨rfl⟩
instance (priority:=low) {α:Type} {c:α→List U} {x:α}:WkC (c x) (c x):=⟨WkL.refl _⟩
class BdC (T:Tb) (t:TypeId) (zu:outParam (List U)) (pl:outParam (List (Nat×Nat))):Prop where
 h:BdT T t zu pl
class SuC (a:Nat) (b:outParam Nat):Prop where
 h:a+1=b
instance:SuC 0 1:=⟨rfl⟩
instance:SuC 1 2:=⟨rfl⟩
instance:SuC 2 3:=⟨rfl⟩
instance:SuC 3 4:=⟨rfl⟩
instance:SuC 4 5:=⟨rfl⟩
instance:SuC 5 6:=⟨rfl⟩
instance:SuC 6 7:=⟨rfl⟩
instance:SuC 7 8:=⟨rfl⟩
instance:SuC 8 9:=⟨rfl⟩
instance:SuC 9 10:=⟨rfl⟩
instance:SuC 10 11:=⟨rfl⟩
instance:SuC 11 12:=⟨rfl⟩
instance:SuC 12 13:=⟨rfl⟩
instance:SuC 13 14:=⟨rfl⟩
instance:SuC 14 15:=⟨rfl⟩
class AdC (a b:Nat) (c:outParam Nat):Prop where
 h:a+b=c
instance {b:Nat}:AdC 0 b b:=⟨Nat.zero_add b⟩
class NxC (a:Nat) (b:outParam Nat):Prop where
 h:a+1=b
instance {a b:Nat} [q:SuC a b]:NxC a b:=⟨q.h⟩
instance (priority:=low) {a:Nat}:NxC a (a+1):=⟨rfl⟩
section
variable {T:Tb} {n:Nat} {l:List (Nat×U)} {h h':List (Nat×B)} {nx nx':Nat} {u v w:U} {op:Op}
theorem oAl {e:TypeId} {zu:List U} (ho:op = .alloc e) [z:ZeC T e zu] [hn:SuC nx nx']:opU T ⟨h,nx⟩ (fr n l) op=some (.ptr nx 0 0,⟨(nx,.row zu e)::h,nx'⟩):=by
 subst ho; have hn':=hn.h; subst hn'
 obtain ⟨a,b,q,h1,h2,h3⟩:=z.h
 exact qpx h1 h2 h3
theorem oBx {e:TypeId} {x:Operand} {cs:List U} (ho:op = .box e x) (hx:evS n l x=some v) [c:CeC v cs] (hk:okL cs=true) [hn:SuC nx nx']:opU T ⟨h,nx⟩ (fr n l) op=some (.ptr nx 0 0,⟨(nx,.row cs e)::h,nx'⟩):=by
 subst ho; have hn':=hn.h; subst hn'
 exact op_box hx c.h hk
theorem oSt {t e:TypeId} {a x:Operand} {k off sz:Nat} {cs q q':List U} (ho:op = .store t a x) (ha:evS n l a=some (.ptr k 0 off)) (hx:evS n l x=some v) [g:GtC h k (.row q e)] [s:SzC T t sz] [c:CeC v cs] [p:PuC q off cs q'] [w:UgC h k (.row q' e) h'] (hl:Nat.beq cs.length sz=true) (hk:okL cs=true):opU T ⟨h,nx⟩ (fr n l) op=some (.junk,⟨h',nx⟩):=by
 subst ho
 refine qpz s.h ha hx c.h hl hk (q:=q) (q':=q') ?_ ?_ ?_
 ·simp only [cellsOf,g.h]; rfl
 ·simp only [wkB,g.h]; exact p.h
 ·simp only [qn7,g.h,w.h]
theorem oLa {t:TypeId} {x:Operand} {d:TypeDesc} {k off sz:Nat} {q cs:List U} {e:TypeId} (ho:op = .load t x) (hx:evS n l x=some (.ptr k 0 off)) [hd:UnC T t d] (ha:q45 d=true) [g:GtC h k (.row q e)] [s:SzC T t sz] [p:z5c q off sz cs]:opU T ⟨h,nx⟩ (fr n l) op=some (.agg cs,⟨h,nx⟩):=by
 subst ho
 exact q61 hd.h ha s.h hx (by simp only [cellsOf,g.h]; rfl) p.h
theorem oLo {t:TypeId} {x:Operand} {d:TypeDesc} {k off:Nat} {q:List U} {e:TypeId} (ho:op = .load t x) (hx:evS n l x=some (.ptr k 0 off)) [hd:UnC T t d] (ha:q45 d=false) [g:GtC h k (.row q e)] (hu:nth q off=some u):opU T ⟨h,nx⟩ (fr n l) op=some (u,⟨h,nx⟩):=by
 subst ho
 exact qaq hd.h ha hx (by simp only [cellsOf,g.h]; rfl) hu
theorem oIa {t:TypeId} {x:Operand} {d:TypeDesc} {sz:Nat} {q cs:List U} (ho:op = .load t x) (hx:evS n l x=some (.iptr q)) [hd:UnC T t d] (ha:q45 d=true) [s:SzC T t sz] [p:z5c q 0 sz cs]:opU T ⟨h,nx⟩ (fr n l) op=some (.agg cs,⟨h,nx⟩):=by
 subst ho
 exact z4l hd.h ha s.h hx p.h
theorem oIo {t:TypeId} {x:Operand} {d:TypeDesc} {q:List U} (ho:op = .load t x) (hx:evS n l x=some (.iptr q)) [hd:UnC T t d] (ha:q45 d=false) (hu:nth q 0=some u):opU T ⟨h,nx⟩ (fr n l) op=some (u,⟨h,nx⟩):=by
 subst ho
 exact qz9 hd.h ha hx hu
theorem oFa {t:TypeId} {x:Operand} {f:Nat} {fs:Array Field} {fd:Field} {s k off off':Nat} (ho:op = .fieldAddr t x f) (hx:evS n l x=some (.ptr k 0 off)) [hd:UnC T t (.struct fs)] {q:List U} {e:TypeId} [g:GtC h k (.row q e)] (hf:nth fs.toList f=some fd) (hs:q0j T fd.type=some (s+1)) (h2:off+fd.offset=off'):opU T ⟨h,nx⟩ (fr n l) op=some (.ptr k 0 off',⟨h,nx⟩):=by
 subst ho
 exact qbu hd.h hf hs hx (by simp only [live,g.h]; rfl) h2
theorem oFi {t:TypeId} {x:Operand} {f:Nat} {fs:Array Field} {fd:Field} {s:Nat} {q q':List U} (ho:op = .fieldAddr t x f) (hx:evS n l x=some (.iptr q)) [hd:UnC T t (.struct fs)] (hf:nth fs.toList f=some fd) (hs:q0j T fd.type=some (s+1)) (hq:q.drop fd.offset=q'):opU T ⟨h,nx⟩ (fr n l) op=some (.iptr q',⟨h,nx⟩):=by
 subst ho
 exact op_fi hd.h hf hs hx hq
theorem oIx {α:Type} {c:α→List U} {t e:TypeId} {sz:Nat} {x i:Operand} {b:Bool} {xs:List α} {k:IntKind} {z:Int} {y:α} (ho:op = .indexAddr t x i) (hx:evS n l x=some (.isl b (List.map c xs))) (hi:evS n l i=some (.int k z)) [hd:UnC T t (.slice e)] [hs:SzC T e sz] [hc:qoa c sz] (hy:q0l xs z=some y):opU T ⟨h,nx⟩ (fr n l) op=some (.iptr (c y),⟨h,nx⟩):=by
 subst ho
 exact q2v hx hi (quu c hd.h hs.h hc.h hy rfl)
theorem oLe {α:Type} {c:α→List U} {x:Operand} {t e:TypeId} {args:Array Operand} {ts:Array TypeId} {q:List TypeId} {b:Bool} {xs:List α} (ho:op = .call { callee:=.builtin .len,args:=args,argTypes:=ts }) (ha:args.toList=[x]) (ht:ts.toList=t::q) (hx:evS n l x=some (.isl b (List.map c xs))) [hd:UnC T t (.slice e)]:opU T ⟨h,nx⟩ (fr n l) op=some (.int .i64 xs.length,⟨h,nx⟩):=by
 subst ho
 exact qar ha ht hx (qk0 c hd.h)
theorem oLv {x:Operand} {t e e':TypeId} {args:Array Operand} {ts:Array TypeId} {q:List TypeId} {K st m sz:Nat} {cs:List U} (ho:op = .call { callee:=.builtin .len,args:=args,argTypes:=ts }) (ha:args.toList=[x]) (ht:ts.toList=t::q) (hx:evS n l x=some (.vl K st 0 m)) [hd:UnC T t (.slice e)] [g:GtC h K (.vec cs e' sz st)]:opU T ⟨h,nx⟩ (fr n l) op=some (.int .i64 m,⟨h,nx⟩):=by
 subst ho
 exact qar ha ht hx (len_vl hd.h g.h)
theorem oBd {t:TypeId} {zu:List U} {pl:List (Nat×Nat)} {ps:Array (Nat×Operand)} {qs:List (Nat×U)} {cs:List U} (ho:op = .build t ps) [q:BdC T t zu pl] (he:qyh n l ps.toList=some qs) (c:FbC pl zu qs cs) (hk:okL cs=true):opU T ⟨h,nx⟩ (fr n l) op=some (.agg cs,⟨h,nx⟩):=by
 subst ho
 exact z4n q.h he c.h hk
theorem oBs {t e:TypeId} {k sz b:Nat} {z:Value} {zu zs cs:List U} {ps:Array (Nat×Operand)} {qs:List (Nat×U)} (ho:op = .buildSlice t k ps) (he:qyh n l ps.toList=some qs) [hd:UnC T t (.slice e)] [hi:InC T e sz b z] [hz:ZeC T e zu] (zc:ZsC zu k zs) (c:FsC sz zs qs cs) (hk:okL cs=true) (h1:Nat.ble (k*sz) 16777216=true) (h2:Nat.ble k 16777216=true) (h3:Nat.beq z.cells.toList.length sz=true) (hn:SuC nx nx'):opU T ⟨h,nx⟩ (fr n l) op=some (.sl nx 0 k k,⟨(nx,.row cs e)::h,nx'⟩):=by
 subst ho; have hn':=hn.h; subst hn'
 obtain ⟨a,b',q,g1,g2,g3⟩:=hz.h
 have e1:=hi.h
 rw [g1] at e1
 cases e1
 exact q7q hd.h hi.h he h1 h2 h3 g2 (by rw [zc.h]; exact c.h) hk
theorem oMv {x:Operand} (ho:op = .move x) (hx:evS n l x=some u) {σ:Sg}:opU T σ (fr n l) op=some (u,σ):=by subst ho; exact q3h hx
theorem oAs {x:Operand} (ho:op = .assign x) (hx:evS n l x=some u) {σ:Sg}:opU T σ (fr n l) op=some (u,σ):=by subst ho; exact qrz hx
theorem oIn {b:BinOp} {t t':TypeId} {x y:Operand} {k k':IntKind} {i j:Int} {r:Value} (ho:op = .binOp b t x y t') (hx:evS n l x=some (.int k i)) (hy:evS n l y=some (.int k' j)) [q:IxC b k i k' j r] (hr:ofV r=some u) {σ:Sg}:opU T σ (fr n l) op=some (u,σ):=by subst ho; exact qbg hx hy q.h hr
theorem oP1 {c a b:Operand} {t:Bool} (ho:op = .pick c a b) (hc:evS n l c=some (.bool t)) (ht:t=true) (hu:evS n l a=some u) {σ:Sg}:opU T σ (fr n l) op=some (u,σ):=by subst ho; exact qvd hc ht hu
theorem oP0 {c a b:Operand} {t:Bool} (ho:op = .pick c a b) (hc:evS n l c=some (.bool t)) (ht:t=false) (hu:evS n l b=some u) {σ:Sg}:opU T σ (fr n l) op=some (u,σ):=by subst ho; exact qvc hc ht hu
theorem oEx {x:Operand} {i:Nat} {q:List U} (ho:op = .extract x i) (hx:evS n l x=some (.tup q)) (hu:nth q i=some u) {σ:Sg}:opU T σ (fr n l) op=some (u,σ):=by subst ho; exact z4o hx hu
theorem oUn {b:UnOp} {t:TypeId} {x:Operand} {v1 v2:Value} (ho:op = .unOp b t x) (hx:evS n l x=some v) (h1:toV v=some v1) (h2:unX b v1=some v2) (hq:ofV v2=some u) {σ:Sg}:opU T σ (fr n l) op=some (u,σ):=by subst ho; exact op_un hx h1 h2 hq
theorem oAp {α:Type} {c:α→List U} {x y:Operand} {t xt e e1 e2:TypeId} {args:Array Operand} {ts:Array TypeId} {a st st' K s0 s1 by_:Nat} {z:Value} {xs:List α} {yv:α} {q cs cs':List U} (ho:op = .call { callee:=.builtin .append,args:=args,argTypes:=ts }) (ha:args.toList=[x,y]) (ht:ts.toList=[t,xt]) (hx:evS n l x=some (.vl a st 0 xs.length)) (hy:evS n l y=some (.sl K 0 1 1)) [d1:UnC T t (.slice e)] [d2:UnC T xt (.slice e2)] [g:GtC h a (.vec (List.map c xs).flatten e s0 st)] [i:InC T e s1 by_ z] [g2:GtC h K (.row q e1)] [s:z5c q 0 s1 cs] [w:WkC cs cs'] [d:DeC c cs' yv] [lc:qoa c s1] [nx1:NxC st st'] [ug:UgC h a (.vec (List.map c (xs++[yv])).flatten e s1 st') h'] (hs0:s0=s1) (hp:Nat.ble 1 s1=true) (hc:wkZ cs=(List.map c [yv]).flatten) (hz:Nat.beq z.cells.toList.length s1=true) (hr:(xs.length+1)*by_≤140737488355328∧xs.length+1≤140737488355328):opU T ⟨h,nx⟩ (fr n l) op=some (.vl a st' 0 (xs++[yv]).length,⟨h',nx⟩):=by
 subst ho; subst hs0; obtain ⟨sz,rfl⟩:∃ sz,s0=sz+1:=⟨s0 - 1,by have:=Nat.le_of_ble_eq_true hp; omega⟩; have e1:=nx1.h; subst e1
 have:=qd1 (σ:=⟨h,nx⟩) ha ht hx hy (qm4 c [yv] d1.h d2.h i.h hz lc.h g.h (qu5 c [yv] (q:=q) (by simp only [rowOf,g2.h]) (by rw [Nat.one_mul]; exact s.h) rfl hc) hr)
 rw [ug.h] at this
 exact this
theorem oAq {α:Type} {c:α→List U} {x y:Operand} {t xt e e2:TypeId} {args:Array Operand} {ts:Array TypeId} {a st st' s0 s1 by_:Nat} {z:Value} {xs ys:List α} {b:Bool} (ho:op = .call { callee:=.builtin .append,args:=args,argTypes:=ts }) (ha:args.toList=[x,y]) (ht:ts.toList=[t,xt]) (hx:evS n l x=some (.vl a st 0 xs.length)) (hy:evS n l y=some (.isl b (List.map c ys))) [d1:UnC T t (.slice e)] [d2:UnC T xt (.slice e2)] [g:GtC h a (.vec (List.map c xs).flatten e s0 st)] [i:InC T e s1 by_ z] [lc:qoa c s1] [nx1:NxC st st'] [ug:UgC h a (.vec (List.map c (xs++ys)).flatten e s1 st') h'] (hs0:s0=s1) (hp:Nat.ble 1 s1=true) (hz:Nat.beq z.cells.toList.length s1=true) (hr:(xs.length+ys.length)*by_≤140737488355328∧xs.length+ys.length≤140737488355328):opU T ⟨h,nx⟩ (fr n l) op=some (.vl a st' 0 (xs++ys).length,⟨h',nx⟩):=by
 subst ho; subst hs0; obtain ⟨sz,rfl⟩:∃ sz,s0=sz+1:=⟨s0 - 1,by have:=Nat.le_of_ble_eq_true hp; omega⟩; have e1:=nx1.h; subst e1
 have:=qd1 (σ:=⟨h,nx⟩) ha ht hx hy (qm4 c ys d1.h d2.h i.h hz lc.h g.h (qko c lc.h) hr)
 rw [ug.h] at this
 exact this
end
theorem opx {A:Prop} (h:A:=by first
 | exact Go.Vx.oIo rfl rfl rfl rfl
 | exact Go.Vx.oLo rfl rfl rfl rfl
 | exact Go.Vx.oFi rfl rfl (by exact rfl) (by exact Go.Vx.SzC.h) (by exact rfl)
 | exact Go.Vx.oFa rfl rfl (by exact rfl) (by exact Go.Vx.SzC.h) (by exact Go.Vx.AdC.h)
 | exact Go.Vx.oLa rfl rfl rfl
 | exact Go.Vx.oIa rfl rfl rfl
 | exact Go.Vx.oLe rfl rfl rfl rfl
 | exact Go.Vx.oLv rfl rfl rfl rfl
 | exact Go.Vx.oBx rfl rfl rfl
 | exact Go.Vx.oAl rfl
 | exact Go.Vx.oSt rfl rfl rfl rfl rfl
 | exact Go.Vx.oBd rfl rfl (by exact inferInstance) rfl):A:=h
theorem opy {A:Prop} (h:A:=by first
 | exact Go.Vx.oMv rfl rfl
 | exact Go.Vx.oAs rfl rfl
 | exact Go.Vx.oIn rfl rfl rfl rfl
 | exact Go.Vx.oEx rfl rfl rfl
 | exact Go.Vx.oP1 rfl rfl (by first | with_reducible_and_instances assumption | exact rfl) rfl
 | exact Go.Vx.oP0 rfl rfl (by first | with_reducible_and_instances assumption | exact rfl) rfl
 | exact Go.Vx.oUn rfl rfl rfl rfl rfl
 | exact Go.Vx.opx):A:=h
theorem opz {A:Prop} (h:A:=by first
 | exact Go.Vx.oBs rfl rfl (by exact inferInstance) (by exact inferInstance) rfl rfl rfl rfl (by exact inferInstance)
 | exact Go.Vx.oAp rfl rfl rfl rfl rfl rfl rfl rfl rfl (by with_reducible assumption)
 | exact Go.Vx.oAq rfl rfl rfl rfl rfl rfl rfl rfl (by with_reducible assumption)
 | exact Go.Vx.opx):A:=h
section
variable {T:Tb} {ops r:List Oper} {o:Oper} {n:Nat} {l:List (Nat×U)} {σ σ':Sg} {u:U}
theorem RS.g {C:PG} {K:List U→Sg→Prop} {d:Tmp} (hk:RU C T ops r (fr n ((d,u)::l)) σ' K) (h:opU T σ (fr n l) o.op=some (u,σ'):=by exact Go.Vx.opz) (he:o.dst=some d:=by exact rfl) (hw:q07 ops (fr n l) o=some true:=by first | exact rfl | exact wT rfl rfl rfl (by first | with_reducible_and_instances assumption | exact rfl) | exact wF rfl rfl rfl (by first | with_reducible_and_instances assumption | exact rfl)) (hd:Nat.blt d n=true:=by exact rfl):RU C T ops (o::r) (fr n l) σ K:=RS.op hw h he hd hk
theorem RD.g {P:Program} {acc:List RK} {K:List RK→List U→Sg→Prop} {d:Tmp} (hk:RH P T ops r (fr n ((d,u)::l)) σ' ((3,⟨fr n l,o,u,true,true,σ,σ'⟩)::acc) K) (h:opU T σ (fr n l) o.op=some (u,σ'):=by exact Go.Vx.opz) (he:o.dst=some d:=by exact rfl) (hw:q07 ops (fr n l) o=some true:=by first | exact rfl | exact wT rfl rfl rfl (by first | with_reducible_and_instances assumption | exact rfl) | exact wF rfl rfl rfl (by first | with_reducible_and_instances assumption | exact rfl)) (hd:Nat.blt d n=true:=by exact rfl):RH P T ops (o::r) (fr n l) σ acc K:=RD.act hw h he hd hk
theorem RD.gz {P:Program} {acc:List RK} {K:List RK→List U→Sg→Prop} (hk:RH P T ops r (fr n l) σ' ((3,⟨fr n l,o,u,true,true,σ,σ'⟩)::acc) K) (h:opU T σ (fr n l) o.op=some (u,σ'):=by exact Go.Vx.opz) (he:o.dst=none:=by exact rfl) (hw:q07 ops (fr n l) o=some true:=by first | exact rfl | exact wT rfl rfl rfl (by first | with_reducible_and_instances assumption | exact rfl) | exact wF rfl rfl rfl (by first | with_reducible_and_instances assumption | exact rfl)):RH P T ops (o::r) (fr n l) σ acc K:=RD.actn hw h he hk
theorem RD.ou {P:Program} {acc:List RK} {K:List RK→List U→Sg→Prop} {d:Tmp} (hk:RH P T ops r (fr n ((d,u)::l)) σ ((1,⟨fr n l,o,u,false,false,σ,σ⟩)::acc) K) (h:opU T σ (fr n l) o.op=some (u,σ):=by exact Go.Vx.opy) (he:o.dst=some d:=by exact rfl) (hw:q07 ops (fr n l) o=some true:=by first | exact rfl | exact wT rfl rfl rfl (by first | with_reducible_and_instances assumption | exact rfl) | exact wF rfl rfl rfl (by first | with_reducible_and_instances assumption | exact rfl)) (hd:Nat.blt d n=true:=by exact rfl):RH P T ops (o::r) (fr n l) σ acc K:=RD.look hw h he hd hk
theorem RD.nt {P:Program} {acc:List RK} {K:List RK→List U→Sg→Prop} {d d':Tmp} {j:Nat} {b:Bool} (hg:o.guard=some (j,true)) (hj:qh9 ops j=some d') (hl:evS n l (.tmp d')=some (.bool b)) (hb:b=false) (he:o.dst=some d) (hk:RH P T ops r (fr n ((d,.tup [])::l)) σ ((0,⟨fr n l,o,.tup [],false,false,σ,σ⟩)::acc) K) (hd:Nat.blt d n=true:=by exact rfl):RH P T ops (o::r) (fr n l) σ acc K:=RD.no (z3u hg hj hl hb) he hd hk
theorem RD.nf {P:Program} {acc:List RK} {K:List RK→List U→Sg→Prop} {d d':Tmp} {j:Nat} {b:Bool} (hg:o.guard=some (j,false)) (hj:qh9 ops j=some d') (hl:evS n l (.tmp d')=some (.bool b)) (hb:b=true) (he:o.dst=some d) (hk:RH P T ops r (fr n ((d,.tup [])::l)) σ ((0,⟨fr n l,o,.tup [],false,false,σ,σ⟩)::acc) K) (hd:Nat.blt d n=true:=by exact rfl):RH P T ops (o::r) (fr n l) σ acc K:=RD.no (z3u hg hj hl hb) he hd hk
theorem RS.ix {C:PG} {K:List U→Sg→Prop} {d:Tmp} {α:Type} {xs:List α} {z:Int} {y:α} (hy:q0l xs z=some y) (hk:RU C T ops r (fr n ((d,u)::l)) σ K) (h:q0l xs z=some y→opU T σ (fr n l) o.op=some (u,σ):=by intro hy; exact Go.Vx.oIx rfl rfl rfl hy) (he:o.dst=some d:=by exact rfl) (hw:q07 ops (fr n l) o=some true:=by first | exact rfl | exact wT rfl rfl rfl (by first | with_reducible_and_instances assumption | exact rfl) | exact wF rfl rfl rfl (by first | with_reducible_and_instances assumption | exact rfl)) (hd:Nat.blt d n=true:=by exact rfl):RU C T ops (o::r) (fr n l) σ K:=RS.op hw (h hy) he hd hk
theorem RD.ix {P:Program} {acc:List RK} {K:List RK→List U→Sg→Prop} {d:Tmp} {α:Type} {xs:List α} {z:Int} {y:α} (hy:q0l xs z=some y) (hk:RH P T ops r (fr n ((d,u)::l)) σ ((1,⟨fr n l,o,u,false,false,σ,σ⟩)::acc) K) (h:q0l xs z=some y→opU T σ (fr n l) o.op=some (u,σ):=by intro hy; exact Go.Vx.oIx rfl rfl rfl hy) (he:o.dst=some d:=by exact rfl) (hw:q07 ops (fr n l) o=some true:=by first | exact rfl | exact wT rfl rfl rfl (by first | with_reducible_and_instances assumption | exact rfl) | exact wF rfl rfl rfl (by first | with_reducible_and_instances assumption | exact rfl)) (hd:Nat.blt d n=true:=by exact rfl):RH P T ops (o::r) (fr n l) σ acc K:=RD.look hw (h hy) he hd hk
theorem RS.ou {C:PG} {K:List U→Sg→Prop} {d:Tmp} (hk:RU C T ops r (fr n ((d,u)::l)) σ' K) (h:opU T σ (fr n l) o.op=some (u,σ'):=by exact Go.Vx.opx) (he:o.dst=some d:=by exact rfl) (hw:q07 ops (fr n l) o=some true:=by first | exact rfl | exact wT rfl rfl rfl (by first | with_reducible_and_instances assumption | exact rfl) | exact wF rfl rfl rfl (by first | with_reducible_and_instances assumption | exact rfl)) (hd:Nat.blt d n=true:=by exact rfl):RU C T ops (o::r) (fr n l) σ K:=RS.op hw h he hd hk
theorem RS.oz {C:PG} {K:List U→Sg→Prop} (hk:RU C T ops r (fr n l) σ' K) (h:opU T σ (fr n l) o.op=some (u,σ'):=by exact Go.Vx.opx) (he:o.dst=none:=by exact rfl) (hw:q07 ops (fr n l) o=some true:=by first | exact rfl | exact wT rfl rfl rfl (by first | with_reducible_and_instances assumption | exact rfl) | exact wF rfl rfl rfl (by first | with_reducible_and_instances assumption | exact rfl)):RU C T ops (o::r) (fr n l) σ K:=z7f hw h he hk
end
theorem gd {A B:Prop} (h:B) (g:Hd B→A:=by
 intro h
 repeat' first
  | (refine Go.Vx.RD.nt rfl rfl rfl ?_ rfl ?_; · first | with_reducible_and_instances assumption | exact rfl)
  | (refine Go.Vx.RD.nf rfl rfl rfl ?_ rfl ?_; · first | with_reducible_and_instances assumption | exact rfl)
  | refine Go.Vx.RD.ou ?_
 exact h.h):A:=g ⟨h⟩
theorem go {A B : Prop} (h : B) (g : Hd B → A := by
  intro h
  repeat' first
    | refine Go.Vx.gq ?_
    | with_reducible refine Go.Vx.sq ?_
    | with_reducible refine Go.Vx.WPU.skip ?_
    | with_reducible refine Go.Vx.RS.done ?_
    | with_reducible refine Go.Vx.WPU.ret ?_
    | with_reducible refine Go.Vx.WPU.exit ?_
    | refine Go.Vx.rg1 rfl ?_
    | (refine Go.Vx.RS.nt rfl rfl rfl ?_ rfl rfl ?_; · first | with_reducible_and_instances assumption | exact rfl)
    | (refine Go.Vx.RS.nf rfl rfl rfl ?_ rfl rfl ?_; · first | with_reducible_and_instances assumption | exact rfl)
    | (refine Go.Vx.RS.mo rfl rfl rfl ?_ rfl ?_; · first | exact rfl | exact Go.Vx.wT rfl rfl rfl (by first | with_reducible_and_instances assumption | exact rfl) | exact Go.Vx.wF rfl rfl rfl (by first | with_reducible_and_instances assumption | exact rfl))
    | (refine Go.Vx.RS.in rfl rfl rfl rfl rfl ?_ rfl ?_; · first | exact rfl | exact Go.Vx.wT rfl rfl rfl (by first | with_reducible_and_instances assumption | exact rfl) | exact Go.Vx.wF rfl rfl rfl (by first | with_reducible_and_instances assumption | exact rfl))
    | (refine Go.Vx.RS.p1 rfl rfl ?_ rfl rfl ?_ rfl ?_; · first | with_reducible_and_instances assumption | exact rfl
       · first | exact rfl | exact Go.Vx.wT rfl rfl rfl (by first | with_reducible_and_instances assumption | exact rfl) | exact Go.Vx.wF rfl rfl rfl (by first | with_reducible_and_instances assumption | exact rfl))
    | (refine Go.Vx.RS.p0 rfl rfl ?_ rfl rfl ?_ rfl ?_; · first | with_reducible_and_instances assumption | exact rfl
       · first | exact rfl | exact Go.Vx.wT rfl rfl rfl (by first | with_reducible_and_instances assumption | exact rfl) | exact Go.Vx.wF rfl rfl rfl (by first | with_reducible_and_instances assumption | exact rfl))
    | (refine Go.Vx.RS.a rfl rfl rfl ?_ rfl ?_; · first | exact rfl | exact Go.Vx.wT rfl rfl rfl (by first | with_reducible_and_instances assumption | exact rfl) | exact Go.Vx.wF rfl rfl rfl (by first | with_reducible_and_instances assumption | exact rfl))
    | (refine Go.Vx.RS.ex rfl rfl rfl rfl ?_ rfl ?_; · first | exact rfl | exact Go.Vx.wT rfl rfl rfl (by first | with_reducible_and_instances assumption | exact rfl) | exact Go.Vx.wF rfl rfl rfl (by first | with_reducible_and_instances assumption | exact rfl))
    | (refine Go.Vx.RS.un rfl rfl rfl rfl rfl rfl ?_ rfl ?_; · first | exact rfl | exact Go.Vx.wT rfl rfl rfl (by first | with_reducible_and_instances assumption | exact rfl) | exact Go.Vx.wF rfl rfl rfl (by first | with_reducible_and_instances assumption | exact rfl))
    | refine Go.Vx.RS.ou ?_
    | refine Go.Vx.RS.oz ?_
  exact h.h) : A := g ⟨h⟩
theorem gn {A B : Prop} (h : B) (g : Hd B → A := by
  intro h
  repeat' first
    | refine Go.Vx.gq ?_
    | with_reducible refine Go.Vx.sq ?_
    | with_reducible refine Go.Vx.WPU.skip ?_
    | with_reducible refine Go.Vx.RS.done ?_
    | with_reducible refine Go.Vx.WPU.ret ?_
    | with_reducible refine Go.Vx.WPU.exit ?_
    | (refine Go.Vx.RS.nt rfl rfl rfl ?_ rfl rfl ?_; · first | with_reducible_and_instances assumption | exact rfl)
    | (refine Go.Vx.RS.nf rfl rfl rfl ?_ rfl rfl ?_; · first | with_reducible_and_instances assumption | exact rfl)
    | (refine Go.Vx.RS.mo rfl rfl rfl ?_ rfl ?_; · first | exact rfl | exact Go.Vx.wT rfl rfl rfl (by first | with_reducible_and_instances assumption | exact rfl) | exact Go.Vx.wF rfl rfl rfl (by first | with_reducible_and_instances assumption | exact rfl))
    | (refine Go.Vx.RS.in rfl rfl rfl rfl rfl ?_ rfl ?_; · first | exact rfl | exact Go.Vx.wT rfl rfl rfl (by first | with_reducible_and_instances assumption | exact rfl) | exact Go.Vx.wF rfl rfl rfl (by first | with_reducible_and_instances assumption | exact rfl))
    | (refine Go.Vx.RS.p1 rfl rfl ?_ rfl rfl ?_ rfl ?_; · first | with_reducible_and_instances assumption | exact rfl
       · first | exact rfl | exact Go.Vx.wT rfl rfl rfl (by first | with_reducible_and_instances assumption | exact rfl) | exact Go.Vx.wF rfl rfl rfl (by first | with_reducible_and_instances assumption | exact rfl))
    | (refine Go.Vx.RS.p0 rfl rfl ?_ rfl rfl ?_ rfl ?_; · first | with_reducible_and_instances assumption | exact rfl
       · first | exact rfl | exact Go.Vx.wT rfl rfl rfl (by first | with_reducible_and_instances assumption | exact rfl) | exact Go.Vx.wF rfl rfl rfl (by first | with_reducible_and_instances assumption | exact rfl))
    | (refine Go.Vx.RS.a rfl rfl rfl ?_ rfl ?_; · first | exact rfl | exact Go.Vx.wT rfl rfl rfl (by first | with_reducible_and_instances assumption | exact rfl) | exact Go.Vx.wF rfl rfl rfl (by first | with_reducible_and_instances assumption | exact rfl))
    | (refine Go.Vx.RS.ex rfl rfl rfl rfl ?_ rfl ?_; · first | exact rfl | exact Go.Vx.wT rfl rfl rfl (by first | with_reducible_and_instances assumption | exact rfl) | exact Go.Vx.wF rfl rfl rfl (by first | with_reducible_and_instances assumption | exact rfl))
    | (refine Go.Vx.RS.un rfl rfl rfl rfl rfl rfl ?_ rfl ?_; · first | exact rfl | exact Go.Vx.wT rfl rfl rfl (by first | with_reducible_and_instances assumption | exact rfl) | exact Go.Vx.wF rfl rfl rfl (by first | with_reducible_and_instances assumption | exact rfl))
    | refine Go.Vx.RS.ou ?_
    | refine Go.Vx.RS.oz ?_
  exact h.h) : A := g ⟨h⟩
theorem gr {A B:Prop} (h:B) (g:Hd B→A:=by intro h; refine Go.Vx.gn ?_; refine Go.Vx.rg1 rfl ?_; refine Go.Vx.gn ?_; exact h.h):A:=g ⟨h⟩
theorem gx {A:Prop} {α:Type} {a b:α} (h:some a=some b) (g:a=b→A:=by intro e; subst e; refine Go.Vx.go ?_; exact Go.Vx.rt1 rfl rfl rfl rfl):A:=g (sI h)
theorem gy {A:Prop} {α:Type} {a b:α} (h:some a=some b) (g:a=b→A:=by intro e; subst e; refine Go.Vx.go ?_; exact Go.Vx.xC ⟨rfl,rfl⟩):A:=g (sI h)
theorem gB {β:Type} {t:Bool} {a b r:Option β} (h:cond t a b=r):(t=true∧a=r)∨(t=false∧b=r):=by cases t; exact .inr ⟨rfl,h⟩; exact .inl ⟨rfl,h⟩
end Go.Vx
end
