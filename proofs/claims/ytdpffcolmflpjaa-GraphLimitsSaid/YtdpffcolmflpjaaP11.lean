/-
  Texts of the walk: MpN MpT MpU MpW.
-/
import Derived.Laws.BytesString
import Derived.Test.YtdpffcolmflpjaaP10
section
namespace Go.Vx
open Go Go.Rx
set_option linter.unusedVariables false
set_option linter.unusedSimpArgs false
theorem fz_iptr (K:Nat) (b:B) (sz:Nat) (l:List U):fz K b sz (.iptr l) = .iptr l:=by simp [fz]
end Go.Vx
end
section
namespace Go.Vx
open Go Go.Rx
set_option linter.unusedVariables false
set_option linter.unusedSimpArgs false
theorem makeList_run {P:Program} {T:Tb} (hT:TbOk P T) {m:Nm} {s:S} (w:World) {t e:TypeId} {sz by_ n:Nat} {z:Value} {ps:List (Nat×Value)} {cps:List (Nat×Value)} {cs:List Value}
  (hps:∀ m',Agree s.nx m m'→ps.map (fun p=>(p.1,ren m' p.2))=cps) (hd:T.und t=some (.slice e)) (hi:T.inf e=some (sz,by_,z)) (h1:Nat.ble (n*sz) 16777216=true) (h2:z.cells.toList.length=sz)
  (h3:fillX (fun i=>some (i*sz,sz)) (zeros z.cells.toList n) ps=some cs) :
  ∃ cl,RelL m s.nx cs cl∧(Instr.buildSlice t n cps.toArray).run P w = .ok (.slice (some ⟨w.heap.size,0,none⟩) n n) (w.alloc (.cells ⟨cl⟩ e)):=by
 have hsz:sizeX T e=some sz:=by simp [sizeX,hi]
 have hz:=fun m'=>q4n hT m' w hi
 have hzc:=q5m hT hi
 simp only at hz hzc
 have h1':n*sz≤16777216:=by simpa [Nat.ble_eq] using h1
 have hfill:∀ m',Agree s.nx m m'→Instr.fill (fun i=>some (i*sz,sz)) ⟨zeros z.cells.toList n⟩ cps=some ⟨renL m' cs⟩:=fun m' ha=>by
  have:=qaj m' _ ps _ _ h3
  rw [hps m' ha,q7a hzc] at this
  exact this
 have hcl:RelL m s.nx cs (renL m cs):=fun m' ha=>by
  have e1:=hfill m' ha
  have e2:=hfill m (Agree.refl _ _)
  rw [e1] at e2
  simpa using e2
 have hcells:z.cells.size=sz:=by simpa using h2
 refine ⟨renL m cs,hcl,?_⟩
 have hzeros:(Array.range (n*sz)).map (fun i=>(if n*sz=0 then (#[]:Array Value) else z.cells)[i % (if n*sz=0 then (#[]:Array Value) else z.cells).size]!)=⟨zeros z.cells.toList n⟩:=by
  by_cases h0:n*sz=0
  ·rw [h0]
   apply Array.ext'
   have:(zeros z.cells.toList n).length=0:=by rw [q8w,h2,h0]
   simp [List.length_eq_zero_iff.1 this]
  ·simp only [if_neg h0]
   have:=q8v z.cells n
   rw [hcells] at this
   rw [← this]
   simp [hcells]
 have hf2:=hfill m (Agree.refl _ _)
 have hnot:¬ n*sz > 2 ^ 24:=by omega
 have hzz:=(hz m).1
 by_cases h0:n*sz=0
 ·simp only [if_pos h0] at hzeros
  simp only [Instr.buildSlice,Sem.run_bind,q0t hT w hd,Result.andThen_ok,q1j hT w hsz,Sem.run_ite,if_neg hnot,Sem.run_pure,if_pos h0]
  rw [hzeros,hf2]
  simp [Go.newRow]
 ·simp only [if_neg h0] at hzeros
  simp only [Instr.buildSlice,Sem.run_bind,q0t hT w hd,Result.andThen_ok,q1j hT w hsz,Sem.run_ite,if_neg hnot,Sem.run_pure,if_neg h0,hzz]
  rw [hzeros,hf2]
  simp [Go.newRow]
theorem StepU.bslv {C:PG} {T:Tb} (hT:TbOk C.prog T) {σ:Sg} {tm:List U} {o:Oper} {t e:TypeId} {k sz b:Nat} {z:Value} {zu cs:List U} {ps:Array (Nat×Operand)} {qs:List (Nat×U)} (ho:o.op = .buildSlice t k ps) (hd:T.und t=some (.slice e)) (hi:T.inf e=some (sz,b,z))
  (h:evalUP tm ps.toList=some qs) (h1:Nat.ble (k*sz) 16777216=true) (h3:Nat.beq z.cells.toList.length sz=true) (hz:ofVL z.cells.toList=some zu) (hf:fillU (fun i=>some (i*sz,sz)) (zerosU zu k) qs=some cs) (hk:okL cs=true) (hl:Nat.beq cs.length (k*sz)=true) (hs:Nat.blt 0 sz=true) :
  StepU C σ tm o (fun u σ'=>u = .vl σ.nx 0 0 k∧σ'=newU σ (.vec cs e sz 0)):=fun F x tv m w a next Q hxσ st hG hn ro hro=>by
 subst hxσ
 obtain ⟨vs,ev,hp⟩:=qai st.e h
 have hzr:=(q6l _ _ hz).2 x
 obtain ⟨rv,f1,f2⟩:=q89 hp (q6a hzr k) hf
 have h2:z.cells.toList.length=sz:=by simpa [beq_eq] using h3
 obtain ⟨cl,g1,g2⟩:=makeList_run hT (m:=m) (s:=x.s) w (cps:=ps.toList.map fun p=>(p.1,a.eval p.2)) (fun m' hm'=>(evalP_ok (st.act m' hm') ev).symm) hd hi h1 h2 f1
 have e1:(ps.map fun (i,x)=>(i,a.eval x))=(ps.toList.map fun p=>(p.1,a.eval p.2)).toArray:=by cases ps; simp
 have hrun:(execOp a.eval o).run C.prog w = .ok (.value (.slice (some ⟨w.heap.size,0,none⟩) k k)) (w.alloc (.cells ⟨cl⟩ e)):=by
  simp only [execOp,ho]
  rw [e1]
  simp only [Sem.run_bind,g2,Result.andThen_ok,Sem.run_pure]
 have hlen:rv.length=k*sz:=by
  have h5:=f2.2
  have h6:cs.length=k*sz:=by simpa [beq_eq] using hl
  rw [← h5,h6]
 have hadv:Adv m x.s w (m.set x.s.nx w.heap.size 0 k) (Rx.newRow x.s rv e (sz+2)) (w.alloc (.cells ⟨cl⟩ e)):=by
  have:=q60 st.fits (rest:=[]) g1 e k sz (by simpa using hlen)
  simpa using this
 have hsz:0<sz:=by simpa [Nat.blt_eq] using hs
 have hout:=q7i st.h f2 hk e hsz
 have hrel:RelS (m.set x.s.nx w.heap.size 0 k) (x.s.nx+1) (.slice (some ⟨x.s.nx,0,none⟩) k capBase) (.slice (some ⟨w.heap.size,0,none⟩) k k):=fun m' ha=>by
  obtain ⟨q1,q2,q3⟩:=ha x.s.nx (Nat.lt_succ_self _)
  obtain ⟨r1,r2,r3⟩:=q4o m x.s.nx w.heap.size 0 k
  simp [ren,q1,q2,r1,r2,capOf,capD,q3,r3]
 refine q5c (by rw [ho]; intro c hc; cases hc) ?_
 unfold Oper.wp
 rw [hrun]
 exact hn _ ⟨setρ x.ρ x.σ.nx (some x.s.nx),newU x.σ (.vec cs e sz 0),Rx.newRow x.s rv e (sz+2)⟩ (putT tv o.dst (.slice (some ⟨x.s.nx,0,none⟩) k capBase)) _ _ _ ⟨rfl,rfl⟩
  ⟨hout.h,hout.fr F st.fr,q99 (hout.mo.ke.E st.e.bel st.e) q7k _,hadv.fits,(st.act.ext hadv.agree hadv.nx).put hrel o.dst⟩ hadv hout.mo.ke hout.mo.nx (q4g _ _ _)
end Go.Vx
end
section
namespace Go.Vx
open Go Go.Rx
set_option linter.unusedVariables false
set_option linter.unusedSimpArgs false
def mvN (K K2 k:Nat):Nat:=cond (Nat.beq k K) K2 k
def mvH (K K2:Nat):List (Nat×B)→List (Nat×B)
 | []=>[]
 | (k,b)::h=>cond (Nat.beq k K) (mvH K K2 h) (cond (Nat.beq k K2) ((K,b)::mvH K K2 h) ((k,b)::mvH K K2 h))
theorem gt_mvH {K K2:Nat} (hne:K≠K2):∀ (h:List (Nat×B)) (j:Nat),gt (mvH K K2 h) j=if j=K then gt h K2 else if j=K2 then none else gt h j
 | [],j=>by simp [mvH,gt]
 | (k,b)::h,j=>by
  have ih:=gt_mvH hne h j
  simp only [mvH,beq_eq]
  by_cases e1:k=K
  ·subst e1
   simp only [decide_true,cond_true,ih,q1a]
   by_cases e2:j=k
   ·subst e2; simp [hne]
   ·simp [e2,Ne.symm e2]
  ·by_cases e2:k=K2
   ·subst e2
    simp only [e1,decide_false,cond_false,decide_true,cond_true,q1a,ih]
    by_cases e3:j=K
    ·subst e3; simp
    ·by_cases e4:j=k
     ·simp [e4,e1,Ne.symm e3]
      intro h; exact absurd h.symm e1
     ·simp [e3,e4,Ne.symm e3,Ne.symm e4]
   ·simp only [e1,e2,decide_false,cond_false,q1a,ih]
    by_cases e3:j=K
    ·subst e3; simp [e1,e2]
    ·by_cases e4:j=K2
     ·subst e4; simp [e3,e2]
     ·simp [e3,e4]
def rS (π:Nat→Nat):List (Nat×U)→List (Nat×U)
 | []=>[]
 | (i,u)::l=>(i,rU π u)::rS π l
theorem lookS_rS (π:Nat→Nat):∀ (l:List (Nat×U)) (i:Nat),lookS (rS π l) i=(lookS l i).map (rU π)
 | [],i=>rfl
 | (j,u)::l,i=>by
  simp only [rS,lookS,beq_eq,lookS_rS π l i]
  by_cases e:j=i<;>simp [e]
theorem rUL_get (π:Nat→Nat):∀ (l:List U) (i:Nat),(rUL π l)[i]? = (l[i]?).map (rU π)
 | [],i=>by simp [rUL]
 | u::l,0=>by simp [rUL]
 | u::l,i+1=>by simp [rUL,rUL_get π l i]
theorem rUL_fr (π:Nat→Nat) (n:Nat) (l:List (Nat×U)):rUL π (fr n l)=fr n (rS π l):=by
 apply List.ext_getElem?
 intro k
 rw [rUL_get]
 by_cases hk:k<n
 ·rw [q8d n l hk,q8d n _ hk,lookS_rS]
  cases lookS l k with
  | none=>simp [rU]
  | some w=>rfl
 ·rw [List.getElem?_eq_none (by simp [q7t]; omega),List.getElem?_eq_none (by simp [q7t]; omega)]
  rfl
def avH (π:Nat→Nat):List (Nat×B)→Prop
 | []=>True
 | (_,b)::h=>rB π b=b∧avH π h
theorem avH_at {π:Nat→Nat}:∀ {h:List (Nat×B)},avH π h→∀ k b,gt h k=some b→rB π b=b
 | [],_,k,b,hg=>by cases hg
 | (j,c)::h,ha,k,b,hg=>by
  rw [q1a] at hg
  by_cases e:j=k
  ·rw [if_pos e] at hg; cases hg; exact ha.1
  ·rw [if_neg e] at hg; exact avH_at ha.2 k b hg
theorem Gh.mv {n0 n:Nat} {l l':List (Nat×U)} {σ:Sg} {h':List (Nat×B)} (K K2:Nat) (h0:n0≤K) (hK:Nat.blt K σ.nx=true) (hne:Nat.beq K K2=false) (hl:rS (mvN K K2) l'=l) (hm:mvH K K2 σ.h=h') (ha:avH (mvN K K2) h') [hb:BS σ.nx l']:Gh n0 (fr n l) σ (fr n l') ⟨h',σ.nx⟩:=fun F x tv hx hr hf he=>by
 subst hx; subst hl; subst hm
 have hK':K<x.σ.nx:=by simpa [Nat.blt_eq] using hK
 have hne':K≠K2:=by simpa [beq_eq] using hne
 have key:∀ k b,gt (mvH K K2 x.σ.h) k=some b→gt x.σ.h (mvN K K2 k)=some b:=fun k b hg=>by
  rw [gt_mvH hne'] at hg
  simp only [mvN,beq_eq]
  by_cases e:k=K
  ·rw [if_pos e] at hg; simpa [e] using hg
  ·rw [if_neg e] at hg
   by_cases e2:k=K2
   ·rw [if_pos e2] at hg; cases hg
   ·rw [if_neg e2] at hg; simpa [e] using hg
 let y:Cx:=⟨fun k=>x.ρ (mvN K K2 k),⟨mvH K K2 x.σ.h,x.σ.nx⟩,x.s⟩
 have hU:Unleaf x.σ.nx (mvN K K2) x y:=⟨fun k st off v hk h=>by
   simp only [Rel,Ref] at h ⊢
   exact ⟨h.1,hk,fun b hb=>h.2.2 b (key k b hb)⟩,fun k off m c v hk h=>by
   simp only [Rel,Ref] at h ⊢
   exact ⟨h.1,hk,fun b hb=>h.2.2 b (key k b hb)⟩,fun k st off m v hk h=>by
   simp only [Rel] at h ⊢
   exact ⟨h.1,hk,fun b hb=>h.2.2 b (key k b hb)⟩,fun k v hk h=>by
   simp only [Rel,Ref] at h ⊢
   exact ⟨h.1,hk,fun b hb=>h.2.2 b (key k b hb)⟩,fun _ _ _ h=>h⟩
 have hback:∀ u,Bel n0 u→rU (mvN K K2) u=u:=fun u hbu=>by
  have:=rU_back (π:=id) (κ:=mvN K K2) (n:=n0) (fun k hk=>by
   have:¬ k=K:=by omega
   simp [mvN,beq_eq,this]) u hbu
  rwa [rid] at this
 refine ⟨y,fun m w hf=>Adv.refl hf,rfl,⟨fun k b hb=>?_,fun k k' b b' i hb hb' h1 h2=>?_,hr.bd⟩,fun i b hF=>?_,?_,fun u v hbu hv=>?_⟩
 ·have hg:=key k b hb
  obtain ⟨g1,g2⟩:=hr.ok _ _ hg
  have hkl:k<x.σ.nx:=by
   by_cases e:k=K
   ·omega
   ·have e2:mvN K K2 k=k:=by simp [mvN,beq_eq,e]
    rw [e2] at g1; exact g1
  refine ⟨hkl,BOk.unleaf hU g2.belB rfl (fun _ _ _ h=>h) ?_⟩
  rw [avH_at ha k b hb]; exact g2
 ·have e:=hr.inj _ _ b b' i (key k b hb) (key k' b' hb') h1 h2
  have hn2:∀ k b,gt (mvH K K2 x.σ.h) k=some b→k≠K2:=fun k b hb h=>by
   subst h
   rw [gt_mvH hne',if_neg (Ne.symm hne'),if_pos rfl] at hb
   cases hb
  have q1:=hn2 k b hb
  have q2:=hn2 k' b' hb'
  simp only [mvN,beq_eq] at e
  by_cases e1:k=K
  ·by_cases e2:k'=K
   ·rw [e1,e2]
   ·simp [e1,e2] at e; exact absurd e.symm q2
  ·by_cases e2:k'=K
   ·simp [e1,e2] at e; exact absurd e q1
   ·simpa [e1,e2] using e
 ·obtain ⟨h1,h2⟩:=hf i b hF
  exact ⟨h1,fun k c hc=>h2 _ c (key k c hc)⟩
 ·refine RelE.unleaf hU (belL_fr hb.h) ?_
  rw [rUL_fr]; exact he
 ·exact Rel.unleaf hU u v (Bel.le (by omega) u hbu) (by rw [hback u hbu]; exact hv)
end Go.Vx
end
section
namespace Go.Vx
open Go Go.Rx
set_option linter.unusedVariables false
set_option linter.unusedSimpArgs false
theorem restamp {F:Nat→Blk→Prop} {y:Cx} {K:Nat} {l:List U} {e:TypeId} {sz t n:Nat} {h:List (Nat×B)} (hy:y.σ=⟨(K,.vec l e sz t)::h,K+1⟩) (hh:HRel y) (hf:Fr F y) (hb:∀ k b,gt h k=some b→k<K∧BelB K b) (hl:BelL 0 l) :
  ∃ y':Cx,y'.σ=⟨(K,.vec l e sz 0)::h,K+1⟩∧y'.s=y.s∧HRel y'∧Fr F y'∧Ke K y y'∧∀ v,Rel y (.vl K t 0 n) v→Rel y' (.vl K 0 0 n) v:=by
 have gy:∀ j,gt y.σ.h j=if K=j then some (.vec l e sz t) else gt h j:=fun j=>by rw [hy]; exact q1a _ _ _ _
 have gy':∀ j,gt ((K,B.vec l e sz 0)::h) j=if K=j then some (.vec l e sz 0) else gt h j:=fun j=>q1a _ _ _ _
 have hnx:y.σ.nx=K+1:=by rw [hy]
 let y':Cx:=⟨y.ρ,⟨(K,.vec l e sz 0)::h,K+1⟩,y.s⟩
 have hmo:Mo K y y':=by
  refine ⟨fun j h1 h2=>⟨by show j<K+1; omega,fun b' hb'=>?_⟩,fun _ _ _ h=>h⟩
  have hb2:gt ((K,B.vec l e sz 0)::h) j=some b':=hb'
  rw [gy',if_neg (by omega)] at hb2
  exact ⟨b',by rw [gy,if_neg (by omega)]; exact hb2,Nat.le_refl _,fun _=>⟨rfl,fun l e sz st h=>⟨l,h⟩⟩⟩
 refine ⟨y',rfl,rfl,⟨fun j b hbj=>?_,fun j j' b b' i hbj hbj' h1 h2=>?_,hh.bd⟩,fun i b hF=>?_,hmo.ke,fun v hv=>?_⟩
 ·have hb2:gt ((K,B.vec l e sz 0)::h) j=some b:=hbj
  rw [gy'] at hb2
  by_cases e1:K=j
  ·subst e1
   rw [if_pos rfl] at hb2
   cases hb2
   refine ⟨by show K<K+1; omega,?_⟩
   obtain ⟨_,q1,q2,q3⟩:=hh.ok K (.vec l e sz t) (by rw [gy,if_pos rfl])
   refine ⟨q1,q2,?_⟩
   rcases q3 with q3 | ⟨i,l',r1,r2,r3⟩
   ·exact .inl q3
   ·exact .inr ⟨i,l',r1,r2,hmo.ke.E (BelL.le (Nat.zero_le _) l hl) r3⟩
  ·rw [if_neg e1] at hb2
   obtain ⟨h1,h2⟩:=hb j b hb2
   refine ⟨by show j<K+1; omega,?_⟩
   exact (hh.ok j b (by rw [gy,if_neg e1]; exact hb2)).2.monoB h2 hmo rfl fun _ _ _ h=>h
 ·have key:∀ j b,gt ((K,B.vec l e sz 0)::h) j=some b→∃ c,gt y.σ.h j=some c:=fun j b hb=>by
   rw [gy'] at hb
   by_cases e1:K=j
   ·exact ⟨_,by rw [gy,if_pos e1]⟩
   ·rw [if_neg e1] at hb; exact ⟨b,by rw [gy,if_neg e1]; exact hb⟩
  obtain ⟨c,g1⟩:=key j b hbj
  obtain ⟨c',g2⟩:=key j' b' hbj'
  exact hh.inj j j' c c' i g1 g2 h1 h2
 ·obtain ⟨h1,h2⟩:=hf i b hF
  refine ⟨h1,fun j c hc=>?_⟩
  have hc2:gt ((K,B.vec l e sz 0)::h) j=some c:=hc
  rw [gy'] at hc2
  by_cases e1:K=j
  ·exact h2 j _ (by rw [gy,if_pos e1])
  ·rw [if_neg e1] at hc2; exact h2 j c (by rw [gy,if_neg e1]; exact hc2)
 ·simp only [Rel] at hv ⊢
  refine ⟨hv.1,by show K<K+1; omega,fun b hb=>?_⟩
  have hb2:gt ((K,B.vec l e sz 0)::h) K=some b:=hb
  rw [gy',if_pos rfl] at hb2
  cases hb2
  obtain ⟨_,g2⟩:=hv.2.2 (.vec l e sz t) (by rw [gy,if_pos rfl])
  obtain ⟨l2,e2,sz2,g3,g4⟩:=g2 rfl
  cases g3
  exact ⟨Nat.le_refl _,fun _=>⟨l,e,sz,rfl,g4⟩⟩
theorem EvU.own0 {α:Type} (c:α→List U) {P:Program} {f:FuncId} {ys:List α} {e:TypeId} {sz:Nat} {as:List U} [hc:BF c] [ha:BUL 0 as] {k:Nat}
  (h:EvU P f as ⟨[],0⟩ (fun u σ'=>∃ t',u = .vl k t' 0 ys.length∧σ'=⟨[(k,.vec (ys.map c).flatten e sz t')],k+1⟩))
  (σ:Sg) (K:Nat) (hK:σ.nx+k=K) :
  EvU P f as σ (fun u σ'=>u = .vl K 0 0 ys.length∧σ'=⟨(K,.vec (ys.map c).flatten e sz 0)::σ.h,K+1⟩):=fun F x vs m w cargs hx hh hfr he hfit hargs=>by
 have h1:=EvU.own1 c h σ K hK
 refine (h1 F x vs m w cargs hx hh hfr he hfit hargs).mono ?_
 rintro e' w₁ ⟨y,m₁,u,v,cv,q1,⟨t',rfl,q3⟩,q4,q5,q6,q7,q8,q9,q10⟩
 obtain ⟨y',z1,z2,z3,z4,z5,z6⟩:=restamp (F:=F) q3 q6 q7 (fun k b hb=>by
  have:=hh.ok k b (by rw [hx]; exact hb)
  rw [hx] at this
  refine ⟨by omega,?_⟩
  have hbel:=this.2.belB
  rw [hx] at hbel
  cases b with
  | row l e=>exact BelL.le (by omega) l hbel
  | vec l e s st=>exact BelL.le (by omega) l hbel
  | map es cl=>exact fun e he=>⟨Bel.le (by omega) _ (hbel e he).1,Bel.le (by omega) _ (hbel e he).2⟩) (q2i 0 (hc.h 0) ys)
 exact ⟨y',m₁,_,v,cv,q1,⟨rfl,z1⟩,by rw [z2]; exact q4,by rw [z2]; exact q5,z3,z4,z6 v q8,q9.trans (z5.le (by rw [hx]; omega)),by rw [z1,hx]; show σ.nx≤K+1; omega⟩
end Go.Vx
end
