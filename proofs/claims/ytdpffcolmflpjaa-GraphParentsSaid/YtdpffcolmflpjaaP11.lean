/-
  Texts of the walk: MpN MpT.
-/
import Derived.Laws.BytesString
import Derived.Test.YtdpffcolmflpjaaP10
section
namespace Go.Vx
open Go Go.Rx
set_option linter.unusedVariables false
set_option linter.unusedSimpArgs false
theorem fz_iptr (K:Nat) (b:B) (sz:Nat) (l:List U):fz K b sz (.iptr l) = .iptr l:=by simp [fz]
end Go.Vx
end
section
namespace Go.Vx
open Go Go.Rx
set_option linter.unusedVariables false
set_option linter.unusedSimpArgs false
theorem makeList_run {P:Program} {T:Tb} (hT:TbOk P T) {m:Nm} {s:S} (w:World) {t e:TypeId} {sz by_ n:Nat} {z:Value} {ps:List (Nat×Value)} {cps:List (Nat×Value)} {cs:List Value}
  (hps:∀ m',Agree s.nx m m'→ps.map (fun p=>(p.1,ren m' p.2))=cps) (hd:T.und t=some (.slice e)) (hi:T.inf e=some (sz,by_,z)) (h1:Nat.ble (n*sz) 16777216=true) (h2:z.cells.toList.length=sz)
  (h3:fillX (fun i=>some (i*sz,sz)) (zeros z.cells.toList n) ps=some cs) :
  ∃ cl,RelL m s.nx cs cl∧(Instr.buildSlice t n cps.toArray).run P w = .ok (.slice (some ⟨w.heap.size,0,none⟩) n n) (w.alloc (.cells ⟨cl⟩ e)):=by
 have hsz:sizeX T e=some sz:=by simp [sizeX,hi]
 have hz:=fun m'=>q4i hT m' w hi
 have hzc:=q5i hT hi
 simp only at hz hzc
 have h1':n*sz≤16777216:=by simpa [Nat.ble_eq] using h1
 have hfill:∀ m',Agree s.nx m m'→Instr.fill (fun i=>some (i*sz,sz)) ⟨zeros z.cells.toList n⟩ cps=some ⟨renL m' cs⟩:=fun m' ha=>by
  have:=qa4 m' _ ps _ _ h3
  rw [hps m' ha,q6w hzc] at this
  exact this
 have hcl:RelL m s.nx cs (renL m cs):=fun m' ha=>by
  have e1:=hfill m' ha
  have e2:=hfill m (Agree.refl _ _)
  rw [e1] at e2
  simpa using e2
 have hcells:z.cells.size=sz:=by simpa using h2
 refine ⟨renL m cs,hcl,?_⟩
 have hzeros:(Array.range (n*sz)).map (fun i=>(if n*sz=0 then (#[]:Array Value) else z.cells)[i % (if n*sz=0 then (#[]:Array Value) else z.cells).size]!)=⟨zeros z.cells.toList n⟩:=by
  by_cases h0:n*sz=0
  ·rw [h0]
   apply Array.ext'
   have:(zeros z.cells.toList n).length=0:=by rw [q8b,h2,h0]
   simp [List.length_eq_zero_iff.1 this]
  ·simp only [if_neg h0]
   have:=q8a z.cells n
   rw [hcells] at this
   rw [← this]
   simp [hcells]
 have hf2:=hfill m (Agree.refl _ _)
 have hnot:¬ n*sz > 2 ^ 24:=by omega
 have hzz:=(hz m).1
 by_cases h0:n*sz=0
 ·simp only [if_pos h0] at hzeros
  simp only [Instr.buildSlice,Sem.run_bind,q0w hT w hd,Result.andThen_ok,q1e hT w hsz,Sem.run_ite,if_neg hnot,Sem.run_pure,if_pos h0]
  rw [hzeros,hf2]
  simp [Go.newRow]
 ·simp only [if_neg h0] at hzeros
  simp only [Instr.buildSlice,Sem.run_bind,q0w hT w hd,Result.andThen_ok,q1e hT w hsz,Sem.run_ite,if_neg hnot,Sem.run_pure,if_neg h0,hzz]
  rw [hzeros,hf2]
  simp [Go.newRow]
theorem StepU.bslv {C:PG} {T:Tb} (hT:TbOk C.prog T) {σ:Sg} {tm:List U} {o:Oper} {t e:TypeId} {k sz b:Nat} {z:Value} {zu cs:List U} {ps:Array (Nat×Operand)} {qs:List (Nat×U)} (ho:o.op = .buildSlice t k ps) (hd:T.und t=some (.slice e)) (hi:T.inf e=some (sz,b,z))
  (h:evalUP tm ps.toList=some qs) (h1:Nat.ble (k*sz) 16777216=true) (h3:Nat.beq z.cells.toList.length sz=true) (hz:ofVL z.cells.toList=some zu) (hf:fillU (fun i=>some (i*sz,sz)) (zerosU zu k) qs=some cs) (hk:okL cs=true) (hl:Nat.beq cs.length (k*sz)=true) (hs:Nat.blt 0 sz=true) :
  StepU C σ tm o (fun u σ'=>u = .vl σ.nx 0 0 k∧σ'=newU σ (.vec cs e sz 0)):=fun F x tv m w a next Q hxσ st hG hn ro hro=>by
 subst hxσ
 obtain ⟨vs,ev,hp⟩:=qa3 st.e h
 have hzr:=(q6d _ _ hz).2 x
 obtain ⟨rv,f1,f2⟩:=q7s hp (q63 hzr k) hf
 have h2:z.cells.toList.length=sz:=by simpa [beq_eq] using h3
 obtain ⟨cl,g1,g2⟩:=makeList_run hT (m:=m) (s:=x.s) w (cps:=ps.toList.map fun p=>(p.1,a.eval p.2)) (fun m' hm'=>(evalP_ok (st.act m' hm') ev).symm) hd hi h1 h2 f1
 have e1:(ps.map fun (i,x)=>(i,a.eval x))=(ps.toList.map fun p=>(p.1,a.eval p.2)).toArray:=by cases ps; simp
 have hrun:(execOp a.eval o).run C.prog w = .ok (.value (.slice (some ⟨w.heap.size,0,none⟩) k k)) (w.alloc (.cells ⟨cl⟩ e)):=by
  simp only [execOp,ho]
  rw [e1]
  simp only [Sem.run_bind,g2,Result.andThen_ok,Sem.run_pure]
 have hlen:rv.length=k*sz:=by
  have h5:=f2.2
  have h6:cs.length=k*sz:=by simpa [beq_eq] using hl
  rw [← h5,h6]
 have hadv:Adv m x.s w (m.set x.s.nx w.heap.size 0 k) (Rx.newRow x.s rv e (sz+2)) (w.alloc (.cells ⟨cl⟩ e)):=by
  have:=q5t st.fits (rest:=[]) g1 e k sz (by simpa using hlen)
  simpa using this
 have hsz:0<sz:=by simpa [Nat.blt_eq] using hs
 have hout:=q74 st.h f2 hk e hsz
 have hrel:RelS (m.set x.s.nx w.heap.size 0 k) (x.s.nx+1) (.slice (some ⟨x.s.nx,0,none⟩) k capBase) (.slice (some ⟨w.heap.size,0,none⟩) k k):=fun m' ha=>by
  obtain ⟨q1,q2,q3⟩:=ha x.s.nx (Nat.lt_succ_self _)
  obtain ⟨r1,r2,r3⟩:=q4j m x.s.nx w.heap.size 0 k
  simp [ren,q1,q2,r1,r2,capOf,capD,q3,r3]
 refine q5a (by rw [ho]; intro c hc; cases hc) ?_
 unfold Oper.wp
 rw [hrun]
 exact hn _ ⟨setρ x.ρ x.σ.nx (some x.s.nx),newU x.σ (.vec cs e sz 0),Rx.newRow x.s rv e (sz+2)⟩ (putT tv o.dst (.slice (some ⟨x.s.nx,0,none⟩) k capBase)) _ _ _ ⟨rfl,rfl⟩
  ⟨hout.h,hout.fr F st.fr,q8o (hout.mo.ke.E st.e.bel st.e) q76 _,hadv.fits,(st.act.ext hadv.agree hadv.nx).put hrel o.dst⟩ hadv hout.mo.ke hout.mo.nx (q4b _ _ _)
end Go.Vx
end
