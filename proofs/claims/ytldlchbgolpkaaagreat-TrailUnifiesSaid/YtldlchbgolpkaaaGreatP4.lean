/-
  Texts of the walk: RxG.
-/
import Derived.Laws.Append
import Derived.Test.YtldlchbgolpkaaaGreatP3
set_option linter.unusedSimpArgs false
set_option linter.unusedVariables false
section
namespace Go.Rx
open Go
def Eff (P:Program) (m:Nm) (s:S) (w:World) (x:Sem Value) (v:Value) (s₁:S):Prop :=
 ∃ m₁ w₁ cv,x.run P w = .ok cv w₁∧Adv m s w m₁ s₁ w₁∧q8f m₁ s₁.nx v cv
def EffU (P:Program) (m:Nm) (s:S) (w:World) (x:Sem Unit) (s₁:S):Prop :=
 ∃ m₁ w₁,x.run P w = .ok () w₁∧Adv m s w m₁ s₁ w₁
theorem q8f.cells {m:Nm} {n:Nat} {v cv:Value} (h:q8f m n v cv):qi9 m n v.cells.toList cv.cells.toList:=fun m' ha=>by
 rw [← h m' ha,qik,toList_renA]
variable {m:Nm}
variable {n:Nat}
variable {l:List Value}
theorem qgw (h:∀ m',renL m' l=l):qi9 m n l l:=fun m' _=>h m'
variable {v:Value}
theorem q50 (h:∀ m',ren m' v=v):q8f m n v v:=fun m' _=>h m'
theorem qi9.append {a b ca cb:List Value} (h:qi9 m n a ca) (h':qi9 m n b cb):qi9 m n (a++b) (ca++cb):=fun m' ha=>by
 rw [q28,h m' ha,h' m' ha]
theorem q9x (m:Nm) (i b sh cp:Nat):(m.set i b sh cp).blk i=b∧(m.set i b sh cp).sh i=sh∧(m.set i b sh cp).cp i=cp:=by simp [Nm.set]
variable {s:S}
theorem qvt (b sh cp n:Nat) (hn:s.nx<n):q8f (m.set s.nx b sh cp) n (.pointer (some ⟨s.nx,0,none⟩)) (.pointer (some ⟨b,sh,none⟩)):=fun m' ha=>by
 obtain ⟨h1,h2,_⟩:=ha s.nx hn
 obtain ⟨e1,e2,_⟩:=q9x m s.nx b sh cp
 simp [ren,h1,h2,e1,e2]
variable {w:World}
theorem qpo (hf:q48 m s w) {cl:List Value} (hl:qi9 m s.nx l cl) (e:TypeId) (cp:Nat) :
  Adv m s w (m.set s.nx w.heap.size 0 cp) (newRow s l e 0) (w.alloc (.cells ⟨cl⟩ e)):=by
 refine Adv.alloc hf _ _ cp fun m' ha=>?_
 have ha':Agree s.nx m m':=(Nm.agree_set m s.nx w.heap.size 0 cp).trans ha (Nat.le_succ _)
 obtain ⟨h1,h2,_⟩:=ha s.nx (zN _)
 obtain ⟨e1,e2,_⟩:=q9x m s.nx w.heap.size 0 cp
 refine ⟨by rw [h2,e2],?_⟩
 rw [h1,e1,hl m' ha']
 show (w.heap.push _)[w.heap.size]? = _
 simp
theorem qdm (hf:q48 m s w) {cl rest:List Value} (hl:qi9 m s.nx l cl) (e:TypeId) (cp sz:Nat) (hlen:l.length+rest.length=cp*sz) :
  Adv m s w (m.set s.nx w.heap.size 0 cp) (newRow s l e (sz+2)) (w.alloc (.cells ⟨cl++rest⟩ e)):=by
 refine Adv.alloc hf _ _ cp fun m' ha=>?_
 have ha':Agree s.nx m m':=(Nm.agree_set m s.nx w.heap.size 0 cp).trans ha (Nat.le_succ _)
 obtain ⟨h1,h2,h3⟩:=ha s.nx (zN _)
 obtain ⟨e1,e2,e3⟩:=q9x m s.nx w.heap.size 0 cp
 refine ⟨[],rest,?_,by simp [h2,e2],by rw [h3,e3,hlen]⟩
 rw [h1,e1,hl m' ha']
 show (w.heap.push _)[w.heap.size]? = _
 simp
theorem qn2 {e:TypeId} {md:Nat} (h:md≠1):Own (.inl (l,e,md))=true:=by
 rcases md with _ | _ | n<;>simp_all [Own]
theorem qjm {P:Program} (hf:q48 m s w) {i off:Nat} {l' vs cvs:List Value} {e:TypeId} {md:Nat} (hr:ownRow s i=some (l,e,md)) (hp:qnx l off vs=some l')
  (hv:qi9 m s.nx vs cvs) (h1:q78 vs=true) :
  ∃ w₁,(storeCells ⟨m.blk i,m.sh i+off,none⟩ cvs 0).run P w = .ok () w₁∧Adv m s w m ⟨up s.h i (.inl (l',e,md)),s.nx⟩ w₁:=by
 obtain ⟨hl,hmd⟩:=qf2 hr
 obtain ⟨hlen,hl'⟩:=qs7 hp
 have hone:∀ v∈cvs,v.oneCell'=true:=by rw [← hv.at]; exact qoe h1
 have hcl:cvs.length=vs.length:=by rw [← hv.at]; simp
 rcases md with _ | _ | n
 ·have h0:∀ m',Agree s.nx m m'→m'.sh i=0∧w.heap[m'.blk i]? = some (.cells (renL m' l).toArray e (0,0)):=fun m' ha=>(hf m' ha).ok i _ hl
  obtain ⟨hsh,hb⟩:=h0 m (Agree.refl _ _)
  have hst:=run_storeCells_at P (m.blk i) off e cvs 0 _ w hb (by simp; omega) hone
  simp only [Nat.add_zero] at hst
  rw [hsh,Nat.zero_add]
  refine ⟨_,hst,Adv.write hf hl (qn2 hmd) (fun k hk=>setRow_other w _ k _ hk) (by simp) rfl rfl rfl (zF _) fun m' ha=>?_⟩
  obtain ⟨hsh',hb'⟩:=h0 m' ha
  have hbi:m'.blk i=m.blk i:=(ha i ((hf.fits).bd i _ hl)).1
  refine ⟨hsh',?_⟩
  rw [hbi,setRow_heap w _ _ _ e (0,0) hb]
  rw [hbi] at hb'
  have hrl:renL m' l=renL m l:=by
   have:=hb.symm.trans hb'
   simp at this
   exact this.symm
  rw [hl',q28,q28,hv m' ha]
  have e1:renL m' (l.take off)=(renL m l).take off:=by rw [← hrl]; simp [q2s,List.map_take]
  have e2:renL m' (l.drop (off+vs.length))=(renL m l).drop (off+cvs.length):=by rw [← hrl,hcl]; simp [q2s,List.map_drop]
  rw [e1,e2]
 ·exact absurd rfl hmd
 ·have h0:∀ m',Agree s.nx m m'→∃ pr rest,w.heap[m'.blk i]? = some (.cells (pr++renL m' l++rest).toArray e (0,0))∧pr.length=m'.sh i∧l.length+rest.length=m'.cp i*n:=fun m' ha=>(hf m' ha).ok i _ hl
  obtain ⟨pr,rest,hb,hpr,hrest⟩:=h0 m (Agree.refl _ _)
  have hst:=run_storeCells_at P (m.blk i) (m.sh i+off) e cvs 0 _ w hb (by simp; omega) hone
  simp only [Nat.add_zero] at hst
  refine ⟨_,hst,Adv.write hf hl (qn2 hmd) (fun k hk=>setRow_other w _ k _ hk) (by simp) rfl rfl rfl (zF _) fun m' ha=>?_⟩
  obtain ⟨pr',rest',hb',hpr',hrest'⟩:=h0 m' ha
  obtain ⟨hbi,hsi,hci⟩:=ha i ((hf.fits).bd i _ hl)
  rw [hbi] at hb'
  have hall:pr'++renL m' l++rest'=pr++renL m l++rest:=by
   have:=hb.symm.trans hb'
   simp at this
   simpa using this.symm
  have hpp:pr'=pr∧renL m' l=renL m l∧rest'=rest:=by
   rw [zT,zT] at hall
   obtain ⟨e1,e2⟩:=List.append_inj hall (by rw [hpr',hpr,hsi])
   obtain ⟨e3,e4⟩:=List.append_inj e2 (by simp)
   exact ⟨e1,e3,e4⟩
  refine ⟨pr,rest,?_,by rw [hsi,hpr],?_⟩
  ·rw [hbi,setRow_heap w _ _ _ e (0,0) hb]
   rw [hl',q28,q28,hv m' ha]
   have e1:renL m' (l.take off)=(renL m l).take off:=by rw [← hpp.2.1]; simp [q2s,List.map_take]
   have e2:renL m' (l.drop (off+vs.length))=(renL m l).drop (off+cvs.length):=by rw [← hpp.2.1,hcl]; simp [q2s,List.map_drop]
   rw [e1,e2]
   congr 2
   simp only [zT]
   rw [← hpr,List.take_append,zW (by omega),Nat.add_sub_cancel_left,List.take_append_of_le_length (by simp; omega)]
   rw [List.drop_append,List.drop_of_length_le (by omega),List.nil_append,show pr.length+off+cvs.length - pr.length=off+cvs.length by omega,List.drop_append_of_le_length (by simp; omega)]
   simp
  ·rw [hci,← hrest,hl']
   simp
   omega
section
variable {P:Program} {T:Tb} (hT:qfp P T) {m:Nm} {s:S} {w:World} (hf:q48 m s w)
include hT hf
theorem z3j {t:TypeId} {p cp cv u:Value} {s₁:S} (hp:q8f m s.nx p cp) (hv:q8f m s.nx v cv) (h:qoz T s t p v=some (u,s₁)) :
  EffU P m s w (Instr.storeAt t cp cv) s₁∧u=undef:=by
 unfold qoz at h
 cases p with
 | pointer q =>
  cases q with
  | none=>simp at h
  | some a =>
   simp only [beq_eq] at h
   cases hs:q0x T t with
   | none=>simp [hs] at h
   | some n =>
    simp only [hs] at h
    by_cases hn:v.cells.toList.length=n
    ·simp only [hn,yC,zC] at h
     cases h1:q78 v.cells.toList with
     | false=>simp [h1] at h
     | true =>
      simp only [h1,zC] at h
      cases hr:ownRow s a.block with
      | none=>simp [hr] at h
      | some r =>
       obtain ⟨l,e,md⟩:=r
       simp only [hr] at h
       cases hq:qnx l a.off v.cells.toList with
       | none=>simp [hq] at h
       | some l' =>
        simp only [hq,zA,zB] at h
        obtain ⟨rfl,rfl⟩:=h
        refine ⟨?_,rfl⟩
        obtain ⟨w₁,hrun,hadv⟩:=qjm (P:=P) hf hr hq hv.cells h1
        refine ⟨m,w₁,?_,hadv⟩
        have hcp:cp = .pointer (some ⟨m.blk a.block,m.sh a.block+a.off,none⟩):=by rw [← hp.at]; simp [ren]
        have hsz:cv.cells.size=n:=by
         have:cv.cells.toList.length=n:=by rw [← hv.cells.at]; simpa using hn
         simpa using this
        subst hcp
        simp [Instr.storeAt,Instr.sureAddr,storeVar,q1y hT w hs,hsz,hrun]
    ·simp only [hn,yB,zD] at h; cases h
 | _=>simp at h
omit hT hf in
theorem qjp (z:Array Value) (n:Nat):(Array.range (n*z.size)).map (fun i=>z[i % z.size]!)=⟨zeros z.toList n⟩:=by
 apply Array.ext'
 simp only [Array.toList_map,Array.toList_range]
 rcases Nat.eq_zero_or_pos z.size with h0 | hpos
 ·have hz:z = #[]:=by simpa using h0
  subst hz
  induction n with
  | zero=>simp [zeros]
  | succ n ih=>simp [zeros] at ih ⊢; exact ih
 ·induction n with
  | zero=>simp [zeros]
  | succ n ih =>
   have e:(n+1)*z.size=z.size+n*z.size:=by rw [Nat.add_mul]; omega
   rw [e,List.range_add,List.map_append,zeros,← ih]
   congr 1
   ·apply List.ext_getElem?
    intro i
    by_cases hi:i<z.size
    ·simp [hi,Nat.mod_eq_of_lt hi]
    ·simp [hi]
   ·rw [List.map_map]
    apply List.map_congr_left
    intro i _
    simp
omit hT hf in
theorem qjq (z:List Value) (n:Nat):(zeros z n).length=n*z.length:=by
 induction n with
 | zero=>simp [zeros]
 | succ n ih=>simp [zeros,ih,Nat.add_mul]; omega
omit hT hf in
theorem qgf {z:List Value} (h:∀ m',renL m' z=z) (n:Nat) (m':Nm):renL m' (zeros z n)=zeros z n:=by
 induction n with
 | zero=>simp [zeros,renL]
 | succ n ih=>simp [zeros,q28,ih,h]
omit hf in
theorem qcv {t:TypeId} {x:Nat×Nat×Value} (h:T.inf t=some x) (m':Nm):renL m' x.2.2.cells.toList=x.2.2.cells.toList:=by
 have:=(q9w hT m' default h).2
 rw [← toList_renA,← qik,this]
omit hT hf in
theorem q95 {b sh cp n len c c':Nat} (hn:s.nx<n) (hc:∀ m',Agree n (m.set s.nx b sh cp) m'→capOf m' s.nx c=c') :
  q8f (m.set s.nx b sh cp) n (.slice (some ⟨s.nx,0,none⟩) len c) (.slice (some ⟨b,sh,none⟩) len c'):=fun m' ha=>by
 obtain ⟨h1,h2,_⟩:=ha s.nx hn
 obtain ⟨e1,e2,_⟩:=q9x m s.nx b sh cp
 simp [ren,h1,h2,e1,e2,hc m' ha]
theorem qto {t:TypeId} {ps:List (Nat×Value)} {s₁:S} {cps:List (Nat×Value)} (hps:∀ m',Agree s.nx m m'→ps.map (fun p=>(p.1,ren m' p.2))=cps)
  (h:qg8 T s t n ps=some (v,s₁)):Eff P m s w (Instr.buildSlice t n cps.toArray) v s₁:=by
 unfold qg8 at h
 cases hd:T.und t with
 | none=>simp [hd] at h
 | some d =>
  cases d with
  | slice e =>
   simp only [hd] at h
   cases hi:T.inf e with
   | none=>simp [hi] at h
   | some x =>
    obtain ⟨sz,by_,z⟩:=x
    have hsz:q0x T e=some sz:=by simp [q0x,hi]
    have hz:=fun m'=>q9w hT m' w hi
    have hzc:=qcv hT hi
    simp only at hz hzc
    simp only [hi,beq_eq] at h
    cases h1:Nat.ble (n*sz) 16777216 with
    | false=>simp [h1] at h
    | true =>
     simp only [h1,zC] at h
     have h1':n*sz≤16777216:=by simpa [Nat.ble_eq] using h1
     by_cases h2:z.cells.toList.length=sz
     ·simp only [h2,yC,zC] at h
      cases h3:qk3 (fun i=>some (i*sz,sz)) (zeros z.cells.toList n) ps with
      | none=>simp [h3] at h
      | some cs =>
       cases h4:Nat.blt n q05 with
       | false=>simp [h3,h4] at h
       | true =>
       have h4':n<q05:=by simpa [Nat.blt_eq] using h4
       simp only [h3,h4,zC,zA,zB] at h
       obtain ⟨rfl,rfl⟩:=h
       have hfill:∀ m',Agree s.nx m m'→Instr.fill (fun i=>some (i*sz,sz)) ⟨zeros z.cells.toList n⟩ cps=some ⟨renL m' cs⟩:=fun m' ha=>by
        have:=qmj m' _ ps _ _ h3
        rw [hps m' ha,qgf hzc] at this
        exact this
       obtain ⟨cl,hcl⟩:∃ cl,qi9 m s.nx cs cl:=⟨renL m cs,fun m' ha=>by
        have e1:=hfill m' ha
        have e2:=hfill m (Agree.refl _ _)
        rw [e1] at e2
        simpa using e2⟩
       have hcells:z.cells.size=sz:=by simpa using h2
       refine ⟨_,_,.slice (some ⟨w.heap.size,0,none⟩) n n,?_,qpo hf hcl e 0,?_⟩
       ·have hzeros:(Array.range (n*sz)).map (fun i=>(if n*sz=0 then (#[]:Array Value) else z.cells)[i % (if n*sz=0 then (#[]:Array Value) else z.cells).size]!)=⟨zeros z.cells.toList n⟩:=by
         by_cases h0:n*sz=0
         ·rw [h0]
          apply Array.ext'
          have:(zeros z.cells.toList n).length=0:=by rw [qjq,h2,h0]
          simp [List.length_eq_zero_iff.1 this]
         ·simp only [if_neg h0]
          have:=qjp z.cells n
          rw [hcells] at this
          rw [← this]
          simp [hcells]
        have hf2:=hfill m (Agree.refl _ _)
        rw [hcl.at] at hf2
        have hnot:¬ n*sz > 2 ^ 24:=by omega
        have hzz:=(hz m).1
        by_cases h0:n*sz=0
        ·simp only [if_pos h0] at hzeros
         simp only [Instr.buildSlice,zK,q14 hT w hd,zJ,q1y hT w hsz,Sem.run_ite,if_neg hnot,zL,if_pos h0]
         rw [hzeros,hf2]
         simp [Go.newRow]
        ·simp only [if_neg h0] at hzeros
         simp only [Instr.buildSlice,zK,q14 hT w hd,zJ,q1y hT w hsz,Sem.run_ite,if_neg hnot,zL,if_neg h0,hzz]
         rw [hzeros,hf2]
         simp [Go.newRow]
       ·refine q95 (zN _) fun m' _=>?_
        simp [capOf,h4']
     ·simp only [h2,yB,zD] at h; cases h
  | _=>simp [hd] at h
end
variable {n:Nat}
theorem qxy {m:Nm} {s:S} {w:World} (hf:q48 m s w) {b:Option Addr} {cs:List Value} (h:q64 s b n=some cs) :
  cs.length=n∧∃ ccs,qi9 m s.nx cs ccs∧∀ a,b=some a→∀ j u,ccs[j]? = some u→w.cell? ((⟨m.blk a.block,m.sh a.block+a.off,none⟩:Addr).add j)=some u:=by
 cases n with
 | zero =>
  simp [q64] at h
  subst h
  exact ⟨rfl,[],fun _ _=>by simp [renL],fun _ _ j u hu=>by simp at hu⟩
 | succ n =>
  simp only [q64] at h
  cases b with
  | none=>simp at h
  | some a =>
   simp only at h
   cases hl:lk s.h a.block with
   | none=>simp [hl] at h
   | some blk =>
    rcases blk with ⟨l,e,md⟩ | x
    ·simp only [hl] at h
     have hc:∀ m',Agree s.nx m m'→∀ j v,cs[j]? = some v→w.cell? ⟨m.blk a.block,m.sh a.block+(a.off+j),none⟩=some (ren m' v):=fun m' ha j v hj=>by
      have hr:qid m' a.block l e w md:=(hf m' ha).ok _ _ hl
      have:=hr.cell (z0c h hj)
      obtain ⟨e1,e2,_⟩:=ha a.block ((hf.fits).bd _ _ hl)
      rw [e1,e2] at this
      exact this
     refine ⟨qu4 h,renL m cs,fun m' ha=>?_,?_⟩
     ·rw [q2s,q2s]
      apply List.map_congr_left
      intro v hv
      obtain ⟨j,hj⟩:=List.getElem?_of_mem hv
      have e1:=hc m' ha j v hj
      have e2:=hc m (Agree.refl _ _) j v hj
      rw [e1] at e2
      simpa using e2
     ·rintro _ ⟨rfl⟩ j u hu
      rw [q2s,List.getElem?_map] at hu
      cases hj:cs[j]? with
      | none=>simp [hj] at hu
      | some v =>
       simp [hj] at hu
       subst hu
       rw [qbd,Nat.add_assoc]
       exact hc m (Agree.refl _ _) j v hj
    ·simp [hl] at h
theorem z3k (x K d n k z:Nat):x+K*z - (x+d*z+n*z+k*z)=(K - (d+n+k))*z:=by
 rw [Nat.sub_mul,Nat.add_mul,Nat.add_mul]
 omega
theorem z1g (n k K d:Nat) (h:n+k≤K - d):n+k+(K - (d+n+k))=K - d:=by omega
def qhh (m:Nm):Option Addr→Nat→Nat
 | none,c=>c
 | some a,c=>capOf m a.block c
theorem Adv.rename {m:Nm} {s:S} {w w':World} (h:q48 m s w) {i:Nat} {b b':Blk} (hb:lk s.h i=some b) (hob:Own b=true) (sh' cp':Nat)
  (hw:∀ k,k≠m.blk i→w'.heap[k]? = w.heap[k]?) (hsz:w'.heap.size=w.heap.size) (h1:w'.os=w.os) (h2:w'.tape=w.tape) (h3:w'.output=w.output) (_h4:w.drawn≤w'.drawn)
  (hc:∀ m',Agree (s.nx+1) (m.set s.nx (m.blk i) sh' cp') m'→qfq m' s.nx w' b') :
  Adv m s w (m.set s.nx (m.blk i) sh' cp') ⟨(s.nx,b')::rm s.h i,s.nx+1⟩ w':=by
 have hbi:i<s.nx:=(h.fits).bd i b hb
 have key:∀ j d,s.nx≠j→lk ((s.nx,b')::rm s.h i) j=some d→lk s.h j=some d∧i≠j:=fun j d hj hd=>by
  simp only [q2n,hj,if_false,z2r] at hd
  by_cases e:i=j
  ·simp [e] at hd
  ·simp only [e,if_false] at hd; exact ⟨hd,e⟩
 refine ⟨Nm.agree_set m _ _ _ _,Nat.le_succ _,?_,?_,?_,by omega,h1,h2,h3⟩
 ·intro m' ha
  have ha':Agree s.nx m m':=(Nm.agree_set m s.nx (m.blk i) sh' cp').trans ha (Nat.le_succ _)
  have hf:=h m' ha'
  have hnew:m'.blk s.nx=m.blk i:=by have:=(ha s.nx (zN _)).1; simpa [Nm.set] using this
  have hmi:m'.blk i=m.blk i:=(ha' i hbi).1
  refine ⟨fun j d hd=>?_,fun j k d d' hd hd' hjk ho=>?_,fun j d hd=>?_⟩
  ·by_cases e:s.nx=j
   ·subst e; simp only [q2n,if_true,zA] at hd; subst hd; exact hc m' ha
   ·obtain ⟨hd',hij⟩:=key j d e hd
    refine (hf.ok j d hd').world (hw _ ?_)
    rw [← hmi]
    exact fun x=>hf.inj i j b d hb hd' hij hob x.symm
  ·by_cases e:s.nx=j
   ·subst e
    obtain ⟨hk,hik⟩:=key k d' hjk hd'
    rw [hnew,← hmi]
    exact hf.inj i k b d' hb hk hik hob
   ·obtain ⟨hj,hij⟩:=key j d e hd
    by_cases e2:s.nx=k
    ·subst e2
     rw [hnew,← hmi]
     exact fun x=>hf.inj i j b d hb hj hij hob x.symm
    ·obtain ⟨hk,hik⟩:=key k d' e2 hd'
     exact hf.inj j k d d' hj hk hjk ho
  ·by_cases e:s.nx=j
   ·subst e; exact zN _
   ·exact Nat.lt_succ_of_lt (hf.bd j d (key j d e hd).1)
 ·rintro k ⟨j,d,hd,ho,rfl⟩
  left
  by_cases e:s.nx=j
  ·subst e; exact ⟨i,b,hb,hob,by simp [Nm.set]⟩
  ·obtain ⟨hj,_⟩:=key j d e hd
   have:=(h.fits).bd j d hj
   exact ⟨j,d,hj,ho,by simp [Nm.set,show j≠s.nx by omega]⟩
 ·intro k hk hn
  exact hw k fun e=>hn ⟨i,b,hb,hob,e.symm⟩
theorem size_zeroCells' (z:Array Value) (n:Nat):(Builtin.zeroCells z n).size=n*z.size:=by simp [Builtin.zeroCells]
theorem qow {b:Nat} (h:qgd n b=true):n*b≤140737488355328∧n≤140737488355328:=by
 unfold qgd at h
 cases h1:Nat.ble (n*b) 140737488355328 with
 | false=>simp [h1] at h
 | true=>simp only [h1,zC] at h; exact ⟨by simpa [Nat.ble_eq] using h1,by simpa [Nat.ble_eq] using h⟩
theorem qct (m:Nm) (i:Nat):capOf m i q05=m.cp i:=by simp [capOf,capD]
section
variable {P:Program} {T:Tb} (hT:qfp P T) {m:Nm} {s:S} {w:World} (hf:q48 m s w)
include hT hf
variable {t:TypeId}
variable {v:Value}
variable {s₁:S}
theorem z66 {l c cl cc:Value} (hl:q8f m s.nx l cl) (hc:q8f m s.nx c cc) (h:qz7 T s t l c=some (v,s₁)):Eff P m s w (Instr.makeSlice t cl cc) v s₁:=by
 unfold qz7 at h
 cases hd:T.und t with
 | none=>simp [hd] at h
 | some d =>
  cases d with
  | slice e =>
   simp only [hd] at h
   cases l with
   | int k1 a =>
    cases c with
    | int k2 b =>
     simp only at h
     have e1:cl = .int k1 a:=by rw [← hl.at]; simp [ren]
     have e2:cc = .int k2 b:=by rw [← hc.at]; simp [ren]
     subst e1 e2
     cases hi:T.inf e with
     | none=>simp [hi] at h
     | some x =>
      obtain ⟨sz,by_,z⟩:=x
      have hsz:q0x T e=some sz:=by simp [q0x,hi]
      have hz:=fun m'=>q9w hT m' w hi
      have hzc:=qcv hT hi
      simp only at hz hzc
      obtain ⟨_,i,hi1,hi2,hi3,hi4⟩:=hT.inf e _ _ _ hi
      simp only [hi,beq_eq] at h
      cases hwa:IntKind.i64.wrap a with
      | negSucc x=>simp [hwa] at h
      | ofNat n =>
       cases hwb:IntKind.i64.wrap b with
       | negSucc x=>simp [hwa,hwb] at h
       | ofNat k =>
        simp only [hwa,hwb] at h
        cases h1:Nat.ble n k with
        | false=>simp [h1] at h
        | true =>
         cases h2:Nat.ble (by_*k) 281474976710656 with
         | false=>simp [h1,h2] at h
         | true =>
          by_cases h3:z.cells.toList.length=sz
          ·cases h4:Nat.blt k q05 with
           | false=>simp only [h1,h2,h3,h4,zC,yC,zD] at h; cases h
           | true =>
            simp only [h1,h2,h3,h4,zC,yC,zA,zB] at h
            obtain ⟨rfl,rfl⟩:=h
            have h1':n≤k:=by simpa [Nat.ble_eq] using h1
            have h2':by_*k≤281474976710656:=zY h2
            have h4':k<q05:=by simpa [Nat.blt_eq] using h4
            have hcells:z.cells.size=sz:=by simpa using h3
            refine ⟨_,_,.slice (some ⟨w.heap.size,0,none⟩) n k,?_,qpo hf (qgw (qgf hzc k)) e 0,?_⟩
            ·have hlarge:∀ q:Nat,q≤k→(decide ((q:Int)<0) || decide ((i.bytes:Int)*(q:Int) > 2 ^ 48))=false:=by
              intro q hq
              have:by_*q≤281474976710656:=Nat.le_trans (Nat.mul_le_mul_left _ hq) h2'
              have h':((by_*q:Nat):Int)≤((281474976710656:Nat):Int):=Int.ofNat_le.2 this
              simp only [Bool.or_eq_false_iff,decide_eq_false_iff_not,hi3]
              refine ⟨by omega,?_⟩
              rw [Int.natCast_mul] at h'
              simp only [gt_iff_lt,Int.not_lt]
              exact h'
             have hzeros:(Array.range (k*sz)).map (fun i=>(if k*sz=0 then (#[]:Array Value) else z.cells)[i % (if k*sz=0 then (#[]:Array Value) else z.cells).size]!)=⟨zeros z.cells.toList k⟩:=by
              by_cases h0:k*sz=0
              ·rw [h0]
               apply Array.ext'
               have:(zeros z.cells.toList k).length=0:=by rw [qjq,h3,h0]
               simp [List.length_eq_zero_iff.1 this]
              ·simp only [if_neg h0]
               have:=qjp z.cells k
               rw [hcells] at this
               rw [← this]
               simp [hcells]
             have hno:(((decide ((k:Int)<0) || decide ((i.bytes:Int)*(k:Int) > 2 ^ 48)) || decide ((n:Int)<0)) || decide ((n:Int) > (k:Int)))=false:=by
              rw [hlarge k (zF _)]
              simp; omega
             have hwa':IntKind.i64.wrap a=(n:Int):=hwa
             have hwb':IntKind.i64.wrap b=(k:Int):=hwb
             have hzz:=(hz m).1
             simp only [Instr.makeSlice,zK,q14 hT w hd,zJ,asInt,asIntOf,zL,typeInfo,run_program,hi1,hwa',hwb',Sem.run_ite,hno,Bool.false_eq_true,if_false,run_askRoom,zZ,q1y hT w hsz]
             by_cases h0:k*sz=0
             ·simp only [if_pos h0] at hzeros
              simp only [if_pos h0]
              rw [hzeros]
              simp [Go.newRow]
             ·simp only [if_neg h0] at hzeros
              simp only [if_neg h0,hzz,zJ]
              rw [hzeros]
              simp [Go.newRow]
            ·refine q95 (zN _) fun m' _=>?_
             simp [capOf,h4']
          ·simp only [h1,h2,h3,zC,yB,zD] at h; cases h
    | _=>simp at h
   | _=>simp at h
  | _=>simp [hd] at h
omit hf in
theorem qbo {t xt ty e e2:TypeId} {size:Nat} (ht:T.und t=some (.slice e)) (hx:T.und xt=some (.slice e2)) (hs:q0x T e=some size) {base xb:Option Addr} {n C k xc:Nat} {cnew:Array Value} {w₁:World}
  (hnew:(Builtin.firstCells size k (.slice xb k xc)).run P w = .ok cnew w) (hroom:n+k≤C)
  (hst:∀ a,base=some a→(storeCells (a.add (n*size)) cnew.toList).run P w = .ok () w₁) (hno:base=none→w₁=w) :
  (Builtin.append_ #[t,xt] ty #[.slice base n C,.slice xb k xc]).run P w = .ok (.slice base (n+k) C) w₁:=by
 cases base with
 | none =>
  rw [hno rfl]
  simp [Builtin.append_,q14 hT w ht,q14 hT w hx,q1y hT w hs,Builtin.lenOf,hroom,hnew]
 | some a=>simp [Builtin.append_,q14 hT w ht,q14 hT w hx,q1y hT w hs,Builtin.lenOf,hroom,hnew,hst a rfl]
omit hf in
theorem run_app_grow' {t xt ty e e2:TypeId} {size by_:Nat} {z:Value} (ht:T.und t=some (.slice e)) (hx:T.und xt=some (.slice e2)) (hi:T.inf e=some (size,by_,z)) {base xb:Option Addr} {n C k xc:Nat} {cnew cold:Array Value}
  (hnew:∀ w',w'.heap=w.heap→(Builtin.firstCells size k (.slice xb k xc)).run P w' = .ok cnew w') (hold:∀ w',w'.heap=w.heap→(Builtin.firstCells size n (.slice base n C)).run P w' = .ok cold w')
  (hroom:C<n+k) (hr:qgd (n+k) by_=true) :
  (Builtin.append_ #[t,xt] ty #[.slice base n C,.slice xb k xc]).run P w =
   .ok (.slice (some ⟨w.heap.size,0,none⟩) (n+k) ((Question.appendCap (n+k) C e).cut (w.tape w.drawn (.appendCap (n+k) C e)))) ((w.drew).alloc (.cells (cold++cnew++Builtin.zeroCells z.cells (((Question.appendCap (n+k) C e).cut (w.tape w.drawn (.appendCap (n+k) C e))) - (n+k))) e)):=by
 obtain ⟨r1,r2⟩:=qow hr
 obtain ⟨_,i,hi1,hi2,hi3,hi4⟩:=hT.inf e _ _ _ hi
 have hs:q0x T e=some size:=by simp [q0x,hi]
 have g1:¬ n+k≤C:=by omega
 have g2:¬ (((n+k:Nat):Int) > IntKind.i64.max∧(False∨i.bytes=0)):=by
  rw [IntKind.max_i64]; omega
 have g3:¬ Builtin.nextslicecap (n+k) C*i.bytes > 2 ^ 48:=by
  have:=growslice_fits (bytes:=i.bytes) hroom (by rw [hi3]; exact r1)
  omega
 have hn:=hnew w.drew rfl
 have ho:=hold w.drew rfl
 have hdr:({ w with drawn:=w.drawn+1 }:World)=w.drew:=rfl
 have hz:(zeroValue e).run P w.drew = .ok z w.drew:=(q9w hT (⟨id,id,id⟩:Nm) w.drew hi).1
 simp [Builtin.append_,q14 hT w ht,q14 hT w hx,q1y hT w hs,Builtin.lenOf,if_neg g1,typeInfo,hi1]
 have g2':¬ (9223372036854775807<(n:Int)+(k:Int)∧i.bytes=0):=by omega
 have g3':¬ 281474976710656<Builtin.nextslicecap (n+k) C*i.bytes:=g3
 have hff:(Question.appendCap (n+k) C e).forced=false:=rfl
 simp only [if_neg g2',if_neg g3',hff,Bool.false_eq_true,if_false,ho,hn,hz,zJ]
 simp [Go.newRow]
 rfl
omit hf in
theorem qla {t xt ty e e2:TypeId} {size by_:Nat} {z:Value} (ht:T.und t=some (.slice e)) (hx:T.und xt=some (.slice e2)) (hi:T.inf e=some (size,by_,z)) {base xb:Option Addr} {n C k xc:Nat} {cnew cold:Array Value}
  (hnew:∀ w',w'.heap=w.heap→(Builtin.firstCells size k (.slice xb k xc)).run P w' = .ok cnew w') (hold:∀ w',w'.heap=w.heap→(Builtin.firstCells size n (.slice base n C)).run P w' = .ok cold w')
  (hroom:C<n+k) (hr:qgd (n+k) by_=true) :
  ∃ nc,n+k≤nc∧(Builtin.append_ #[t,xt] ty #[.slice base n C,.slice xb k xc]).run P w =
   .ok (.slice (some ⟨w.heap.size,0,none⟩) (n+k) nc) ((w.drew).alloc (.cells (cold++cnew++Builtin.zeroCells z.cells (nc - (n+k))) e)) :=
 ⟨_,by simp [Question.cut],run_app_grow' hT ht hx hi hnew hold hroom hr⟩
omit hT in
theorem qip {b:Option Addr} {n size:Nat} {cs:List Value} (h:q64 s b (n*size)=some cs) :
  ∃ ccs,qi9 m s.nx cs ccs∧cs.length=n*size∧∀ w',w'.heap=w.heap→∀ len cap,(Builtin.firstCells size n (.slice (b.map fun a=>⟨m.blk a.block,m.sh a.block+a.off,none⟩) len cap)).run P w' = .ok ⟨ccs⟩ w':=by
 obtain ⟨h1,ccs,h2,h3⟩:=qxy hf h
 refine ⟨ccs,h2,h1,fun w' hw len cap=>?_⟩
 have hl:ccs.length=n*size:=by rw [← h2.at]; simp [h1]
 cases b with
 | none =>
  have:n*size=0:=by
   cases hz:n*size with
   | zero=>rfl
   | succ k=>rw [hz] at h; simp [q64] at h
  have:ccs=[]:=List.length_eq_zero_iff.1 (by omega)
  subst this
  simp [Builtin.firstCells]
 | some a =>
  exact run_firstCells_some w' size n _ len cap ccs hl (fun j u hu=>by
   have:=h3 a rfl j u hu
   rw [← this]
   simp [World.cell?,hw])
omit hT in
theorem z6u {i c sz:Nat} {l:List Value} {e:TypeId} (hl:lk s.h i=some (.inl (l,e,sz+1+2))) {off n:Nat} (ho:off=capD c*(sz+1)) (hn:off+n*(sz+1)≤l.length):n+capD c≤m.cp i:=by
 obtain ⟨pr,rest,_,_,h3⟩:=(hf.fits).ok i _ hl
 have:(n+capD c)*(sz+1)≤m.cp i*(sz+1):=by rw [Nat.add_mul]; omega
 exact Nat.le_of_mul_le_mul_right this (by omega)
variable {xt:TypeId}
variable {ty:TypeId}
variable {csv:Value}
theorem qwe {e e2:TypeId} {sz by_:Nat} {z:Value} (hd:T.und t=some (.slice e)) (hd2:T.und xt=some (.slice e2)) (hi:T.inf e=some (sz+1,by_,z)) {a:Addr} {l p new cnew:List Value} {c k:Nat} {xb:Option Addr} {xc:Nat}
  (hr:ownRow s a.block=some (l,e,sz+1+2)) (hoff:a.off=capD c*(sz+1)) (hc:¬ c<q05) (hroom:qgd (n+(k+1)) by_=true) (hzl:z.cells.toList.length=sz+1)
  (hg:seg l a.off (n*(sz+1))=some p) (hcn:qi9 m s.nx new cnew) (hnl:new.length=(k+1)*(sz+1)) (h1:q78 new=true)
  (hfirst:∀ w',w'.heap=w.heap→∀ len cap,(Builtin.firstCells (sz+1) (k+1) (.slice (xb.map fun a=>⟨m.blk a.block,m.sh a.block+a.off,none⟩) len cap)).run P w' = .ok ⟨cnew⟩ w')
  {cx:Value} (ecx:cx = .slice (xb.map fun a=>⟨m.blk a.block,m.sh a.block+a.off,none⟩) (k+1) (qhh m xb xc)) (ecs:csv = .slice ((some a).map fun a=>⟨m.blk a.block,m.sh a.block+a.off,none⟩) n (qhh m (some a) c)) :
  Eff P m s w (Builtin.append_ #[t,xt] ty #[csv,cx]) (.slice (some ⟨s.nx,0,none⟩) (n+(k+1)) q05) ⟨(s.nx,.inl (p++new,e,sz+1+2))::rm s.h a.block,s.nx+1⟩:=by
 have hsz:q0x T e=some (sz+1):=by simp [q0x,hi]
 obtain ⟨hl,hmd⟩:=qf2 hr
 obtain ⟨hp1,hp2⟩:=qjj hg
 have hpl:=qu4 hg
 have hcap:qhh m (some a) c=m.cp a.block - capD c:=by simp [qhh,capOf,hc]
 have hbd:=(hf.fits).bd _ _ hl
 have hcell:q64 s (some a) (n*(sz+1))=some p:=by
  cases hn:n*(sz+1) with
  | zero=>rw [hn] at hpl; simp [q64,List.length_eq_zero_iff.1 hpl]
  | succ q=>rw [hn] at hg; simp [q64,hl,hg]
 obtain ⟨cold,hcold,_,hfirsto⟩:=qip (P:=P) hf hcell
 have hcl:cnew.length=(k+1)*(sz+1):=by rw [← hcn.at]; simp [hnl]
 rw [hcap] at ecs
 by_cases hle:n+(k+1)≤m.cp a.block - capD c
 ·-- there is room
  obtain ⟨pr,rest,hb,hpr,hrest⟩:=(hf.fits).ok _ _ hl
  have htot:a.off+n*(sz+1)+cnew.length≤l.length+rest.length:=by
   rw [hrest,hoff,hcl,← Nat.add_mul,← Nat.add_mul]
   exact Nat.mul_le_mul_right _ (by omega)
  have hone:∀ v∈cnew,v.oneCell'=true:=by rw [← hcn.at]; exact qoe h1
  have hwl:(pr++renL m l++rest).length=m.sh a.block+(l.length+rest.length):=by simp [hpr]
  have hst:=run_storeCells_at P (m.blk a.block) (m.sh a.block+a.off+n*(sz+1)) e cnew 0 _ w hb (by simp only [List.size_toArray,hwl]; omega) hone
  simp only [Nat.add_zero] at hst
  refine ⟨_,_,.slice (some ⟨m.blk a.block,m.sh a.block+a.off,none⟩) (n+(k+1)) (m.cp a.block - capD c),?_,Adv.rename (w':=w.setRow (m.blk a.block) ((pr++renL m l++rest).take (m.sh a.block+a.off+n*(sz+1))++cnew++(pr++renL m l++rest).drop (m.sh a.block+a.off+n*(sz+1)+cnew.length)).toArray) hf hl (qn2 hmd) (m.sh a.block+a.off) (m.cp a.block - capD c) (fun k hk=>setRow_other w _ k _ hk) (by simp) rfl rfl rfl (zF _) ?_,?_⟩
  ·rw [ecx,ecs]
   exact qbo (P:=P) hT (w:=w) (ty:=ty) hd hd2 hsz (hfirst w rfl _ _) hle (fun a' ha'=>by
    simp only [zM,zA] at ha'
    subst ha'
    rw [qbd]
    exact hst) (fun hno=>by simp at hno)
  ·intro m' ha
   obtain ⟨h1',h2',h3'⟩:=ha s.nx (zN _)
   obtain ⟨e1,e2,e3⟩:=q9x m s.nx (m.blk a.block) (m.sh a.block+a.off) (m.cp a.block - capD c)
   have ha':Agree s.nx m m':=(Nm.agree_set m s.nx _ _ _).trans ha (Nat.le_succ _)
   refine ⟨(pr++renL m l++rest).take (m.sh a.block+a.off),(pr++renL m l++rest).drop (m.sh a.block+a.off+n*(sz+1)+cnew.length),?_,?_,?_⟩
   ·rw [h1',e1,setRow_heap w _ _ _ e (0,0) hb,q28,hcn m' ha',hcold m' ha']
    have hmid:((pr++renL m l++rest).drop (m.sh a.block+a.off)).take (n*(sz+1))=cold:=by
     rw [← hcold.at,hp1]
     rcases Nat.eq_zero_or_pos (n*(sz+1)) with h0 | hpos
     ·rw [h0]; simp [renL]
     ·rw [← hpr,zT,List.drop_append,List.drop_of_length_le (by omega),List.nil_append,Nat.add_sub_cancel_left,List.drop_append_of_le_length (by simp; omega),List.take_append_of_le_length (by simp; omega)]
      simp [q2s,List.map_drop,List.map_take]
    have htk:(pr++renL m l++rest).take (m.sh a.block+a.off+n*(sz+1))=(pr++renL m l++rest).take (m.sh a.block+a.off)++cold:=by
     rw [List.take_add,hmid]
    rw [htk]
    congr 2
    simp only [zT]
   ·rw [h2',e2,List.length_take,hwl]
    omega
   ·rw [h3',e3,zU,hpl,hnl,List.length_drop,hwl]
    rw [hrest,hcl,hoff,← Nat.add_mul]
    have e4:=z3k (m.sh a.block) (m.cp a.block) (capD c) n (k+1) (sz+1)
    rw [e4,← Nat.add_mul,z1g _ _ _ _ hle]
  ·refine q95 (zN _) fun m' ha=>?_
   rw [qct]
   obtain ⟨_,_,e3⟩:=q9x m s.nx (m.blk a.block) (m.sh a.block+a.off) (m.cp a.block - capD c)
   exact (ha s.nx (zN _)).2.2.trans e3
 ·have hlt:m.cp a.block - capD c<n+(k+1):=by omega
  obtain ⟨nc,hnc2,hrun⟩:=qla (P:=P) hT (w:=w) (ty:=ty) hd hd2 hi (n:=n) (k:=k+1) (C:=m.cp a.block - capD c) (base:=(some a).map fun a=>⟨m.blk a.block,m.sh a.block+a.off,none⟩) (fun w' hw=>hfirst w' hw (k+1) (qhh m xb xc)) (fun w' hw=>hfirsto w' hw n _) hlt hroom
  have hfd:q48 m s w.drew:=qgl _ hf
  have hadv:=qdm hfd (rest:=(Builtin.zeroCells z.cells (nc - (n+(k+1)))).toList) (hcold.append hcn) e nc (sz+1) (by
   have hzs:z.cells.size=sz+1:=by simpa using hzl
   rw [zU,hpl,hnl,Array.length_toList,size_zeroCells',hzs,← Nat.add_mul,← Nat.add_mul]
   congr 1
   omega)
  have hall:=((Adv.draw (w.drawn+1) hf).trans hadv).trans (Adv.forget hadv.fits a.block)
  have hst:(⟨rm (newRow s (p++new) e (sz+1+2)).h a.block,(newRow s (p++new) e (sz+1+2)).nx⟩:S)=⟨(s.nx,.inl (p++new,e,sz+1+2))::rm s.h a.block,s.nx+1⟩:=by
   simp [newRow,rm,beq_eq,show s.nx≠a.block by omega]
  rw [hst] at hall
  refine ⟨_,_,.slice (some ⟨w.heap.size,0,none⟩) (n+(k+1)) nc,?_,hall,?_⟩
  ·rw [ecx,ecs,hrun]
   congr 3
   simp
  ·have hw:w.drew.heap.size=w.heap.size:=rfl
   rw [hw]
   refine q95 (zN _) fun m' ha=>?_
   rw [qct]
   obtain ⟨_,_,e3⟩:=q9x m s.nx w.heap.size 0 nc
   exact (ha s.nx (zN _)).2.2.trans e3
omit hT in
theorem qnr {base : Option Addr} {n c sz : Nat} {v : Value} {s₁ : S} (h : (cond (Nat.blt c q05) (cond (Nat.ble n c) (some (Value.slice base n c, s)) none)
            (match base with
              | some a => match ownRow s a.block with
                | some (l, _, md) => cond (Nat.beq md (sz + 3)) (cond (Nat.beq a.off (capD c * (sz + 1))) (match seg l a.off (n * (sz + 1)) with
                  | some _ => some (Value.slice base n c, s)
                  | none => none) none) none
                | none => none
              | none => none)) = some (v, s₁)) : v = .slice base n c ∧ s₁ = s ∧ n ≤ qhh m base c := by
  simp only [beq_eq] at h
  cases hc : Nat.blt c q05 with
  | true =>
    simp only [hc, zC] at h
    have hc' : c < q05 := q98 hc
    cases hnc : Nat.ble n c with
    | false => simp only [hnc, zD] at h; cases h
    | true =>
      simp only [hnc, zC, zA, zB] at h
      refine ⟨h.1.symm, h.2.symm, ?_⟩
      have : n ≤ c := zY hnc
      cases base with
      | none => exact this
      | some a => simp only [qhh, capOf, if_pos hc']; exact this
  | false =>
    have hc' : ¬ c < q05 := qfu hc
    simp only [hc, zD] at h
    cases base with
    | none => simp at h
    | some a =>
      simp only at h
      cases hr : ownRow s a.block with
      | none => simp [hr] at h
      | some r =>
        obtain ⟨l, e', md⟩ := r
        simp only [hr] at h
        by_cases hmd : md = sz + 3
        · by_cases hoff : a.off = capD c * (sz + 1)
          · rw [decide_eq_true hmd, decide_eq_true hoff] at h
            simp only [zC] at h
            cases hg : seg l a.off (n * (sz + 1)) with
            | none => simp [hg] at h
            | some q =>
              simp only [hg, zA, zB] at h
              refine ⟨h.1.symm, h.2.symm, ?_⟩
              obtain ⟨_, hle⟩ := qjj hg
              have hl := (qf2 hr).1
              subst hmd
              simp only [qhh, capOf, if_neg hc']
              rcases Nat.eq_zero_or_pos n with h0 | hpos
              · rw [h0]; exact Nat.zero_le _
              · have hpos' : 0 < n * (sz + 1) := Nat.mul_pos hpos (by omega)
                have := z6u hf (c := c) (n := n) (off := a.off) hl hoff (by omega)
                omega
          · rw [decide_eq_true hmd, decide_eq_false hoff] at h
            simp at h
        · rw [decide_eq_false hmd] at h
          simp at h
theorem qof {sv x cx:Value} (hs:q8f m s.nx sv csv) (hx:q8f m s.nx x cx) (h:q53 T s t xt sv x=some (v,s₁)):Eff P m s w (Builtin.append_ #[t,xt] ty #[csv,cx]) v s₁:=by
 unfold q53 at h
 cases hd:T.und t with
 | none=>simp [hd] at h
 | some d =>
 cases d with
 | slice e =>
  cases hd2:T.und xt with
  | none=>simp [hd,hd2] at h
  | some d2 =>
  cases d2 with
  | slice e2 =>
   cases sv with
   | slice base n c =>
    cases x with
    | slice xb k xc =>
     simp only [hd,hd2] at h
     cases hi:T.inf e with
     | none=>simp [hi] at h
     | some y =>
      obtain ⟨sz,by_,z⟩:=y
      cases sz with
      | zero=>simp [hi] at h
      | succ sz =>
       have hsz:q0x T e=some (sz+1):=by simp [q0x,hi]
       simp only [hi] at h
       cases hcx:q64 s xb (k*(sz+1)) with
       | none=>simp [hcx] at h
       | some new =>
        simp only [hcx] at h
        cases h1:q78 new with
        | false=>simp [h1] at h
        | true =>
         simp only [h1,zC] at h
         obtain ⟨cnew,hcn,hnl,hfirst⟩:=qip (P:=P) hf hcx
         have ecx:cx = .slice (xb.map fun a=>⟨m.blk a.block,m.sh a.block+a.off,none⟩) k (qhh m xb xc):=by
          rw [← hx.at]; cases xb<;>simp [ren,qhh]
         have ecs:csv = .slice (base.map fun a=>⟨m.blk a.block,m.sh a.block+a.off,none⟩) n (qhh m base c):=by
          rw [← hs.at]; cases base<;>simp [ren,qhh]
         cases k with
         | zero =>
          have hnn:cnew=[]:=List.length_eq_zero_iff.1 (by rw [← hcn.at]; simp [hnl])
          subst hnn
          have fin:v = .slice base n c→s₁=s→n≤(qhh m base c)→Eff P m s w (Builtin.append_ #[t,xt] ty #[csv,cx]) v s₁:=by
           rintro rfl rfl hle
           refine ⟨m,w,csv,?_,Adv.refl hf,hs⟩
           rw [ecx,ecs]
           have:=qbo (P:=P) hT (w:=w) (ty:=ty) (w₁:=w) hd hd2 hsz (base:=base.map fun a=>⟨m.blk a.block,m.sh a.block+a.off,none⟩) (n:=n) (hfirst w rfl 0 (qhh m xb xc)) (C:=(qhh m base c)) (by simpa using hle) (fun a _=>by simp [storeCells]) (fun _=>rfl)
           simpa using this
          obtain ⟨e1,e2,hle⟩:=qnr hf h
          exact fin e1 e2 hle
         | succ k =>
          simp only [qti,beq_eq] at h
          cases hc:Nat.blt c q05 with
          | true =>
           simp only [hc,zC] at h
           have hc':c<q05:=q98 hc
           have hcap:(qhh m base c)=c:=by cases base<;>simp [qhh,capOf,hc']
           cases hnc:Nat.ble (n+(k+1)) c with
           | true =>
            simp only [hnc,zC] at h
            have hle:n+(k+1)≤c:=zY hnc
            cases base with
            | none=>simp at h
            | some a =>
             simp only at h
             cases hr:ownRow s a.block with
             | none=>simp [hr] at h
             | some r =>
              obtain ⟨l,e',md⟩:=r
              simp only [hr] at h
              cases hp:qnx l (a.off+n*(sz+1)) new with
              | none=>simp [hp] at h
              | some l' =>
               simp only [hp,zA,zB] at h
               obtain ⟨rfl,rfl⟩:=h
               obtain ⟨w₁,hst,hadv⟩:=qjm (P:=P) hf hr hp hcn h1
               refine ⟨m,w₁,.slice (some ⟨m.blk a.block,m.sh a.block+a.off,none⟩) (n+(k+1)) c,?_,hadv,?_⟩
               ·rw [ecx,ecs,hcap]
                exact qbo (P:=P) hT (w:=w) (ty:=ty) hd hd2 hsz (hfirst w rfl _ _) hle (fun a' ha'=>by
                 simp only [zM,zA] at ha'
                 subst ha'
                 rw [qbd,Nat.add_assoc]
                 exact hst) (fun hno=>by simp at hno)
               ·intro m' ha
                have hbd:=(hf.fits).bd _ _ (qf2 hr).1
                obtain ⟨b1,b2,_⟩:=ha a.block hbd
                simp [ren,b1,b2,capOf,hc']
           | false =>
            simp only [hnc,zD] at h
            have hlt:c<n+(k+1):=by
             rcases Nat.lt_or_ge c (n+(k+1)) with hh | hh
             ·exact hh
             ·have:=Nat.ble_eq_true_of_le hh
              rw [this] at hnc
              cases hnc
            cases hco:q64 s base (n*(sz+1)) with
            | none=>simp [hco] at h
            | some old =>
             simp only [hco] at h
             cases hroom:qgd (n+(k+1)) by_ with
             | false=>simp [hroom] at h
             | true =>
              simp only [hroom,zC] at h
              by_cases hzl:z.cells.toList.length=sz+1
              ·simp only [hzl,yC,zC,zA,zB] at h
               obtain ⟨rfl,rfl⟩:=h
               obtain ⟨cold,hcold,hol,hfirsto⟩:=qip (P:=P) hf hco
               obtain ⟨nc,hnc2,hrun⟩:=qla (P:=P) hT (w:=w) (ty:=ty) hd hd2 hi (n:=n) (k:=k+1) (C:=c) (base:=base.map fun a=>⟨m.blk a.block,m.sh a.block+a.off,none⟩) (fun w' hw=>hfirst w' hw (k+1) (qhh m xb xc)) (fun w' hw=>hfirsto w' hw n c) hlt hroom
               have hfd:q48 m s w.drew:=qgl _ hf
               have hadv:=qdm hfd (rest:=(Builtin.zeroCells z.cells (nc - (n+(k+1)))).toList) (hcold.append hcn) e nc (sz+1) (by
                have hzs:z.cells.size=sz+1:=by simpa using hzl
                rw [zU,hol,hnl,Array.length_toList,size_zeroCells',hzs,← Nat.add_mul,← Nat.add_mul]
                congr 1
                omega)
               refine ⟨_,_,.slice (some ⟨w.heap.size,0,none⟩) (n+(k+1)) nc,?_,(Adv.draw (w.drawn+1) hf).trans hadv,?_⟩
               ·rw [ecx,ecs,hcap,hrun]
                congr 3
                simp
               ·have hw:w.drew.heap.size=w.heap.size:=rfl
                rw [hw]
                refine q95 (zN _) fun m' ha=>?_
                rw [qct]
                obtain ⟨_,_,e3⟩:=q9x m s.nx w.heap.size 0 nc
                exact (ha s.nx (zN _)).2.2.trans e3
              ·simp only [hzl,yB,zD] at h; cases h
          | false =>
           simp only [hc,zD] at h
           generalize hD:capD c=D at h
           have hc':¬ c<q05:=qfu hc
           cases base with
           | none=>simp at h
           | some a =>
            simp only at h
            cases hr:ownRow s a.block with
            | none=>simp [hr] at h
            | some r =>
             obtain ⟨l,e',md⟩:=r
             simp only [hr] at h
             by_cases hmd:md=sz+1+2
             ·by_cases hee:e'=e
              ·by_cases hoff:a.off=D*(sz+1)
               ·cases hroom:qgd (n+(k+1)) by_ with
                | false=>simp [hmd,hee,hroom] at h
                | true =>
                 by_cases hzl:z.cells.toList.length=sz+1
                 ·cases hg:seg l a.off (n*(sz+1)) with
                  | none=>simp only [hmd,hee,yC,zC,hroom,hzl,hg,← hoff] at h; cases h
                  | some p =>
                   have h':some (Value.slice (some ⟨s.nx,0,none⟩) (n+(k+1)) q05,(⟨(s.nx,.inl (p++new,e,sz+1+2))::rm s.h a.block,s.nx+1⟩:S))=some (v,s₁):=by
                    simpa only [hmd,hee,yC,zC,hroom,hzl,hg,← hoff] using h
                   simp only [zA,zB] at h'
                   obtain ⟨rfl,rfl⟩:=h'
                   subst hmd hee
                   clear h
                   exact qwe hT hf hd hd2 hi hr (by rw [hD]; exact hoff) hc' hroom hzl hg hcn hnl h1 hfirst ecx ecs
                 ·simp only [hmd,hee,yC,yB,zC,zD,hroom,hzl,← hoff] at h; cases h
               ·simp only [hmd,hee,hoff,yC,yB,zC,zD] at h; cases h
              ·simp only [hmd,hee,yC,yB,zC,zD] at h; cases h
             ·simp only [hmd,yB,zD] at h; cases h
    | _=>simp [hd,hd2] at h
   | _=>simp [hd,hd2] at h
  | _=>simp [hd,hd2] at h
 | _=>simp [hd] at h
omit hT hf in
theorem qgk (size len cap:Nat) (b:Option Addr) (w':World):(Builtin.firstCells size 0 (.slice b len cap)).run P w' = .ok #[] w':=by
 cases b<;>simp [Builtin.firstCells,loadCells,loadCellsFrom]
theorem qxl {sv x cx:Value} (hs:q8f m s.nx sv csv) (hx:q8f m s.nx x cx) (h:q63 T s t xt sv x=some (v,s₁)):Eff P m s w (Builtin.append_ #[t,xt] ty #[csv,cx]) v s₁:=by
 have src:∀ {sv csv:Value} {a:Option Addr},q8f m s.nx sv csv→q53 T s t xt sv (.slice none 0 0)=some (v,s₁)→Eff P m s w (Builtin.append_ #[t,xt] ty #[csv,.slice a 0 0]) v s₁:=by
  intro sv csv a hs h
  have h0:=h
  unfold q53 at h
  cases hd:T.und t with
  | none=>simp [hd] at h
  | some d =>
  cases d with
  | slice e =>
   cases hd2:T.und xt with
   | none=>simp [hd,hd2] at h
   | some d2 =>
   cases d2 with
   | slice e2 =>
    cases sv with
    | slice base n c =>
     simp only [hd,hd2] at h
     cases hi:T.inf e with
     | none=>simp [hi] at h
     | some y =>
      obtain ⟨sz,by_,z⟩:=y
      cases sz with
      | zero=>simp [hi] at h
      | succ sz =>
       have hsz:q0x T e=some (sz+1):=by simp [q0x,hi]
       simp only [hi,Nat.zero_mul,q64,q78,zC] at h
       obtain ⟨e1,e2,hle⟩:=qnr hf h
       subst e1; subst e2
       have ecs:csv = .slice (base.map fun a=>⟨m.blk a.block,m.sh a.block+a.off,none⟩) n (qhh m base c):=by
        rw [← hs.at]; cases base<;>simp [ren,qhh]
       refine ⟨m,w,csv,?_,Adv.refl hf,hs⟩
       rw [ecs]
       have:=qbo (P:=P) hT (w:=w) (ty:=ty) (w₁:=w) hd hd2 hsz (base:=base.map fun a=>⟨m.blk a.block,m.sh a.block+a.off,none⟩) (n:=n) (xb:=a) (xc:=0) (k:=0) (cnew:=#[]) (qgk _ _ _ _ _) (C:=(qhh m base c)) (by simpa using hle) (fun a _=>by simp [storeCells]) (fun _=>rfl)
       simpa using this
    | _=>simp [hd,hd2] at h
   | _=>simp [hd,hd2] at h
  | _=>simp [hd] at h
 have tgt:∀ {x cx:Value} {a:Option Addr} {v':Value} {s':S},(q8f m s.nx x cx∨x = .slice none 0 0∧∃ b,cx = .slice b 0 0)→q53 T s t xt (.slice none 0 0) x=some (v',s')→(v' = .slice none 0 0∧s'=s∧(Builtin.append_ #[t,xt] ty #[.slice a 0 0,cx]).run P w = .ok (.slice a 0 0) w)∨((∃ b n c,v' = .slice (some b) n c)∧Eff P m s w (Builtin.append_ #[t,xt] ty #[.slice a 0 0,cx]) v' s'):=by
  intro x cx a v' s' hx h
  have heff:=fun hx=>qof (ty:=ty) hT hf (q50 (m:=m) (n:=s.nx) (v:=.slice none 0 0) fun _=>by simp [ren]) (cx:=cx) hx h
  unfold q53 at h
  cases hd:T.und t with
  | none=>simp [hd] at h
  | some d =>
  cases d with
  | slice e =>
   cases hd2:T.und xt with
   | none=>simp [hd,hd2] at h
   | some d2 =>
   cases d2 with
   | slice e2 =>
    cases x with
    | slice xb k xc =>
     simp only [hd,hd2] at h
     cases hi:T.inf e with
     | none=>simp [hi] at h
     | some y =>
      obtain ⟨sz,by_,z⟩:=y
      cases sz with
      | zero=>simp [hi] at h
      | succ sz =>
       have hsz:q0x T e=some (sz+1):=by simp [q0x,hi]
       simp only [hi] at h
       cases hcx:q64 s xb (k*(sz+1)) with
       | none=>simp [hcx] at h
       | some new =>
        simp only [hcx] at h
        cases h1:q78 new with
        | false=>simp [h1] at h
        | true =>
         simp only [h1,zC] at h
         obtain ⟨cnew,hcn,hnl,hfirst⟩:=qip (P:=P) hf hcx
         have ecx:q8f m s.nx (.slice xb k xc) cx→cx = .slice (xb.map fun a=>⟨m.blk a.block,m.sh a.block+a.off,none⟩) k (qhh m xb xc):=fun hx=>by
          rw [← hx.at]; cases xb<;>simp [ren,qhh]
         cases k with
         | zero =>
          obtain ⟨e1,e2,hle⟩:=qnr (sz:=sz) hf h
          refine .inl ⟨e1,e2,?_⟩
          have hcx0:∃ b c,cx = .slice b 0 c:=by
           rcases hx with hx | ⟨_,b,hb⟩
           ·exact ⟨_,_,ecx hx⟩
           ·exact ⟨b,0,hb⟩
          obtain ⟨b,c,rfl⟩:=hcx0
          have:=qbo (P:=P) hT (w:=w) (ty:=ty) (w₁:=w) hd hd2 hsz (base:=a) (n:=0) (xb:=b) (xc:=c) (k:=0) (cnew:=#[]) (qgk _ _ _ _ _) (C:=0) (zF _) (fun a _=>by simp [storeCells]) (fun _=>rfl)
          simpa using this
         | succ k =>
          have hroom:qgd (0+(k+1)) by_=true∧∃ b n c,v' = .slice (some b) n c:=by
           simp only [qti] at h
           have c0:Nat.blt 0 q05=true:=Nat.ble_eq_true_of_le (by simp [q05])
           have c1:Nat.ble (0+(k+1)) 0=false:=by
            cases hb:Nat.ble (0+(k+1)) 0 with
            | false=>rfl
            | true=>have:=zY hb; omega
           simp only [c0,c1,zC,zD,Nat.zero_mul,q64] at h
           cases hr:qgd (0+(k+1)) by_ with
           | false=>simp only [hr,zD] at h; cases h
           | true =>
            simp only [hr,zC] at h
            cases hz:Nat.beq z.cells.toList.length (sz+1) with
            | false=>simp only [hz,zD] at h; cases h
            | true =>
             simp only [hz,zC,zA,zB] at h
             exact ⟨rfl,_,_,_,h.1.symm⟩
          refine .inr ⟨hroom.2,?_⟩
          have hx:q8f m s.nx (.slice xb (k+1) xc) cx:=by
           rcases hx with hx | ⟨hx,_⟩
           ·exact hx
           ·cases hx
          obtain ⟨m₁,w₁,cv,g1,g2,g3⟩:=heff hx
          refine ⟨m₁,w₁,cv,?_,g2,g3⟩
          rw [ecx hx] at g1 ⊢
          have q2:=run_app_grow' (P:=P) hT (w:=w) (ty:=ty) hd hd2 hi (base:=none) (n:=0) (C:=0) (cold:=#[]) (fun w' hw=>hfirst w' hw (k+1) (qhh m xb xc)) (fun w' _=>qgk _ _ _ _ _) (by omega) hroom.1
          have q2':=run_app_grow' (P:=P) hT (w:=w) (ty:=ty) hd hd2 hi (base:=a) (n:=0) (C:=0) (cold:=#[]) (fun w' hw=>hfirst w' hw (k+1) (qhh m xb xc)) (fun w' _=>qgk _ _ _ _ _) (by omega) hroom.1
          rw [q2',← q2]
          exact g1
    | _=>simp [hd,hd2] at h
   | _=>simp [hd,hd2] at h
  | _=>simp [hd] at h
 have flat:(q8f m s.nx (qfy x) cx∨qfy x = .slice none 0 0∧∃ b,cx = .slice b 0 0):=by
  cases x with
  | chan r =>
   cases r with
   | none=>exact .inl hx
   | some r =>
    have:=hx.at
    simp only [ren] at this
    exact .inr ⟨rfl,_,this.symm⟩
  | _=>exact .inl hx
 unfold q63 at h
 cases hw:isW sv with
 | false =>
  simp only [hw,zD] at h
  rcases flat with hx | ⟨e1,b,rfl⟩
  ·exact qof hT hf hs hx h
  ·rw [e1] at h; exact src hs h
 | true =>
  simp only [hw,zC] at h
  obtain ⟨r,rfl⟩:∃ r,sv = .chan (some r):=by
   cases sv with
   | chan r=>cases r with
    | none=>simp [isW] at hw
    | some r=>exact ⟨r,rfl⟩
   | _=>simp [isW] at hw
  have ecs:=hs.at
  simp only [ren] at ecs
  cases ha:q53 T s t xt (.slice none 0 0) (qfy x) with
  | none=>simp [ha] at h
  | some q =>
   obtain ⟨v',s'⟩:=q
   rcases tgt (a:=some ⟨m.blk r,m.sh r,some (m.cp r)⟩) flat ha with ⟨e1,e2,hrun⟩ | ⟨⟨b,n,c,e1⟩,heff⟩
   ·rw [ha,e1] at h
    simp only [zA,zB] at h
    obtain ⟨rfl,rfl⟩:=h
    exact ⟨m,w,csv,by rw [← ecs]; exact hrun,Adv.refl hf,hs⟩
   ·rw [ha,e1] at h
    simp only [zA,zB] at h
    obtain ⟨rfl,rfl⟩:=h
    rw [← ecs,← e1]; exact heff
end
variable {m:Nm}
variable {s:S}
variable {w:World}
theorem Adv.ghost (h:q48 m s w) (b sh cp:Nat):Adv m s w (m.set s.nx b sh cp) ⟨s.h,s.nx+1⟩ w:=by
 refine ⟨Nm.agree_set m _ _ _ _,Nat.le_succ _,fun m' ha=>?_,?_,fun _ _ _=>rfl,zF _,rfl,rfl,rfl⟩
 ·have hf:=h m' ((Nm.agree_set m s.nx b sh cp).trans ha (Nat.le_succ _))
  exact ⟨hf.ok,hf.inj,fun i c hc=>Nat.lt_succ_of_lt (hf.bd i c hc)⟩
 ·rintro k ⟨j,d,hd,ho,rfl⟩
  have:=(h.fits).bd j d hd
  exact .inl ⟨j,d,hd,ho,by simp [Nm.set,show j≠s.nx by omega]⟩
variable {r:Nat}
variable {es:List MapEntry}
variable {cl:Nat}
theorem qaa (h:qdo s r=some (es,cl)):lk s.h r=some (.inr (es,cl)):=by
 unfold qdo at h
 cases hl:lk s.h r with
 | none=>simp [hl] at h
 | some b=>rcases b with x | x<;>simp [hl] at h; rw [h]
theorem qi5 {P:Program} (hf:q48 m s w) {es':List MapEntry} {ces:List MapEntry} {cl':Nat} (hr:qdo s r=some (es,cl))
  (he:∀ m',Agree s.nx m m'→es'.map (q8e m')=ces) :
  ∃ w₁,(setObj (m.blk r) (.map ces.toArray cl')).run P w = .ok () w₁∧Adv m s w m (qj0 s r es' cl') w₁:=by
 have hl:=qaa hr
 have hb:w.heap[m.blk r]? = some (.map (es.map (q8e m)).toArray cl):=(hf.fits).ok r _ hl
 refine ⟨{ w with heap:=w.heap.setIfInBounds (m.blk r) (.map ces.toArray cl') },by simp [setObj,Sem.run,hb],?_⟩
 refine Adv.write hf hl rfl (fun k hk=>?_) (by simp) rfl rfl rfl (zF _) fun m' ha=>?_
 ·exact Array.getElem?_setIfInBounds_ne (Ne.symm hk)
 ·have hbi:m'.blk r=m.blk r:=(ha r ((hf.fits).bd r _ hl)).1
  have hlt:=(hf.fits).size hl
  simp only [qfq,hbi,he m' ha]
  exact Array.getElem?_setIfInBounds_self_of_lt hlt
theorem qgr (hf:q48 m s w) (hr:qdo s r=some (es,cl)):∀ m',Agree s.nx m m'→es.map (q8e m')=es.map (q8e m):=fun m' ha=>by
 have hl:=qaa hr
 have h1:w.heap[m.blk r]? = some (.map (es.map (q8e m)).toArray cl):=(hf.fits).ok r _ hl
 have h2:w.heap[m'.blk r]? = some (.map (es.map (q8e m')).toArray cl):=(hf m' ha).ok r _ hl
 rw [(ha r ((hf.fits).bd r _ hl)).1,h1] at h2
 simp at h2
 exact List.map_congr_left fun e hee=>(h2 e hee).symm
theorem qxu {a b:ByteArray} (h:q22 a.data.toList b.data.toList=true):a=b:=by
 rw [qgh] at h
 have:a.data.toList=b.data.toList:=by simpa using h
 exact ByteArray.ext (Array.ext' this)
theorem z70 {E:Value→Value→Bool} {n:Nat} (hE:∀ a b,E a b=true→a=b∧Instr.sameBits n a b=true) (x y:List Value) (h:veqL E x y=true):x=y∧((x.zip y).all fun p=>Instr.sameBits n p.1 p.2)=true:=by
 induction x generalizing y with
 | nil=>cases y<;>simp_all [veqL]
 | cons a x ih =>
  cases y with
  | nil=>simp [veqL] at h
  | cons b y =>
   simp only [veqL] at h
   cases hab:E a b with
   | false=>simp [hab] at h
   | true =>
    simp only [hab,zC] at h
    obtain ⟨e1,e2⟩:=hE a b hab
    obtain ⟨e3,e4⟩:=ih y h
    subst e1 e3
    simp only [List.zip_cons_cons,List.all_cons,e2,e4]
    simp
theorem veq_ok (d k:Nat):∀ a b,veq d a b=true→a=b∧Instr.sameBits (d+k) a b=true:=by
 induction d with
 | zero=>intro a b h; simp [veq] at h
 | succ d ih =>
  intro a b h
  have hs:d+1+k=(d+k)+1:=by omega
  rw [hs]
  simp only [veq] at h
  cases a with
  | int k1 x =>
   cases b with
   | int k2 y =>
    simp only at h
    by_cases e1:k1=k2
    ·by_cases e2:x=y
     ·subst e1 e2; exact ⟨rfl,by simp [Instr.sameBits]⟩
     ·simp [e1,e2] at h
    ·simp [e1] at h
   | _=>simp at h
  | bool x =>
   cases b with
   | bool y=>simp at h; subst h; exact ⟨rfl,by simp [Instr.sameBits]⟩
   | _=>simp at h
  | string x =>
   cases b with
   | string y=>simp only at h; have:=qxu h; subst this; exact ⟨rfl,by simp [Instr.sameBits,beq_toListBytes]⟩
   | _=>simp at h
  | agg x =>
   cases b with
   | agg y =>
    obtain ⟨x⟩:=x
    obtain ⟨y⟩:=y
    simp only at h
    obtain ⟨e1,e2⟩:=z70 ih x y h
    subst e1
    refine ⟨rfl,?_⟩
    simp only [Instr.sameBits,beq_self_eq_true,Bool.true_and]
    exact e2
   | _=>simp at h
  | _=>simp at h
theorem qms {P:Program} {a b:Value} (h:veq 50 a b=true) (w:World):(Instr.keyThatStays a b).run P w = .ok b w∧a=b:=by
 obtain ⟨e1,e2⟩:=veq_ok 50 9950 a b h
 refine ⟨?_,e1⟩
 have e3:Instr.sameBits 10000 a b=true:=e2
 simp [Instr.keyThatStays,e3]
theorem qts (es:List MapEntry) (i:Nat) (f:MapEntry→MapEntry):z2w es i f=es.modify i f:=by
 induction es generalizing i with
 | nil=>simp [z2w]
 | cons e es ih=>cases i<;>simp [z2w,ih]
theorem qra (es:List MapEntry) (i:Nat):qmf es i=es.eraseIdx i:=by
 induction es generalizing i with
 | nil=>simp [qmf]
 | cons e es ih=>cases i<;>simp [qmf,ih]
variable {v:Value}
theorem z2e {T:Tb} {kt:TypeId} {k:Value} (es:List MapEntry) (b:Nat) {i:Nat} (h:qbv T kt k es b=some (some (i,v))):b≤i∧∃ e,es[i - b]? = some e∧e.val=v:=by
 induction es generalizing b with
 | nil=>simp [qbv] at h
 | cons e es ih =>
  simp only [qbv] at h
  cases he:eqv T 50 kt k e.key with
  | none=>simp [he] at h
  | some r =>
   cases r with
   | true=>simp [he] at h; obtain ⟨rfl,rfl⟩:=h; exact ⟨zF _,e,by simp,rfl⟩
   | false =>
    simp only [he] at h
    obtain ⟨h1,e',h2,h3⟩:=ih (b+1) h
    refine ⟨by omega,e',?_,h3⟩
    rw [show i - b=(i - (b+1))+1 by omega]
    simpa using h2
section
variable {P:Program} {T:Tb} (hT:qfp P T) {m:Nm} {s:S} {w:World} (hf:q48 m s w)
include hT hf
variable {t:TypeId}
variable {ty:TypeId}
variable {x:Value}
variable {s₁:S}
theorem z5q {ts:List TypeId} {d cd cx:Value} (hd':q8f m s.nx d cd) (hx:q8f m s.nx x cx) (h:qy3 T s t d x=some (v,s₁)):Eff P m s w (Builtin.copy_ (t::ts).toArray ty #[cd,cx]) v s₁:=by
 unfold qy3 at h
 cases hd:T.und t with
 | none=>simp [hd] at h
 | some dd =>
 cases dd with
 | slice e =>
  cases d with
  | slice base n c =>
   cases x with
   | slice xb k xc =>
    simp only [hd] at h
    cases hs:q0x T e with
    | none=>simp [hs] at h
    | some sz =>
     simp only [hs] at h
     cases hcx:q64 s xb (Nat.min k n*sz) with
     | none=>simp [hcx] at h
     | some cs =>
      simp only [hcx] at h
      cases h1:q78 cs with
      | false=>simp [h1] at h
      | true =>
       simp only [h1,zC] at h
       obtain ⟨cnew,hcn,hnl,hfirst⟩:=qip (P:=P) hf hcx
       have ecx:cx = .slice (xb.map fun a=>⟨m.blk a.block,m.sh a.block+a.off,none⟩) k (qhh m xb xc):=by
        rw [← hx.at]; cases xb<;>simp [ren,qhh]
       have ecd:cd = .slice (base.map fun a=>⟨m.blk a.block,m.sh a.block+a.off,none⟩) n (qhh m base c):=by
        rw [← hd'.at]; cases base<;>simp [ren,qhh]
       have hfi:=hfirst w rfl k (qhh m xb xc)
       have fin:∀ w₁,(∀ a,base=some a→(storeCells ⟨m.blk a.block,m.sh a.block+a.off,none⟩ cnew).run P w = .ok () w₁)→(base=none→w₁=w) →
         (Builtin.copy_ (t::ts).toArray ty #[cd,cx]).run P w = .ok (.int .i64 (Nat.min k n)) w₁:=by
        intro w₁ h2 h3
        rw [ecx,ecd]
        cases base with
        | none=>rw [h3 rfl]; simp [Builtin.copy_,q14 hT w hd,Builtin.lenOf,q1y hT w hs,hfi,goInt]
        | some a=>simp [Builtin.copy_,q14 hT w hd,Builtin.lenOf,q1y hT w hs,hfi,goInt,h2 a rfl]
       cases cs with
       | nil =>
        simp only [zA,zB] at h
        obtain ⟨rfl,rfl⟩:=h
        have hnn:cnew=[]:=by rw [← hcn.at]; simp [renL]
        subst hnn
        exact ⟨m,w,_,fin w (fun a _=>by simp [storeCells]) (fun _=>rfl),Adv.refl hf,q50 fun _=>by simp [ren]⟩
       | cons c0 cs =>
        simp only at h
        cases base with
        | none=>simp at h
        | some a =>
         simp only at h
         cases hr:ownRow s a.block with
         | none=>simp [hr] at h
         | some r =>
          obtain ⟨l,e',md⟩:=r
          simp only [hr] at h
          cases hp:qnx l a.off (c0::cs) with
          | none=>simp [hp] at h
          | some l' =>
           simp only [hp,zA,zB] at h
           obtain ⟨rfl,rfl⟩:=h
           obtain ⟨w₁,hst,hadv⟩:=qjm (P:=P) hf hr hp hcn h1
           exact ⟨m,w₁,_,fin w₁ (fun a' ha'=>by cases ha'; exact hst) (fun hno=>by cases hno),hadv,q50 fun _=>by simp [ren]⟩
   | _=>simp [hd] at h
  | _=>simp [hd] at h
 | _=>simp [hd] at h
omit hf in
theorem qsn {t xt ty e:TypeId} {kd k:IntKind} {size by_ j:Nat} {z:Value} {q:Int} (hw:IntKind.i64.wrap q=((j+1:Nat):Int)) (ht:T.und t=some (.slice e)) (hx:T.und xt=some (.int kd)) (hi:T.inf e=some (size,by_,z)) (hs0:0<size) (hr:qgd (j+1) by_=true) :
  ∃ nc,j+1≤nc∧(Builtin.append_ #[t,xt] ty #[.slice none 0 0,.int k q]).run P w =
   .ok (.slice (some ⟨w.heap.size,0,none⟩) (j+1) nc) ((w.drew).alloc (.cells (Builtin.zeroCells z.cells (j+1)++Builtin.zeroCells z.cells (nc - (j+1))) e)):=by
 obtain ⟨r1,r2⟩:=qow hr
 obtain ⟨_,i,hi1,hi2,hi3,hi4⟩:=hT.inf e _ _ _ hi
 have hs:q0x T e=some size:=by simp [q0x,hi]
 have g0:¬ (((j+1:Nat):Int)<0):=by omega
 have g4:¬ (((j+1:Nat):Int)*(i.bytes:Int) > 2 ^ 48):=by
  rw [hi3]
  have h':(((j+1)*by_:Nat):Int)≤((140737488355328:Nat):Int):=Int.ofNat_le.2 r1
  rw [Int.natCast_mul] at h'
  omega
 have g1:¬ 0+(j+1)≤0:=by omega
 have g2:¬ (((0+(j+1):Nat):Int) > IntKind.i64.max∧(True∨i.bytes=0)):=by rw [IntKind.max_i64]; omega
 have g3:¬ Builtin.nextslicecap (0+(j+1)) 0*i.bytes > 2 ^ 48:=by
  have:=growslice_fits (bytes:=i.bytes) (show 0<0+(j+1) by omega) (by rw [hi3,Nat.zero_add]; exact r1)
  omega
 have g5:¬ (j+1)*size=0:=by
  have:=Nat.mul_pos (show 0<j+1 by omega) hs0
  omega
 have hz:(zeroValue e).run P w.drew = .ok z w.drew:=(q9w hT (⟨id,id,id⟩:Nm) w.drew hi).1
 refine ⟨(Question.appendCap (0+(j+1)) 0 e).cut (w.tape w.drawn (.appendCap (0+(j+1)) 0 e)),by simp [Question.cut],?_⟩
 have hff:(Question.appendCap (0+(j+1)) 0 e).forced=false:=rfl
 simp only [Builtin.append_,List.getElem?_toArray,List.getElem?_cons_zero,zH,zK,q14 hT w ht,q14 hT w hx,q1y hT w hs,zJ,zL,Sem.run_ite,if_true,asInt,asIntOf,hw,g0,if_false,typeInfo,run_program,hi1,g4,zZ,g1,g2,g3,g5]
 simp [Builtin.firstCells]
 have hff':(Question.appendCap (j+1) 0 e).forced=false:=rfl
 simp only [hff',Bool.false_eq_true,if_false,hz,zJ]
 simp [Go.newRow]
 rfl
theorem qwb {xt:TypeId} {sv csv cx:Value} (hs':q8f m s.nx sv csv) (hx:q8f m s.nx x cx) (h:qp2 T s t xt sv x=some (v,s₁)):Eff P m s w (Builtin.append_ #[t,xt] ty #[csv,cx]) v s₁:=by
 unfold qp2 at h
 split at h
 ·rename_i e kd kd' i hd hd2
  have e1:csv = .slice none 0 0:=by rw [← hs'.at]; simp [ren]
  have e2:cx = .int kd' i:=by rw [← hx.at]; simp [ren]
  subst e1 e2
  split at h
  ·rename_i sz by_ z hi
   split at h
   ·rename_i k hw
    cases hroom:qgd (k+1) by_ with
    | false=>simp [hroom] at h
    | true =>
     rw [hroom] at h
     simp only [zC] at h
     cases hzl:Nat.beq z.cells.toList.length (sz+1) with
     | false=>rw [hzl] at h; cases h
     | true =>
      rw [hzl] at h
      simp only [zC] at h
      cases h1:q78 (zeros z.cells.toList (k+1)) with
      | false=>rw [h1] at h; cases h
      | true =>
       rw [h1] at h
       simp only [zC,zA,zB] at h
       obtain ⟨rfl,rfl⟩:=h
       have hzc:=qcv hT hi
       simp only at hzc
       have hzs:z.cells.size=sz+1:=by simpa [beq_eq] using hzl
       obtain ⟨nc,hnc,hrun⟩:=qsn (P:=P) (w:=w) (ty:=ty) (k:=kd') hT hw hd hd2 hi (by omega) hroom
       have hfd:q48 m s w.drew:=qgl _ hf
       have hzz:(Builtin.zeroCells z.cells (k+1)).toList=zeros z.cells.toList (k+1):=by
        have:=qjp z.cells (k+1)
        simp only [Builtin.zeroCells] at *
        rw [this]
       have hadv:=qdm hfd (rest:=(Builtin.zeroCells z.cells (nc - (k+1))).toList) (qgw (qgf hzc (k+1))) e nc (sz+1) (by
        have a1:(Builtin.zeroCells z.cells (nc - (k+1))).toList.length=(nc - (k+1))*z.cells.size:=by rw [Array.length_toList,size_zeroCells']
        have a2:(zeros z.cells.toList (k+1)).length=(k+1)*z.cells.size:=by rw [qjq,Array.length_toList]
        rw [a1,a2,hzs,← Nat.add_mul]
        congr 1
        omega)
       refine ⟨_,_,.slice (some ⟨w.heap.size,0,none⟩) (k+1) nc,?_,(Adv.draw (w.drawn+1) hf).trans hadv,?_⟩
       ·rw [hrun]
        congr 3
        apply Array.ext'
        simp [hzz]
       ·have hw:w.drew.heap.size=w.heap.size:=rfl
        rw [hw]
        refine q95 (zN _) fun m' ha=>?_
        rw [qct]
        obtain ⟨_,_,e3⟩:=q9x m s.nx w.heap.size 0 nc
        exact (ha s.nx (zN _)).2.2.trans e3
   ·cases h
  ·cases h
 ·cases h
theorem qwc {xt:TypeId} {sv csv cx:Value} (hs':q8f m s.nx sv csv) (hx:q8f m s.nx x cx) (h:qhk T s t xt sv x=some (v,s₁)):Eff P m s w (Builtin.append_ #[t,xt] ty #[csv,cx]) v s₁:=by
 unfold qhk at h
 split at h
 ·rename_i r hr
  cases h
  exact qxl hT hf hs' hx hr
 ·exact qwb hT hf hs' hx h
theorem z1r {ts:List TypeId} {cx:Value} (hx:q8f m s.nx x cx) (h:qmb T s t x=some (v,s₁)):Eff P m s w (Builtin.clear_ (t::ts).toArray ty #[cx]) v s₁:=by
 unfold qmb at h
 cases hd:T.und t with
 | none=>simp [hd] at h
 | some dd =>
 cases dd with
 | slice e =>
  cases x with
  | slice base n c =>
   simp only [hd] at h
   have ecx:cx = .slice (base.map fun a=>⟨m.blk a.block,m.sh a.block+a.off,none⟩) n (qhh m base c):=by
    rw [← hx.at]; cases base<;>simp [ren,qhh]
   cases n with
   | zero =>
    simp only [zA,zB] at h
    obtain ⟨rfl,rfl⟩:=h
    refine ⟨m,w,undef,?_,Adv.refl hf,q50 fun _=>by simp [undef,ren,renL]⟩
    rw [ecx]
    cases base<;>simp [Builtin.clear_,q14 hT w hd,undef]
   | succ n =>
    cases base with
    | none =>
     simp only [zA,zB] at h
     obtain ⟨rfl,rfl⟩:=h
     refine ⟨m,w,undef,?_,Adv.refl hf,q50 fun _=>by simp [undef,ren,renL]⟩
     rw [ecx]
     simp [Builtin.clear_,q14 hT w hd,undef]
    | some a =>
     simp only at h
     cases hi:T.inf e with
     | none=>simp [hi] at h
     | some q =>
      obtain ⟨sz,by_,z⟩:=q
      simp only [hi] at h
      have hz:=(q9w hT m w hi).1
      have hzc:=qcv hT hi
      simp only at hz hzc
      cases h1:q78 (zeros z.cells.toList (n+1)) with
      | false=>simp [h1] at h
      | true =>
       simp only [h1,zC] at h
       cases hr:ownRow s a.block with
       | none=>simp [hr] at h
       | some r =>
        obtain ⟨l,e',md⟩:=r
        simp only [hr] at h
        cases hp:qnx l a.off (zeros z.cells.toList (n+1)) with
        | none=>simp [hp] at h
        | some l' =>
         simp only [hp,zA,zB] at h
         obtain ⟨rfl,rfl⟩:=h
         obtain ⟨w₁,hst,hadv⟩:=qjm (P:=P) hf hr hp (qgw (qgf hzc (n+1))) h1
         refine ⟨m,w₁,undef,?_,hadv,q50 fun _=>by simp [undef,ren,renL]⟩
         have hzz:(Builtin.zeroCells z.cells (n+1)).toList=zeros z.cells.toList (n+1):=by
          have:=qjp z.cells (n+1)
          simp only [Builtin.zeroCells] at *
          rw [this]
         rw [ecx]
         simp [Builtin.clear_,q14 hT w hd,undef,hz,hzz,hst]
  | _=>simp [hd] at h
 | _=>simp [hd] at h
theorem z0e {cx:Value} {lo hi mx:Option Value} {clo chi cmx:Option Value} (hx:q8f m s.nx x cx) (h1:∀ m',Agree s.nx m m'→lo.map (ren m')=clo) (h2:∀ m',Agree s.nx m m'→hi.map (ren m')=chi)
  (h3:∀ m',Agree s.nx m m'→mx.map (ren m')=cmx) (h:qoy T s t x lo hi mx=some (v,s₁)):Eff P m s w (Instr.sliceAt t cx clo chi cmx) v s₁:=by
 have e1:=h1 m (Agree.refl _ _)
 have e2:=h2 m (Agree.refl _ _)
 have e3:=h3 m (Agree.refl _ _)
 unfold qoy at h
 cases hd:T.und t with
 | none=>simp [hd] at h
 | some dd =>
 cases dd with
 | slice e =>
  cases x with
  | slice p n c =>
   cases p with
   | none=>simp [hd] at h
   | some a =>
    simp only [hd] at h
    cases hc:Nat.blt c q05 with
    | true=>simp [hc] at h
    | false =>
     have hc':¬ c<q05:=qfu hc
     simp only [hc,zD] at h
     cases hs:q0x T e with
     | none=>simp [hs] at h
     | some sz =>
      simp only [hs] at h
      cases hr:qe4 s a.block sz with
      | none=>simp [hr] at h
      | some l =>
       simp only [hr,beq_eq] at h
       ·by_cases hoff:a.off=capD c*sz
        ·rw [decide_eq_true hoff] at h
         simp only [zC] at h
         cases hpos:Nat.blt 0 sz with
         | false=>simp [hpos] at h
         | true =>
          have hpos':0<sz:=q98 hpos
          simp only [hpos,zC] at h
          obtain ⟨sz,rfl⟩:∃ q,sz=q+1:=⟨sz - 1,by omega⟩
          obtain ⟨_,_,hl0,_⟩:=qho hr
          have hl:=hr
          have hbd:=(hf.fits).bd _ _ hl0
          have ecx:cx = .slice (some ⟨m.blk a.block,m.sh a.block+a.off,none⟩) n (m.cp a.block - capD c):=by
           rw [← hx.at]; simp [ren,capOf,hc']
          have hknown:(l.length - a.off) / (sz+1)≤m.cp a.block - capD c:=by
           rcases Nat.eq_zero_or_pos ((l.length - a.off) / (sz+1)) with h0 | hp
           ·omega
           ·have hle:=Nat.div_mul_le_self (l.length - a.off) (sz+1)
            have hge:a.off≤l.length:=by
             rcases Nat.lt_or_ge l.length a.off with hlt | hge
             ·rw [show l.length - a.off=0 by omega] at hp; simp at hp
             ·exact hge
            have:=qm0 m w hf.fits (c:=c) (n:=(l.length - a.off) / (sz+1)) (off:=a.off) hl hoff (by omega)
            omega
          have hu:=q14 hT w hd
          cases mx with
          | some vm =>
           simp only at h
           cases hb1:q2v vm ((l.length - a.off) / (sz+1)) with
           | none=>simp [hb1] at h
           | some M0 =>
            simp only [hb1] at h
            cases hle0:Nat.ble (a.off+M0*(sz+1)) l.length with
            | false=>simp [hle0] at h
            | true =>
             simp only [hle0,zC] at h
             cases hb:q0y n M0 lo hi (some vm) with
             | none=>simp [hb] at h
             | some q =>
              obtain ⟨l1,hh,M⟩:=q
              simp only [hb] at h
              cases hMc:Nat.blt M q05 with
              | false=>simp [hMc] at h
              | true =>
               simp only [hMc,zC,zA,zB] at h
               obtain ⟨rfl,rfl⟩:=h
               have hMc':M<q05:=q98 hMc
               have hM0:M0≤m.cp a.block - capD c:=by
                have:=(qdj (P:=P) m w hb1 _ (zF _) .index).2
                omega
               obtain ⟨b1,b2,b3,_⟩:=q99 (P:=P) (isS:=true) m w hb hM0
               simp only [Option.isSome_some,if_true] at b1
               rw [e1,e2,e3] at b1
               have hMl:M - l1<q05:=Nat.lt_of_le_of_lt (Nat.sub_le _ _) hMc'
               refine ⟨m,w,.slice (if M=l1 then some ⟨m.blk a.block,m.sh a.block+a.off,none⟩ else some ⟨m.blk a.block,m.sh a.block+a.off+l1*(sz+1),none⟩) (hh - l1) (M - l1),?_,Adv.refl hf,fun m' ha=>?_⟩
               ·rw [ecx]
                simp only [Instr.sliceAt,zK,hu,zJ,Instr.slice,b1,q1y hT w hs,zL,zM,qbd]
               ·obtain ⟨q1,q2,_⟩:=ha a.block hbd
                by_cases hMl1:M=l1
                ·rw [hMl1] at hMl ⊢
                 simp only [yC,zC,ren,q1,q2,if_true,capOf,if_pos hMl]
                ·simp only [decide_eq_false hMl1,zD,ren,q1,q2,if_neg hMl1,capOf,if_pos hMl,Nat.add_assoc]
          | none =>
           simp only at h
           cases hb:q0y n ((l.length - a.off) / (sz+1)) lo hi none with
           | none=>simp [hb] at h
           | some q =>
            obtain ⟨l1,hh,M⟩:=q
            simp only [hb] at h
            cases hle0:Nat.ble (a.off+hh*(sz+1)) l.length with
            | false=>simp [hle0] at h
            | true =>
             simp only [hle0,zC] at h
             have hle1:a.off+hh*(sz+1)≤l.length:=zY hle0
             have hhC:=qm0 m w hf.fits (c:=c) (n:=hh) (off:=a.off) hl hoff hle1
             obtain ⟨b1,b2,_,b4⟩:=q99 (P:=P) (isS:=true) m w hb hknown
             simp only [Option.isSome_none,Bool.false_eq_true,if_false] at b1
             rw [e1,e2,e3] at b1
             have hrun:(Instr.sliceAt t cx clo chi cmx).run P w = .ok (.slice (if m.cp a.block - capD c=l1 then some ⟨m.blk a.block,m.sh a.block+a.off,none⟩ else some ⟨m.blk a.block,m.sh a.block+a.off+l1*(sz+1),none⟩) (hh - l1) (m.cp a.block - capD c - l1)) w:=by
              rw [ecx]
              simp only [Instr.sliceAt,zK,hu,zJ,Instr.slice,b1,q1y hT w hs,zL,zM,qbd]
             cases l1 with
             | zero =>
              simp only [zA,zB] at h
              obtain ⟨rfl,rfl⟩:=h
              have hrun':(Instr.sliceAt t cx clo chi cmx).run P w = .ok (.slice (some ⟨m.blk a.block,m.sh a.block+a.off,none⟩) hh (m.cp a.block - capD c)) w:=by
               rw [Nat.sub_zero,Nat.sub_zero,Nat.zero_mul,Nat.add_zero] at hrun
               by_cases hC:m.cp a.block - capD c=0
               ·rw [if_pos hC] at hrun; exact hrun
               ·rw [if_neg hC] at hrun; exact hrun
              refine ⟨m,w,_,hrun',Adv.refl hf,fun m' ha=>?_⟩
              obtain ⟨q1,q2,q3⟩:=ha a.block hbd
              simp only [ren,q1,q2,q3,capOf,if_neg hc']
             | succ l1 =>
              simp only at h
              cases hlt:Nat.blt (l1+1) hh with
              | true =>
               have hlt':l1+1<hh:=q98 hlt
               simp only [hlt,zC,zA,zB] at h
               obtain ⟨rfl,rfl⟩:=h
               refine ⟨m,w,_,hrun,Adv.refl hf,fun m' ha=>?_⟩
               obtain ⟨q1,q2,q3⟩:=ha a.block hbd
               have hne:¬ m.cp a.block - capD c=l1+1:=by omega
               have hnc:¬ c+(l1+1)<q05:=fun hh=>hc' (Nat.lt_of_le_of_lt (Nat.le_add_right _ _) hh)
               have hcd:capD (c+(l1+1))=capD c+(l1+1):=quk (Nat.le_of_not_lt hc') _
               simp only [ren,q1,q2,q3,capOf,if_neg hnc,if_neg hne,hcd,Nat.add_assoc,Nat.sub_sub]
              | false =>
               simp only [hlt,zD,zA,zB] at h
               obtain ⟨rfl,rfl⟩:=h
               have hge:=qfu hlt
               have heq:hh=l1+1:=by omega
               subst heq
               rw [Nat.sub_self] at hrun
               by_cases hC:m.cp a.block - capD c=l1+1
               ·rw [if_pos hC] at hrun
                refine ⟨_,w,_,hrun,Adv.ghost hf (m.blk a.block) (m.sh a.block+a.off) (m.cp a.block - capD c - (l1+1)),q95 (zN _) fun m' ha=>?_⟩
                rw [qct]
                obtain ⟨_,_,e3⟩:=q9x m s.nx (m.blk a.block) (m.sh a.block+a.off) (m.cp a.block - capD c - (l1+1))
                exact (ha s.nx (zN _)).2.2.trans e3
               ·rw [if_neg hC] at hrun
                refine ⟨_,w,_,hrun,Adv.ghost hf (m.blk a.block) (m.sh a.block+a.off+(l1+1)*(sz+1)) (m.cp a.block - capD c - (l1+1)),q95 (zN _) fun m' ha=>?_⟩
                rw [qct]
                obtain ⟨_,_,e3⟩:=q9x m s.nx (m.blk a.block) (m.sh a.block+a.off+(l1+1)*(sz+1)) (m.cp a.block - capD c - (l1+1))
                exact (ha s.nx (zN _)).2.2.trans e3
        ·rw [decide_eq_false hoff] at h
         simp at h
  | _=>simp [hd] at h
 | _=>simp [hd] at h
end
theorem eraseIdx_map' {α β:Type} (f:α→β) (l:List α) (i:Nat):(l.eraseIdx i).map f=(l.map f).eraseIdx i:=by
 induction l generalizing i with
 | nil=>simp
 | cons a l ih=>cases i<;>simp [ih]
section
variable {P:Program} {T:Tb} (hT:qfp P T) {m:Nm} {s:S} {w:World} (hf:q48 m s w)
include hT hf
variable {t:TypeId}
variable {mv:Value}
variable {k:Value}
variable {cm:Value}
variable {ck:Value}
variable {s₁:S}
theorem qv9 {x cx u:Value} (hm:q8f m s.nx mv cm) (hk:q8f m s.nx k ck) (hx:q8f m s.nx x cx) (h:qmx T s t mv k x=some (u,s₁)) :
  EffU P m s w (Instr.mapUpdate t cm ck cx) s₁∧u=undef:=by
 unfold qmx at h
 cases hd:T.und t with
 | none=>simp [hd] at h
 | some dd =>
 cases dd with
 | map kt et =>
  cases mv with
  | map r =>
   cases r with
   | none=>simp [hd] at h
   | some r =>
    simp only [hd] at h
    cases hkx:qk5 T 50 kt k with
    | false=>simp [hkx] at h
    | true =>
     simp only [hkx,zC] at h
     obtain ⟨ty,hty⟩:=qlt hkx
     cases hpl:plain k with
     | false=>simp [hpl] at h
     | true =>
      simp only [hpl,zC] at h
      cases hr:qdo s r with
      | none=>simp [hr] at h
      | some q =>
       obtain ⟨es,cl⟩:=q
       simp only [hr] at h
       have hb:w.heap[m.blk r]? = some (.map (es.map (q8e m)).toArray cl):=(hf.fits).ok r _ (qaa hr)
       have ecm:cm = .map (some (m.blk r)):=by rw [← hm.at]; simp [ren]
       have eck:ck=k:=by rw [← hk.at]; exact q51 m k hpl
       have hck:=qrp hT m false 50 9950 w hkx
       rw [q51 m k hpl] at hck
       have hst:=qgr hf hr
       cases hfx:qbv T kt k es 0 with
       | none=>simp [hfx] at h
       | some fr =>
        have hfi:=qeq hT m w hty hfx
        rw [q51 m k hpl] at hfi
        cases fr with
        | none =>
         simp only [hfx,zA,zB] at h
         obtain ⟨rfl,rfl⟩:=h
         refine ⟨?_,rfl⟩
         obtain ⟨w₁,h1,h2⟩:=qi5 (P:=P) hf hr (es':=es++[{ key:=k,val:=x,born:=cl }]) (cl':=cl+1) (ces:=es.map (q8e m)++[{ key:=k,val:=cx,born:=cl }]) (fun m' ha=>by
          simp [q8e,q51 m' k hpl,hx m' ha]
          have:=hst m' ha
          simpa [q8e] using this)
         refine ⟨m,w₁,?_,h2⟩
         rw [ecm,eck]
         simp only [Instr.mapUpdate,zK,q14 hT w hd,zJ,q38 hb,hck,hfi,Option.map_none]
         rw [← h1]
         simp
        | some p =>
         obtain ⟨i,pv⟩:=p
         simp only [hfx,q2o] at h
         cases hei:es[i]? with
         | none=>simp [hei] at h
         | some e =>
          simp only [hei] at h
          cases hv:veq 50 e.key k with
          | false=>simp [hv] at h
          | true =>
           simp only [hv,zC,zA,zB] at h
           obtain ⟨rfl,rfl⟩:=h
           refine ⟨?_,rfl⟩
           obtain ⟨hks,hek⟩:=qms (P:=P) hv w
           have hmod:∀ m',Agree s.nx m m'→(z2w es i fun e=>{ e with val:=x }).map (q8e m')=(es.map (q8e m)).modify i fun e=>{ e with key:=k,val:=cx }:=fun m' ha=>by
            rw [qts,← hst m' ha]
            apply List.ext_getElem?
            intro j
            simp only [List.getElem?_map,List.getElem?_modify]
            by_cases hij:i=j
            ·subst hij
             simp [hei,q8e,hx m' ha,hek,q51 m' k hpl]
            ·cases es[j]? <;> simp [hij]
           obtain ⟨w₁,h1,h2⟩:=qi5 (P:=P) hf hr (cl':=cl) hmod
           refine ⟨m,w₁,?_,h2⟩
           have hget:(es.map (q8e m)).toArray[i]? = some (q8e m e):=by simp [hei]
           have hkey:(q8e m e).key=k:=by simp [q8e,hek,q51 m k hpl]
           rw [hek] at hks
           rw [ecm,eck]
           simp only [Instr.mapUpdate,zK,q14 hT w hd,zJ,q38 hb,hck,hfi,zM,hget,Option.getD_some,hkey,hks]
           rw [← h1]
           simp
  | _=>simp [hd] at h
 | _=>simp [hd] at h
theorem qz8 {v:Value} (hm:q8f m s.nx mv cm) (hk:q8f m s.nx k ck) (h:qka T s t mv k=some (v,s₁)):Eff P m s w (Instr.mapEntry t cm ck) v s₁:=by
 unfold qka at h
 cases hd:T.und t with
 | none=>simp [hd] at h
 | some dd =>
 cases dd with
 | map kt et =>
  cases mv with
  | map r =>
   cases r with
   | none=>simp [hd] at h
   | some r =>
    simp only [hd] at h
    cases hkx:qk5 T 50 kt k with
    | false=>simp [hkx] at h
    | true =>
     simp only [hkx,zC] at h
     obtain ⟨ty,hty⟩:=qlt hkx
     cases hpl:plain k with
     | false=>simp [hpl] at h
     | true =>
      simp only [hpl,zC] at h
      cases hr:qdo s r with
      | none=>simp [hr] at h
      | some q =>
       obtain ⟨es,cl⟩:=q
       simp only [hr] at h
       have hb:w.heap[m.blk r]? = some (.map (es.map (q8e m)).toArray cl):=(hf.fits).ok r _ (qaa hr)
       have ecm:cm = .map (some (m.blk r)):=by rw [← hm.at]; simp [ren]
       have eck:ck=k:=by rw [← hk.at]; exact q51 m k hpl
       have hck:=qrp hT m false 50 9950 w hkx
       rw [q51 m k hpl] at hck
       have hst:=qgr hf hr
       cases hfx:qbv T kt k es 0 with
       | none=>simp [hfx] at h
       | some fr =>
        have hfi:=qeq hT m w hty hfx
        rw [q51 m k hpl] at hfi
        cases fr with
        | none =>
         simp only [hfx] at h
         cases hi:T.inf et with
         | none=>simp [hi] at h
         | some y =>
          obtain ⟨y1,y2,z⟩:=y
          have hz:=fun m'=>q9w hT m' w hi
          simp only at hz
          simp only [hi,zA,zB] at h
          obtain ⟨rfl,rfl⟩:=h
          obtain ⟨w₁,h1,h2⟩:=qi5 (P:=P) hf hr (es':=es++[{ key:=k,val:=z,born:=cl }]) (cl':=cl+1) (ces:=es.map (q8e m)++[{ key:=k,val:=z,born:=cl }]) (fun m' ha=>by
           simp [q8e,q51 m' k hpl,(hz m').2]
           have:=hst m' ha
           simpa [q8e] using this)
          refine ⟨m,w₁,.tuple #[z,.int .i64 cl],?_,h2,fun m' _=>by simp [ren,renL,(hz m').2]⟩
          rw [ecm,eck]
          have h1':(setObj (m.blk r) (.map ((es.map (q8e m)).toArray.push { key:=k,val:=z,born:=cl }) (cl+1))).run P w = .ok () w₁:=by rw [← h1]; simp
          simp only [Instr.mapEntry,zK,q14 hT w hd,zJ,q38 hb,hck,hfi,Option.map_none,(hz m).1,h1',zL,goInt]
        | some p =>
         obtain ⟨i,pv⟩:=p
         obtain ⟨_,e0,he0,hpv⟩:=z2e es 0 hfx
         simp only [Nat.sub_zero] at he0
         simp only [hfx,q2o,he0] at h
         cases hv:veq 50 e0.key k with
         | false=>simp [hv] at h
         | true =>
          simp only [hv,zC,zA,zB] at h
          obtain ⟨rfl,rfl⟩:=h
          obtain ⟨hks,hek⟩:=qms (P:=P) hv w
          obtain ⟨w₁,h1,h2⟩:=qi5 (P:=P) hf hr (es':=es) (cl':=cl) hst
          have hget:(es.map (q8e m)).toArray[i]? = some (q8e m e0):=by simp [he0]
          have hkey:(q8e m e0).key=k:=by simp [q8e,hek,q51 m k hpl]
          have hbo:(q8e m e0).born=e0.born:=rfl
          rw [hek] at hks
          have hmod:(es.map (q8e m)).toArray.modify i (fun e=>{ e with key:=k })=(es.map (q8e m)).toArray:=by
           apply Array.ext'
           simp only [Array.toList_modify]
           apply List.ext_getElem?
           intro j
           simp only [List.getElem?_modify]
           by_cases hij:i=j
           ·subst hij
            simp [he0,q8e,hek,q51 m k hpl]
           ·cases ((es.map (q8e m)).toArray.toList)[j]? <;> simp [hij]
          refine ⟨m,w₁,.tuple #[ren m pv,.int .i64 e0.born],?_,h2,fun m' ha=>?_⟩
          ·rw [ecm,eck]
           simp only [Instr.mapEntry,zK,q14 hT w hd,zJ,q38 hb,hck,hfi,zM,hget,Option.getD_some,hkey,hks,hmod,h1,zL,goInt,hbo]
          ·have:=hst m' ha
           have h3:(q8e m' e0)=q8e m e0:=by
            have:=congrArg (fun l=>l[i]?) this
            simpa [he0] using this
           have h4:ren m' pv=ren m pv:=by
            have:=congrArg MapEntry.val h3
            simpa [q8e,hpv] using this
           simp [ren,renL,h4]
  | _=>simp [hd] at h
 | _=>simp [hd] at h
omit hT in
theorem z1z {t:TypeId} {mv st x cm cst cx u:Value} {s₁:S} (hm:q8f m s.nx mv cm) (hs:q8f m s.nx st cst) (hx:q8f m s.nx x cx) (h:qr7 s mv st x=some (u,s₁)) :
  EffU P m s w (Instr.entryStore t cm cst cx) s₁∧u=undef:=by
 unfold qr7 at h
 cases mv with
 | map r =>
  cases r with
  | none=>simp at h
  | some r =>
   cases st with
   | int k b =>
    simp only at h
    cases hr:qdo s r with
    | none=>simp [hr] at h
    | some q =>
     obtain ⟨es,cl⟩:=q
     simp only [hr] at h
     cases hbo:qqz b es 0 with
     | none=>simp [hbo] at h
     | some i =>
      simp only [hbo,zA,zB] at h
      obtain ⟨rfl,rfl⟩:=h
      refine ⟨?_,rfl⟩
      have hb:w.heap[m.blk r]? = some (.map (es.map (q8e m)).toArray cl):=(hf.fits).ok r _ (qaa hr)
      have ecm:cm = .map (some (m.blk r)):=by rw [← hm.at]; simp [ren]
      have ecs:cst = .int k b:=by rw [← hs.at]; simp [ren]
      have hst:=qgr hf hr
      have hfind:∀ (l:List MapEntry) (n i:Nat),qqz b l n=some i→n≤i∧(l.map (q8e m)).findIdx? (fun e=>(e.born:Int) == b)=some (i - n):=by
       intro l
       induction l with
       | nil=>intro n i hh; simp [qqz] at hh
       | cons e l ih =>
        intro n i hh
        simp only [qqz] at hh
        by_cases he:(e.born:Int)=b
        ·simp [he] at hh
         subst hh
         have hb':(((q8e m e).born:Int) == b)=true:=by simpa [q8e] using he
         refine ⟨zF _,?_⟩
         rw [zQ,List.findIdx?_cons,hb']
         simp
        ·simp only [he,yB,zD] at hh
         obtain ⟨h1,h2⟩:=ih (n+1) i hh
         have hb':(((q8e m e).born:Int) == b)=false:=by simpa [q8e] using he
         refine ⟨by omega,?_⟩
         rw [zQ,List.findIdx?_cons,hb',h2]
         simp
         omega
      obtain ⟨_,hfi⟩:=hfind es 0 i hbo
      have hmod:∀ m',Agree s.nx m m'→(z2w es i fun e=>{ e with val:=x }).map (q8e m')=(es.map (q8e m)).modify i fun e=>{ e with val:=cx }:=fun m' ha=>by
       rw [qts,← hst m' ha]
       apply List.ext_getElem?
       intro j
       simp only [List.getElem?_map,List.getElem?_modify]
       by_cases hij:i=j
       ·subst hij
        cases es[i]? <;> simp [q8e,hx m' ha]
       ·cases es[j]? <;> simp [hij]
      obtain ⟨w₁,h1,h2⟩:=qi5 (P:=P) hf hr (cl':=cl) hmod
      refine ⟨m,w₁,?_,h2⟩
      rw [ecm,ecs]
      have hfa:(es.map (q8e m)).toArray.findIdx? (fun e=>(e.born:Int) == b)=some i:=by
       rw [List.findIdx?_toArray,hfi]
       simp
      simp only [Instr.entryStore,zK,q38 hb,zJ,asInt,asIntOf,zL,hfa]
      rw [← h1]
      simp
   | _=>simp at h
 | _=>simp at h
theorem del_ok {ty:TypeId} {ts:List TypeId} {v:Value} (hm:q8f m s.nx mv cm) (hk:q8f m s.nx k ck) (h:delX T s t mv k=some (v,s₁)):Eff P m s w (Builtin.delete_ (t::ts).toArray ty #[cm,ck]) v s₁:=by
 unfold delX at h
 cases hd:T.und t with
 | none=>simp [hd] at h
 | some dd =>
 cases dd with
 | map kt et =>
  cases mv with
  | map r =>
   cases r with
   | none =>
    simp only [hd] at h
    cases hkx:qk5 T 50 kt k with
    | false=>simp [hkx] at h
    | true =>
     simp only [hkx,zC,zA,zB] at h
     obtain ⟨rfl,rfl⟩:=h
     have ecm:cm = .map none:=by rw [← hm.at]; simp [ren]
     have hck:=qrp hT m true 50 9950 w hkx
     rw [hk.at] at hck
     refine ⟨m,w,undef,?_,Adv.refl hf,q50 fun _=>by simp [undef,ren,renL]⟩
     rw [ecm]
     have hck':(Instr.checkKey true 10000 kt ck).run P w = .ok () w:=hck
     simp [Builtin.delete_,q14 hT w hd,hck',undef]
   | some r =>
    simp only [hd] at h
    cases hkx:qk5 T 50 kt k with
    | false=>simp [hkx] at h
    | true =>
     simp only [hkx,zC] at h
     obtain ⟨ty,hty⟩:=qlt hkx
     cases hr:qdo s r with
     | none=>simp [hr] at h
     | some q =>
      obtain ⟨es,cl⟩:=q
      simp only [hr] at h
      have hb:w.heap[m.blk r]? = some (.map (es.map (q8e m)).toArray cl):=(hf.fits).ok r _ (qaa hr)
      have ecm:cm = .map (some (m.blk r)):=by rw [← hm.at]; simp [ren]
      have hck:=qrp hT m (es.map (q8e m)).toArray.isEmpty 50 9950 w hkx
      rw [hk.at] at hck
      have hck':(Instr.checkKey (es.map (q8e m)).toArray.isEmpty 10000 kt ck).run P w = .ok () w:=hck
      have hst:=qgr hf hr
      cases hfx:qbv T kt k es 0 with
      | none=>simp [hfx] at h
      | some fr =>
       have hfi:=qeq hT m w hty hfx
       rw [hk.at] at hfi
       cases fr with
       | none =>
        simp only [hfx,zA,zB] at h
        obtain ⟨rfl,rfl⟩:=h
        obtain ⟨w₁,h1,h2⟩:=qi5 (P:=P) hf hr (es':=es) (cl':=cl) hst
        refine ⟨m,w₁,undef,?_,h2,q50 fun _=>by simp [undef,ren,renL]⟩
        rw [ecm]
        simp only [Builtin.delete_,List.getElem?_toArray,List.getElem?_cons_zero,zH,zK,q14 hT w hd,zJ,q38 hb,hck',hfi,Option.map_none,h1,zL,undef]
       | some p =>
        obtain ⟨i,pv⟩:=p
        simp only [hfx,zA,zB] at h
        obtain ⟨rfl,rfl⟩:=h
        obtain ⟨w₁,h1,h2⟩:=qi5 (P:=P) hf hr (es':=qmf es i) (cl':=cl) (ces:=(es.map (q8e m)).eraseIdx i) (fun m' ha=>by
         rw [qra,← hst m' ha,eraseIdx_map'])
        refine ⟨m,w₁,undef,?_,h2,q50 fun _=>by simp [undef,ren,renL]⟩
        have h1':(setObj (m.blk r) (.map ((es.map (q8e m)).toArray.eraseIdxIfInBounds i) cl)).run P w = .ok () w₁:=by
         rw [← h1]
         simp
        rw [ecm]
        simp only [Builtin.delete_,List.getElem?_toArray,List.getElem?_cons_zero,zH,zK,q14 hT w hd,zJ,q38 hb,hck',hfi,zM,h1',zL,undef]
  | _=>simp [hd] at h
 | _=>simp [hd] at h
end
def qqq (m:Nm) (n:Nat) (tm:List Value) (a:Act):Prop:=∀ m',Agree n m m'→a.tmps=⟨renL m' tm⟩
variable {m:Nm}
variable {n:Nat}
variable {tm:List Value}
variable {a:Act}
theorem qqq.ext {m':Nm} {n':Nat} (h:qqq m n tm a) (ha:Agree n m m') (hn:n≤n'):qqq m' n' tm a:=fun k hk=>h k (ha.trans hk hn)
variable {v:Value}
theorem qqq.evalO (h:qqq m n tm a) {x:Operand} (hx:evalO tm x=some v):q8f m n v (a.eval x):=fun m' ha=>(q18 (h m' ha) hx).symm
theorem z3f (m:Nm) (tm:List Value) (d:Nat) (v:Value):renL m (tm.set d v)=(renL m tm).set d (ren m v):=by simp [q2s,List.map_set]
theorem qqq.put {m:Nm} {n:Nat} {tm:List Value} {a:Act} (h:qqq m n tm a) {v cv:Value} (hv:q8f m n v cv) (d:Option Tmp):qqq m n (z3a tm d v) (a.put d cv):=fun m' ha=>by
 cases d with
 | none=>exact h m' ha
 | some d=>simp only [Act.put,z3a,h m' ha,z3f,hv m' ha,List.setIfInBounds_toArray]
section
variable {P:Program} {T:Tb} (hT:qfp P T) {m:Nm} {s:S} {w:World} (hf:q48 m s w)
include hT hf
theorem eff_ok (ha:qqq m s.nx tm a) (o:Oper) {s₁:S} (h:qnv T tm s o.op=some (v,s₁)) :
  ∃ m₁ w₁ cv nxt,(execOp a.eval o).run P w = .ok nxt w₁∧(nxt = .value cv∨(nxt = .skip∧cv=undef))∧Adv m s w m₁ s₁ w₁∧q8f m₁ s₁.nx v cv:=by
 obtain ⟨dst,op,type,pos,after,guard⟩:=o
 simp only at h
 have hval:∀ {x:Sem Value},Eff P m s w x v s₁→∃ m₁ w₁ cv nxt,(do let y ← x; pure (Next.value y):Sem Next).run P w = .ok nxt w₁∧(nxt = .value cv∨(nxt = .skip∧cv=undef))∧Adv m s w m₁ s₁ w₁∧q8f m₁ s₁.nx v cv:=by
  rintro x ⟨m₁,w₁,cv,h1,h2,h3⟩
  exact ⟨m₁,w₁,cv,_,by simp only [zK,h1,zJ,zL],.inl rfl,h2,h3⟩
 have hunit:∀ {x:Sem Unit},EffU P m s w x s₁∧v=undef→∃ m₁ w₁ cv nxt,(do x; pure Next.skip:Sem Next).run P w = .ok nxt w₁∧(nxt = .value cv∨(nxt = .skip∧cv=undef))∧Adv m s w m₁ s₁ w₁∧q8f m₁ s₁.nx v cv:=by
  rintro x ⟨⟨m₁,w₁,h1,h2⟩,rfl⟩
  exact ⟨m₁,w₁,undef,_,by simp only [zK,h1,zJ,zL],.inr ⟨rfl,rfl⟩,h2,q50 fun _=>by simp [undef,ren,renL]⟩
 unfold qnv at h
 cases op with
 | alloc e =>
  simp only at h
  cases hi:T.inf e with
  | none=>simp [hi] at h
  | some x =>
   obtain ⟨x1,x2,z⟩:=x
   simp only [hi,zA,zB] at h
   obtain ⟨rfl,rfl⟩:=h
   have hz:=(q9w hT m w hi).1
   have hzc:=qcv hT hi
   simp only at hz hzc
   refine hval ⟨_,_,.pointer (some ⟨w.heap.size,0,none⟩),?_,qpo hf (qgw hzc) e 0,qvt _ _ _ _ (zN _)⟩
   simp [Instr.alloc,hz,newVar,Go.newRow]
 | box e x =>
  simp only at h
  cases hx:evalO tm x with
  | none=>simp [hx] at h
  | some u =>
   simp only [hx,zA,zB] at h
   obtain ⟨rfl,rfl⟩:=h
   refine hval ⟨_,_,.pointer (some ⟨w.heap.size,0,none⟩),?_,qpo hf (ha.evalO hx).cells e 0,qvt _ _ _ _ (zN _)⟩
   simp [Instr.box,newVar,Go.newRow]
 | store t p x =>
  simp only at h
  cases hp:evalO tm p with
  | none=>simp [hp] at h
  | some u =>
   cases hx:evalO tm x with
   | none=>simp [hp,hx] at h
   | some u' =>
    simp only [hp,hx] at h
    exact hunit (z3j hT hf (ha.evalO hp) (ha.evalO hx) h)
 | buildSlice t n ps =>
  simp only at h
  cases hp:qmg tm ps.toList with
  | none=>simp [hp] at h
  | some qs =>
   simp only [hp] at h
   have e1:(ps.map fun (i,x)=>(i,a.eval x))=(ps.toList.map fun p=>(p.1,a.eval p.2)).toArray:=by cases ps; simp
   have:=qto hT hf (cps:=ps.toList.map fun p=>(p.1,a.eval p.2)) (fun m' hm'=>(qpc (ha m' hm') hp).symm) h
   simp only [execOp]
   rw [e1]
   exact hval this
 | makeSlice t l c =>
  simp only at h
  cases hp:evalO tm l with
  | none=>simp [hp] at h
  | some u =>
   cases hx:evalO tm c with
   | none=>simp [hp,hx] at h
   | some u' =>
    simp only [hp,hx] at h
    exact hval (z66 hT hf (ha.evalO hp) (ha.evalO hx) h)
 | makeMap t r =>
  cases r with
  | some r=>simp at h
  | none =>
   simp only [zA,zB] at h
   obtain ⟨rfl,rfl⟩:=h
   refine hval ⟨_,_,.map (some w.heap.size),?_,Adv.alloc hf (.map #[] 0) (.inr ([],0)) 0 ?_,fun m' hm'=>?_⟩
   ·simp [Instr.makeMap]
   ·intro m' hm'
    have e1:=(hm' s.nx (zN _)).1
    simp only [qfq,e1,(q9x m s.nx w.heap.size 0 0).1]
    show (w.heap.push _)[w.heap.size]? = _
    simp
   ·have e1:=(hm' s.nx (zN _)).1
    simp only [ren,e1,(q9x m s.nx w.heap.size 0 0).1]
 | slice t x lo hi mx =>
  simp only at h
  cases hx:evalO tm x with
  | none=>simp [hx] at h
  | some u =>
   cases h1:qc7 tm lo with
   | none=>simp [hx,h1] at h
   | some l =>
    cases h2:qc7 tm hi with
    | none=>simp [hx,h1,h2] at h
    | some hh =>
     cases h3:qc7 tm mx with
     | none=>simp [hx,h1,h2,h3] at h
     | some mm =>
      simp only [hx,h1,h2,h3] at h
      exact hval (z0e hT hf (ha.evalO hx) (fun m' hm'=>(qc8 (ha m' hm') h1).symm) (fun m' hm'=>(qc8 (ha m' hm') h2).symm) (fun m' hm'=>(qc8 (ha m' hm') h3).symm) h)
 | mapUpdate t q k x =>
  simp only at h
  cases h1:evalO tm q with
  | none=>simp [h1] at h
  | some u1 =>
   cases h2:evalO tm k with
   | none=>simp [h1,h2] at h
   | some u2 =>
    cases h3:evalO tm x with
    | none=>simp [h1,h2,h3] at h
    | some u3 =>
     simp only [h1,h2,h3] at h
     exact hunit (qv9 hT hf (ha.evalO h1) (ha.evalO h2) (ha.evalO h3) h)
 | insert t q k x =>
  simp only at h
  cases h1:evalO tm q with
  | none=>simp [h1] at h
  | some u1 =>
   cases h2:evalO tm k with
   | none=>simp [h1,h2] at h
   | some u2 =>
    cases h3:evalO tm x with
    | none=>simp [h1,h2,h3] at h
    | some u3 =>
     simp only [h1,h2,h3] at h
     exact hunit (qv9 hT hf (ha.evalO h1) (ha.evalO h2) (ha.evalO h3) h)
 | mapEntry t q k =>
  simp only at h
  cases h1:evalO tm q with
  | none=>simp [h1] at h
  | some u1 =>
   cases h2:evalO tm k with
   | none=>simp [h1,h2] at h
   | some u2 =>
    simp only [h1,h2] at h
    exact hval (qz8 hT hf (ha.evalO h1) (ha.evalO h2) h)
 | entryStore t q k x =>
  simp only at h
  cases h1:evalO tm q with
  | none=>simp [h1] at h
  | some u1 =>
   cases h2:evalO tm k with
   | none=>simp [h1,h2] at h
   | some u2 =>
    cases h3:evalO tm x with
    | none=>simp [h1,h2,h3] at h
    | some u3 =>
     simp only [h1,h2,h3] at h
     exact hunit (z1z hf (ha.evalO h1) (ha.evalO h2) (ha.evalO h3) h)
 | call c =>
  obtain ⟨callee,args,ats⟩:=c
  simp only at h
  cases callee with
  | builtin b =>
   cases b with
   | append =>
    simp only at h
    cases hx:q6o tm args.toList with
    | none=>simp [hx] at h
    | some vs =>
     rcases vs with _ | ⟨x,_ | ⟨y,_ | ⟨z,l⟩⟩⟩
     ·simp [hx] at h
     ·simp [hx] at h
     ·obtain ⟨ats⟩:=ats
      rcases ats with _ | ⟨t,_ | ⟨xt,_ | ⟨q,r⟩⟩⟩
      ·simp [hx] at h
      ·simp [hx] at h
      ·simp only [hx] at h
       have e0:=q3f (ha m (Agree.refl _ _)) hx
       simp only [renL] at e0
       have r1:q8f m s.nx x (ren m x):=fun m' hm'=>by
        have e1:=q3f (ha m' hm') hx
        rw [e0] at e1
        simp only [renL] at e1
        simp at e1; exact e1.1.symm
       have r2:q8f m s.nx y (ren m y):=fun m' hm'=>by
        have e1:=q3f (ha m' hm') hx
        rw [e0] at e1
        simp only [renL] at e1
        simp at e1; exact e1.2.symm
       obtain ⟨m₁,w₁,cv,g1,g2,g3⟩:=qwc hT hf (ty:=type) r1 r2 h
       refine ⟨m₁,w₁,cv,.value cv,?_,.inl rfl,g2,g3⟩
       simp only [execOp,zK,resolve,zL,zJ,invoke,builtin,e0]
       rw [g1]; rfl
      ·simp [hx] at h
     ·simp [hx] at h
   | copy =>
    simp only at h
    cases hx:q6o tm args.toList with
    | none=>simp [hx] at h
    | some vs =>
     rcases vs with _ | ⟨x,_ | ⟨y,_ | ⟨z,l⟩⟩⟩
     ·simp [hx] at h
     ·simp [hx] at h
     ·obtain ⟨ats⟩:=ats
      rcases ats with _ | ⟨t,ts⟩
      ·simp [hx] at h
      ·simp only [hx] at h
       have e0:=q3f (ha m (Agree.refl _ _)) hx
       simp only [renL] at e0
       have r1:q8f m s.nx x (ren m x):=fun m' hm'=>by
        have e1:=q3f (ha m' hm') hx
        rw [e0] at e1
        simp only [renL] at e1
        simp at e1; exact e1.1.symm
       have r2:q8f m s.nx y (ren m y):=fun m' hm'=>by
        have e1:=q3f (ha m' hm') hx
        rw [e0] at e1
        simp only [renL] at e1
        simp at e1; exact e1.2.symm
       obtain ⟨m₁,w₁,cv,g1,g2,g3⟩:=z5q hT hf (ty:=type) (ts:=ts) r1 r2 h
       refine ⟨m₁,w₁,cv,.value cv,?_,.inl rfl,g2,g3⟩
       simp only [execOp,zK,resolve,zL,zJ,invoke,builtin,e0]
       rw [g1]; rfl
     ·simp [hx] at h
   | delete =>
    simp only at h
    cases hx:q6o tm args.toList with
    | none=>simp [hx] at h
    | some vs =>
     rcases vs with _ | ⟨x,_ | ⟨y,_ | ⟨z,l⟩⟩⟩
     ·simp [hx] at h
     ·simp [hx] at h
     ·obtain ⟨ats⟩:=ats
      rcases ats with _ | ⟨t,ts⟩
      ·simp [hx] at h
      ·simp only [hx] at h
       have e0:=q3f (ha m (Agree.refl _ _)) hx
       simp only [renL] at e0
       have r1:q8f m s.nx x (ren m x):=fun m' hm'=>by
        have e1:=q3f (ha m' hm') hx
        rw [e0] at e1
        simp only [renL] at e1
        simp at e1; exact e1.1.symm
       have r2:q8f m s.nx y (ren m y):=fun m' hm'=>by
        have e1:=q3f (ha m' hm') hx
        rw [e0] at e1
        simp only [renL] at e1
        simp at e1; exact e1.2.symm
       obtain ⟨m₁,w₁,cv,g1,g2,g3⟩:=del_ok hT hf (ty:=type) (ts:=ts) r1 r2 h
       refine ⟨m₁,w₁,cv,.value cv,?_,.inl rfl,g2,g3⟩
       simp only [execOp,zK,resolve,zL,zJ,invoke,builtin,e0]
       rw [g1]; rfl
     ·simp [hx] at h
   | clear =>
    simp only at h
    cases hx:q6o tm args.toList with
    | none=>simp [hx] at h
    | some vs =>
     rcases vs with _ | ⟨x,_ | ⟨y,l⟩⟩
     ·simp [hx] at h
     ·obtain ⟨ats⟩:=ats
      rcases ats with _ | ⟨t,ts⟩
      ·simp [hx] at h
      ·simp only [hx] at h
       have e0:=q3f (ha m (Agree.refl _ _)) hx
       simp only [renL] at e0
       have r1:q8f m s.nx x (ren m x):=fun m' hm'=>by
        have e1:=q3f (ha m' hm') hx
        rw [e0] at e1
        simp only [renL] at e1
        simp at e1; exact e1.symm
       obtain ⟨m₁,w₁,cv,g1,g2,g3⟩:=z1r hT hf (ty:=type) (ts:=ts) r1 h
       refine ⟨m₁,w₁,cv,.value cv,?_,.inl rfl,g2,g3⟩
       simp only [execOp,zK,resolve,zL,zJ,invoke,builtin,e0]
       rw [g1]; rfl
     ·simp [hx] at h
   | _=>simp at h
  | _=>simp at h
 | _=>simp at h
end
def qoc (P:Program) (call:qib):Prop :=
 ∀ f args s v s₁,call f args s=some (v,s₁)→∀ m w cargs,q48 m s w→qi9 m s.nx args cargs →
  Calls P f cargs.toArray w fun e w₁=>∃ m₁ cv,e = .returned cv∧Adv m s w m₁ s₁ w₁∧q8f m₁ s₁.nx v cv
section
variable {P:Program} {T:Tb} (hT:qfp P T) {call:qib} (hC:qoc P call)
include hT
theorem qr1 (ha:qqq m n tm a) (o:Oper) (w:World) {f:FuncId} {args:List Value} (h:callOf T tm o.op=some (f,args)) :
  ∃ cargs,(execOp a.eval o).run P w = .ok (.enter f cargs.toArray) w∧qi9 m n args cargs:=by
 obtain ⟨dst,op,type,pos,after,guard⟩:=o
 simp only at h
 unfold callOf at h
 cases op with
 | call c =>
  obtain ⟨callee,as,ats⟩:=c
  simp only at h
  cases callee with
  | value g =>
   simp only at h
   cases hg:evalO tm g with
   | none=>simp [hg] at h
   | some u =>
    cases u with
    | func fn first cap =>
     cases fn with
     | func k =>
      simp only [hg] at h
      cases hk:T.fn k with
      | none=>simp [hk] at h
      | some fn =>
       simp only [hk] at h
       cases hb:fn.body.isSome with
       | false=>simp [hb] at h
       | true =>
        simp only [hb,zC] at h
        cases hl:q6o tm as.toList with
        | none=>simp [hl] at h
        | some vs =>
         simp only [hl,zA,zB] at h
         obtain ⟨rfl,rfl⟩:=h
         obtain ⟨hfn,hname⟩:=hT.fn k fn hk
         obtain ⟨first⟩:=first
         obtain ⟨cap⟩:=cap
         have e0:=q18 (ha m (Agree.refl _ _)) hg
         have e1:=q3f (ha m (Agree.refl _ _)) hl
         refine ⟨renL m first++renL m vs++renL m cap,?_,fun m' hm'=>?_⟩
         ·have hnb:fn.body.isNone=false:=by cases hbb:fn.body<;>simp_all
          simp only [ren,renA_mk] at e0
          simp only [execOp,zK,resolve,e0,e1,Deferred.ofValue,zL,zJ,invoke,callFunc,run_program,hfn,hname hb,hnb,Bool.false_eq_true,if_false]
          simp
         ·have e0':=q18 (ha m' hm') hg
          have e1':=q3f (ha m' hm') hl
          rw [e0] at e0'
          rw [e1] at e1'
          simp only [ren,renA_mk] at e0'
          simp at e0' e1'
          rw [q28,q28,e0'.1,e0'.2,e1']
     | _=>simp [hg] at h
    | _=>simp [hg] at h
  | _=>simp at h
 | _=>simp at h
include hC
theorem op_ok {s:S} {w:World} (hf:q48 m s w) (ha:qqq m s.nx tm a) (o:Oper) {s₁:S} (h:opX T call tm s o.op=some (v,s₁))
  {next:Act→World→Prop} {Q:Exit→Act→World→Prop} (hn:∀ m₁ w₁ cv,Adv m s w m₁ s₁ w₁→q8f m₁ s₁.nx v cv→next (a.put o.dst cv) w₁):o.wp P a w next Q:=by
 unfold opX at h
 unfold Oper.wp
 cases h1:q57 T tm o.op with
 | some u =>
  simp only [h1,zA,zB] at h
  obtain ⟨rfl,rfl⟩:=h
  have hrun:=fun m' hm'=>z6i hT m' w (ha m' hm') o h1
  rw [hrun m (Agree.refl _ _)]
  refine hn m w _ (Adv.refl hf) fun m' hm'=>?_
  have e1:=hrun m' hm'
  rw [hrun m (Agree.refl _ _)] at e1
  simp at e1; exact e1.symm
 | none =>
  simp only [h1] at h
  cases h2:q97 T tm s o.op with
  | some u =>
   simp only [h2,zA,zB] at h
   obtain ⟨rfl,rfl⟩:=h
   have hrun:=fun m' hm'=>qi1 hT m' w (hf m' hm') (ha m' hm') o h2
   rw [hrun m (Agree.refl _ _)]
   refine hn m w _ (Adv.refl hf) fun m' hm'=>?_
   have e1:=hrun m' hm'
   rw [hrun m (Agree.refl _ _)] at e1
   simp at e1; exact e1.symm
  | none =>
   simp only [h2] at h
   cases h3:qnv T tm s o.op with
   | some r =>
    simp only [h3,zA] at h
    subst h
    obtain ⟨m₁,w₁,cv,nxt,g1,g2,g3,g4⟩:=eff_ok hT hf ha o h3
    rw [g1]
    rcases g2 with rfl | ⟨rfl,rfl⟩
    ·exact hn m₁ w₁ cv g3 g4
    ·exact hn m₁ w₁ undef g3 g4
   | none =>
    simp only [h3] at h
    cases h4:callOf T tm o.op with
    | none=>simp [h4] at h
    | some q =>
     obtain ⟨f,args⟩:=q
     simp only [h4] at h
     obtain ⟨cargs,g1,g2⟩:=qr1 hT ha o w h4
     rw [g1]
     show Calls P f _ w _
     refine (hC f args s v s₁ h m w cargs hf g2).mono ?_
     rintro e w₁ ⟨m₁,cv,rfl,g3,g4⟩
     exact hn m₁ w₁ cv g3 g4
omit hC hT in
theorem qnp {m:Nm} {tm:List Value} {a:Act} (ha:a.tmps=⟨renL m tm⟩) (ops:Array Oper) (o:Oper):Region.wanted o (yielded ops a.tmps)=qno ops.toList tm o:=by
 unfold Region.wanted qno
 cases o.guard with
 | none=>rfl
 | some g =>
  obtain ⟨j,want⟩:=g
  simp only [yielded,qhp,q2o,ha]
  have hj:ops.toList[j]? = ops[j]?:=by simp
  rw [hj]
  cases ops[j]? with
  | none=>simp
  | some q =>
   simp only [Option.bind_some]
   cases hd:q.dst with
   | none=>simp
   | some d =>
    simp only [Option.bind_some,List.getElem?_toArray,q2s,List.getElem?_map]
    cases tm[d]? with
    | none=>simp
    | some v =>
     simp only [zM]
     cases v with
     | pointer p=>cases p<;>simp [ren]
     | slice p n c=>cases p<;>simp [ren]
     | map r=>cases r<;>simp [ren]
     | chan r=>cases r<;>simp [ren]
     | bool b=>simp [ren]
     | _=>simp [ren]
end
theorem q6s {b c:Bool} (h:cond b c false=true):b=true∧c=true:=by cases b<;>simp_all
theorem qww {l:List Operand} {t:Tmp} (h : .tmp t∈l):t∈tmpsOf l:=by
 induction l with
 | nil=>simp at h
 | cons x l ih =>
  rcases zI.1 h with rfl | h2
  ·simp [tmpsOf]
  ·cases x<;>simp [tmpsOf,ih h2]
section
variable {T:Tb} {tm tm':List Value} {op:Op}
end
variable {k:Nat}
theorem qz9 {acc:List Nat} {es:List Edge} (h:(qpn acc es).testBit k=true):∃ e∈es,Region.binds .any e=true∧(k=e.on∨∃ x,acc[e.on]? = some x∧x.testBit k=true):=by
 induction es with
 | nil=>simp [qpn] at h
 | cons e es ih =>
  simp only [qpn,q2o] at h
  cases hb:Region.binds .any e with
  | false =>
   simp only [hb,zD] at h
   obtain ⟨e',h1,h2⟩:=ih h
   exact ⟨e',by simp [h1],h2⟩
  | true =>
   simp only [hb,zC,Nat.testBit_or,Bool.or_eq_true] at h
   rcases h with (h | h) | h
   ·refine ⟨e,by simp,hb,.inl ?_⟩
    rw [Nat.testBit_two_pow] at h
    simpa using (of_decide_eq_true h).symm
   ·refine ⟨e,by simp,hb,.inr ?_⟩
    cases hx:acc[e.on]? with
    | none=>simp [hx] at h
    | some x=>simp only [hx] at h; exact ⟨x,rfl,h⟩
   ·obtain ⟨e',h1,h2⟩:=ih h
    exact ⟨e',by simp [h1],h2⟩
theorem qmy:∀ (l:List Oper) (acc:List Nat),(masks l acc).length=acc.length+l.length∧(masks l acc).take acc.length=acc ∧
  ∀ i o,l[i]? = some o→(masks l acc)[acc.length+i]? = some (qpn ((masks l acc).take (acc.length+i)) o.after.toList)
 | [],acc=>by simp [masks]
 | o::l,acc=>by
  obtain ⟨h1,h2,h3⟩:=qmy l (acc++[qpn acc o.after.toList])
  simp only [masks]
  refine ⟨by rw [h1]; simp; omega,?_,fun i q hq=>?_⟩
  ·have:=congrArg (List.take acc.length) h2
   rw [List.take_take] at this
   simpa using this
  ·cases i with
   | zero =>
    simp only [List.getElem?_cons_zero,zA] at hq
    subst hq
    have e1:(masks l (acc++[qpn acc o.after.toList])).take acc.length=acc:=by
     have:=congrArg (List.take acc.length) h2
     rw [List.take_take] at this
     simpa using this
    rw [Nat.add_zero,e1]
    have:=congrArg (fun z=>z[acc.length]?) h2
    simp only [List.getElem?_take] at this
    simpa using this
   | succ i =>
    simp only [zH] at hq
    have:=h3 i q hq
    simp only [zU,zO,zS] at this
    rw [show acc.length+(i+1)=acc.length+(0+1)+i by omega]
    exact this
section
variable (ops:List Oper)
def Pre (i k:Nat):Prop:=∃ x,(masks ops [])[i]? = some x∧x.testBit k=true
variable {i:Nat}
theorem qtw (h:Pre ops i k):∃ o e,ops[i]? = some o∧e∈o.after.toList∧Region.binds .any e=true∧(k=e.on∨Pre ops e.on k):=by
 obtain ⟨x,h1,h2⟩:=h
 obtain ⟨g1,_,g3⟩:=qmy ops []
 have hi:i<ops.length:=by
  have:=(zG.1 h1).1
  simp at g1
  omega
 have ho:ops[i]? = some ops[i]:=by simp [hi]
 have:=g3 i _ ho
 simp only [zS,Nat.zero_add] at this
 rw [h1] at this
 simp only [zA] at this
 rw [this] at h2
 obtain ⟨e,he,hb,hk⟩:=qz9 h2
 refine ⟨_,e,ho,he,hb,?_⟩
 rcases hk with hk | ⟨y,hy,hyk⟩
 ·exact .inl hk
 ·refine .inr ⟨y,?_,hyk⟩
  rw [List.getElem?_take] at hy
  split at hy
  ·exact hy
  ·cases hy
theorem z31 {es:List Edge} (h:onLt i es=true):∀ e∈es,Region.binds .any e=true→e.on<i:=by
 induction es with
 | nil=>simp
 | cons e es ih =>
  simp only [onLt] at h
  intro e' he' hb'
  cases hb:Region.binds .any e with
  | false =>
   simp only [hb,zD] at h
   rcases zI.1 he' with rfl | he'
   ·rw [hb] at hb'; cases hb'
   ·exact ih h e' he' hb'
  | true =>
   simp only [hb,zC] at h
   obtain ⟨h1,h2⟩:=q6s h
   rcases zI.1 he' with rfl | he'
   ·exact q98 h1
   ·exact ih h2 e' he' hb'
theorem qsl {lk:List Tmp} {di:Option Tmp} {i mi:Nat}:∀ (l:List Oper) (ms:List Nat) (b:Nat),rowOk lk di i mi l ms b=true→∀ j o,l[j]? = some o→∃ mk,ms[j]? = some mk∧qzs lk di i mi (b+j) mk o.dst=true
 | [],_,_,_=>fun j o h=>by simp at h
 | o::l,[],b,h=>by simp [rowOk] at h
 | o::l,mk::ms,b,h=>fun j q hq=>by
  simp only [rowOk] at h
  obtain ⟨h1,h2⟩:=q6s h
  cases j with
  | zero=>simp at hq; subst hq; exact ⟨mk,rfl,h1⟩
  | succ j =>
   simp only [zH] at hq
   obtain ⟨mk',g1,g2⟩:=qsl l ms (b+1) h2 j q hq
   exact ⟨mk',by simpa using g1,by rw [show b+(j+1)=b+1+j by omega]; exact g2⟩
theorem qm3 {ms:List Nat}:∀ (l:List Oper) (mr:List Nat) (b:Nat),qxh ops ms l mr b=true→∀ j o,l[j]? = some o→∃ mi,mr[j]? = some mi∧onLt (b+j) o.after.toList=true∧rowOk (qiz ops o) o.dst (b+j) mi ops ms 0=true
 | [],_,_,_=>fun j o h=>by simp at h
 | o::l,[],b,h=>by simp [qxh] at h
 | o::l,mi::mr,b,h=>fun j q hq=>by
  simp only [qxh] at h
  obtain ⟨h1,h2⟩:=q6s h
  obtain ⟨h2,h3⟩:=q6s h2
  cases j with
  | zero=>simp at hq; subst hq; exact ⟨mi,rfl,h1,h2⟩
  | succ j =>
   simp only [zH] at hq
   obtain ⟨mi',g1,g2,g3⟩:=qm3 l mr (b+1) h3 j q hq
   refine ⟨mi',by simpa using g1,?_,?_⟩
   ·rw [show b+(j+1)=b+1+j by omega]; exact g2
   ·rw [show b+(j+1)=b+1+j by omega]; exact g3
variable {ops} (hst:qcs ops=true)
include hst
theorem z6s {o:Oper} (ho:ops[i]? = some o):∀ e∈o.after.toList,Region.binds .any e=true→e.on<i:=by
 obtain ⟨_,_,h2,_⟩:=qm3 ops ops _ 0 hst i o ho
 rw [Nat.zero_add] at h2
 exact z31 h2
theorem z0l {o q:Oper} (ho:ops[i]? = some o) (hq:ops[k]? = some q) (hik:i≠k) {d:Tmp} (hd:q.dst=some d):o.dst≠some d∧(d∈qiz ops o→Pre ops i k∨Pre ops k i):=by
 obtain ⟨mi,h1,_,h3⟩:=qm3 ops ops _ 0 hst i o ho
 obtain ⟨mk,h4,h5⟩:=qsl ops _ 0 h3 k q hq
 simp only [Nat.zero_add,qzs,hd,beq_eq,hik,yB,zD] at h5
 have tail:(cond ((qiz ops o).any (Nat.beq d)) (cond (mi.testBit k) true (mk.testBit i)) true=true)→d∈qiz ops o→Pre ops i k∨Pre ops k i:=fun h6 hl=>by
  have hany:(qiz ops o).any (Nat.beq d)=true:=List.any_eq_true.2 ⟨d,hl,by simp⟩
  rw [hany] at h6
  simp only [zC] at h6
  cases hb:mi.testBit k with
  | true=>exact .inl ⟨mi,h1,hb⟩
  | false=>simp only [hb,zD] at h6; exact .inr ⟨mk,h4,h6⟩
 cases hod:o.dst with
 | none =>
  simp only [hod,zD] at h5
  exact ⟨by simp,tail h5⟩
 | some d' =>
  simp only [hod] at h5
  by_cases e:d=d'
  ·simp [e] at h5
  ·simp only [e,yB,zD] at h5
   exact ⟨by simpa using fun x=>e x.symm,tail h5⟩
theorem z4v:∀ (i k:Nat),Pre ops i k→k<i:=by
 intro i
 induction i using Nat.strongRecOn with
 | _ i ih =>
  intro k h
  obtain ⟨o,e,h1,h2,h3,h4⟩:=qtw ops h
  have hlt:=z6s hst h1 e h2 h3
  rcases h4 with rfl | h4
  ·exact hlt
  ·exact Nat.lt_trans (ih e.on hlt k h4) hlt
def Closed (ops:List Oper) (L:Nat→Prop):Prop:=∀ i o,L i→ops[i]? = some o→∀ e∈o.after.toList,Region.binds .any e=true→L e.on
theorem qjz {L:Nat→Prop} (hL:Closed ops L):∀ (i k:Nat),L i→Pre ops i k→L k:=by
 intro i
 induction i using Nat.strongRecOn with
 | _ i ih =>
  intro k hi h
  obtain ⟨o,e,h1,h2,h3,h4⟩:=qtw ops h
  have hlt:=z6s hst h1 e h2 h3
  have he:=hL i o hi h1 e h2 h3
  rcases h4 with rfl | h4
  ·exact he
  ·exact ih e.on hlt k he h4
theorem qj7 {L:Nat→Prop} (hL:Closed ops L) (hi:∀ o,ops[i]? = some o→∀ e∈o.after.toList,Region.binds .any e=true→L e.on) (h:Pre ops i k):L k:=by
 obtain ⟨o,e,h1,h2,h3,h4⟩:=qtw ops h
 have he:=hi o h1 e h2 h3
 rcases h4 with rfl | h4
 ·exact he
 ·exact qjz hst hL e.on k he h4
end
section
variable {P:Program} {T:Tb} (hT:qfp P T) {call:qib} (hC:qoc P call) (ops:Array Oper) {tm₀:List Value} {s₀:S} {rs:List Rec} {tm':List Value} {s':S}
 (htr:z58 T call ops.toList ops.toList tm₀ s₀=some (rs,tm',s')) (hst:qcs ops.toList=true) (hrs:z4x T rs (masks ops.toList []) rs (masks ops.toList []) 0=true)
include htr hst
include hT hC hrs
end
section
variable {P:Program} {T:Tb} (hT:qfp P T) {call:qib} (hC:qoc P call)
include hT hC
end
theorem qzr (n:Nat) (l:List Value):pad n l=l++List.replicate (n - l.length) undef:=by
 induction n generalizing l with
 | zero=>simp [pad]
 | succ n ih =>
  cases l with
  | nil=>simp [pad,ih,List.replicate_succ]
  | cons v l=>simp [pad,ih]
section
variable {P:Program} {T:Tb} (hT:qfp P T)
include hT
theorem z0a {m:Nm} {s:S} {w:World} (hf:Fits m s w) {tm:List Value} (F:ResultVar→Sem Value) (hF1:∀ t,F (.tmp t)=pure ((⟨renL m tm⟩:Array Value).getD t undef))
  (hF2:∀ a t,F (.cell a t)=(do loadVar t (← asAddr ((⟨renL m tm⟩:Array Value).getD a undef)))):∀ (rs:List ResultVar) (vs:List Value),qxf T tm s rs=some vs→(rs.mapM F).run P w = .ok (renL m vs) w
 | [],vs,h=>by simp [qxf] at h; subst h; simp [renL]
 | .tmp t::rs,vs,h=>by
  simp only [qxf,q2o] at h
  cases ht:tm[t]? with
  | none=>simp [ht] at h
  | some v =>
   simp only [ht] at h
   cases hr:qxf T tm s rs with
   | none=>simp [hr] at h
   | some l =>
    simp only [hr,zA] at h
    subst h
    have ih:=z0a hf F hF1 hF2 rs l hr
    have e1:(⟨renL m tm⟩:Array Value).getD t undef=ren m v:=by simp [q2s,ht]
    simp only [List.mapM_cons,zK,hF1,zL,zJ,ih,e1,renL]
 | .cell a t::rs,vs,h=>by
  simp only [qxf] at h
  cases ht:q97 T tm s (.load t (.tmp a)) with
  | none=>simp [ht] at h
  | some v =>
   simp only [ht] at h
   cases hr:qxf T tm s rs with
   | none=>simp [hr] at h
   | some l =>
    simp only [hr,zA] at h
    subst h
    have ih:=z0a hf F hF1 hF2 rs l hr
    simp only [q97,evalO] at ht
    cases hta:nth tm a with
    | none=>simp [hta] at ht
    | some u =>
     cases u with
     | pointer p =>
      cases p with
      | none=>simp [hta] at ht
      | some q =>
       simp only [hta] at ht
       cases hl:lk s.h q.block with
       | none=>simp [hl] at ht
       | some blk =>
        rcases blk with ⟨l',e,md⟩ | x
        ·simp only [hl] at ht
         have hload:=qmw hT m w hf hl ht
         rw [q2o] at hta
         have e1:(⟨renL m tm⟩:Array Value).getD a undef = .pointer (some ⟨m.blk q.block,m.sh q.block+q.off,none⟩):=by simp [q2s,hta,ren]
         simp only [List.mapM_cons,zK,hF2,e1,asAddr,zL,zJ,hload,ih,renL]
        ·simp [hl] at ht
     | _=>simp [hta] at ht
theorem qkh {m:Nm} {s:S} {w:World} (hf:Fits m s w) {tm:List Value} {fn:Func} {vs:List Value} (h:qxf T tm s fn.results.toList=some vs) :
  (results fn ⟨renL m tm⟩).run P w = .ok (ren m (qqr vs)) w:=by
 unfold results
 rw [zK,Array.mapM_eq_mapM_toList,Sem.run_map,z0a hT hf _ (fun t=>rfl) (fun a t=>rfl) fn.results.toList vs h]
 simp only [zJ,zL]
 congr 1
 rcases vs with _ | ⟨v,_ | ⟨u,l⟩⟩
 ·simp [renL,qqr,ren]
 ·simp [renL,qqr]
 ·simp [renL,qqr,ren]
end
theorem qtm (P:Program) (t:TypeId):P.info? t=P.types[t]? ∨ P.types[t]? = none:=by
 by_cases h:t<P.types.size
 ·exact .inl (by unfold Tables.info?; rw [if_pos h])
 ·exact .inr (Array.getElem?_eq_none (Nat.le_of_not_lt h))
theorem z6v (P : Program) (eqs : List TypeId) (hm : P.follows .mixedOrders = true) (hn : ∀ f ∈ P.funcs.toList, f.body.isSome = true → (f.name == "runtime.NumGoroutine") = false)
  (he:∀ t∈eqs,P.stoodInHeld t=false∧P.eqGuardType P.depth t=false):qfp P (tbOf P eqs) where
 und t d h:=by
  simp only [tbOf,q2o] at h
  cases ht:P.types.toList[t]? with
  | none=>simp [ht] at h
  | some i =>
   have hi:P.info? t=some i:=by
    have ht':P.types[t]? = some i:=by simpa using ht
    rcases qtm P t with h1 | h1
    ·rw [h1,ht']
    ·rw [h1] at ht'; cases ht'
   simp only [ht] at h
   unfold Program.underlying
   rw [hi]
   obtain ⟨desc,s1,s2,s3,s4,s5,s6,s7,s8,s9⟩:=i
   cases desc with
   | named nm u =>
    simp only at h ⊢
    cases hu:P.types.toList[u]? with
    | none=>simp [hu] at h
    | some j =>
     have hj:P.info? u=some j:=by
      have hu':P.types[u]? = some j:=by simpa using hu
      rcases qtm P u with h1 | h1
      ·rw [h1,hu']
      ·rw [h1] at hu'; cases hu'
     simp only [hu,zA] at h
     rw [hj]
     simp [h]
   | _=>simpa using h
 inf t a b z h:=by
  simp only [tbOf,q2o] at h
  cases ht:P.types.toList[t]? with
  | none=>simp [ht] at h
  | some i =>
   have hi:P.info? t=some i:=by
    have ht':P.types[t]? = some i:=by simpa using ht
    rcases qtm P t with h1 | h1
    ·rw [h1,ht']
    ·rw [h1] at ht'; cases ht'
   simp only [ht] at h
   cases hz:i.zero with
   | none=>simp [hz] at h
   | some z' =>
    simp only [hz] at h
    cases hp:plain z' with
    | false=>simp [hp] at h
    | true =>
     simp only [hp,zC,zA,zB] at h
     obtain ⟨rfl,rfl,rfl⟩:=h
     exact ⟨hp,i,hi,rfl,rfl,hz⟩
 fn f g h:=by
  simp only [tbOf,q2o] at h
  have h':P.funcs[f]? = some g:=by simpa using h
  exact ⟨h',hn g (zX h)⟩
 eqs t h:=by
  simp only [tbOf] at h
  obtain ⟨u,hu,e⟩:=List.any_eq_true.1 h
  have:t=u:=by simpa [beq_eq] using e
  subst this
  exact he t hu
 mixed:=hm
end Go.Rx
end
