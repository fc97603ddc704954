/-
  Texts of the walk: MpQ.
-/
import Derived.Test.YtldlchbgolpkaaaP9
set_option linter.unusedSimpArgs false
set_option linter.unusedVariables false
section
namespace Go.Vx
open Go Go.Rx
def stF:List Nat→Nat→Nat
 | [],_=>0
 | a::_,0=>a
 | _::l,i+1=>stF l i
def okN:List Nat→Nat→Bool
 | [],_=>true
 | a::l,nx=>cond (hasN l a) false (cond (Nat.blt a nx) (okN l nx) false)
theorem okN_iff:∀ {l:List Nat} {nx:Nat},okN l nx=true→l.Nodup∧∀ k∈l,k<nx
 | [],nx,_=>⟨List.nodup_nil,fun k h=>by cases h⟩
 | a::l,nx,h=>by
  simp only [okN] at h
  cases h1:hasN l a with
  | true=>rw [h1] at h; cases h
  | false =>
   rw [h1,cond_false] at h
   cases h2:Nat.blt a nx with
   | false=>rw [h2] at h; cases h
   | true =>
    rw [h2,cond_true] at h
    obtain ⟨q1,q2⟩:=okN_iff h
    refine ⟨List.nodup_cons.2 ⟨fun hm=>?_,q1⟩,fun k hk=>?_⟩
    ·rw [(hasN_iff l a).2 hm] at h1; cases h1
    ·rcases List.mem_cons.1 hk with rfl | hk
     ·exact Nat.le_of_ble_eq_true h2
     ·exact q2 k hk
def keysLt (N:Nat):List (Nat×B)→Bool
 | []=>true
 | (k,_)::h=>cond (Nat.blt k N) (keysLt N h) false
def HasR (ns:List Nat) (nx:Nat) (h:List (Nat×B)):List (Nat×B)→Prop
 | []=>True
 | (k,b)::r=>gt h (nm ns nx k)=some (rB (nm ns nx) b)∧HasR ns nx h r
theorem sub_of {ns:List Nat} {nx N:Nat} {h:List (Nat×B)}:∀ {h0:List (Nat×B)},HasR ns nx h h0→keysLt N h0=true→BelH N h0→∀ k b,gt h0 k=some b→k<N∧BelB N b∧gt h (nm ns nx k)=some (rB (nm ns nx) b)
 | [],_,_,_,k,b,hg=>by cases hg
 | (j,c)::h0,hh,hk,hb,k,b,hg=>by
  simp only [HasR] at hh
  simp only [keysLt] at hk
  cases h2:Nat.blt j N with
  | false=>rw [h2] at hk; cases hk
  | true =>
   rw [h2,cond_true] at hk
   simp only [BelH] at hb
   simp only [gt,beq_eq] at hg
   by_cases e:j=k
   ·subst e
    simp only [decide_true,cond_true,Option.some.injEq] at hg
    subst hg
    exact ⟨Nat.le_of_ble_eq_true h2,hb.1,hh.1⟩
   ·simp only [e,decide_false,cond_false] at hg
    exact sub_of hh.2 hk hb.2 k b hg
theorem rUL_nf (π:Nat→Nat) (l:List U) [q:BUL 0 l]:rUL π l=l:=rUL_bel0 π l q.h
theorem rUR_map {α:Type} (π:Nat→Nat) (c:α→List U) (l:List α) [q:BF c]:rUR π (l.map c)=l.map c:=rUR_bel0 π _ (belR_map c (q.h 0) l)
theorem rM_map {K V:Type} (π:Nat→Nat) (kU:K→U) (vU:V→U) (es:List (K×V×Nat)) [p:BFU kU] [q:BFU vU]:(es.map (mE kU vU)).map (rM π)=es.map (mE kU vU):=by
 rw [List.map_map]
 refine List.map_congr_left fun e _=>?_
 simp only [Function.comp,mE,rM,rU_bel0 π _ (p.h 0 _),rU_bel0 π _ (q.h 0 _)]
def finH (ns:List Nat) (nx N:Nat) (h:List (Nat×B)):List (Nat×B)→List (Nat×B)
 | []=>h
 | (k,b)::r=>cond (Nat.blt k N) (ug (finH ns nx N h r) (nm ns nx k) (rB (nm ns nx) b)) ((nm ns nx k,rB (nm ns nx) b)::finH ns nx N h r)
def allK (N:Nat) (h:List (Nat×B)):Bool:=(List.range N).all fun k=>(gt h k).isSome
theorem gt_finH {ns:List Nat} {nx N:Nat} {h:List (Nat×B)} (hl:ns.length=N) (hi:∀ i j,nm ns nx i=nm ns nx j→i=j) (hsome:∀ k,k<N→(gt h (nm ns nx k)).isSome=true) (hnew:∀ k,N≤k→gt h (nm ns nx k)=none):∀ (r:List (Nat×B)) (k:Nat),gt (finH ns nx N h r) k=match gt (renH ns nx r) k with
  | some b=>some b
  | none=>gt h k
 | [],k=>by simp [finH,renH,gt]
 | (j,b)::r,k=>by
  have ih:=gt_finH hl hi hsome hnew r
  simp only [finH,renH,gt_cons]
  cases hj:Nat.blt j N with
  | true =>
   have hjN:j<N:=Nat.le_of_ble_eq_true hj
   simp only [cond_true,gt_ug]
   by_cases e:nm ns nx j=k
   ·subst e
    have hs:=hsome j hjN
    have:(gt (finH ns nx N h r) (nm ns nx j)).isSome=true:=by
     rw [ih]; split<;>simp_all
    cases hg:gt (finH ns nx N h r) (nm ns nx j) with
    | none=>rw [hg] at this; cases this
    | some c=>simp
   ·simp [e,ih]
  | false =>
   simp only [cond_false,gt_cons]
   by_cases e:nm ns nx j=k
   ·simp [e]
   ·simp [e,ih]
theorem EvU.st {P:Program} {f:FuncId} {args0 args:List U} {h0:List (Nat×B)} {N N1:Nat} {U0 U1:(Nat→Nat)→U} {h1:(Nat→Nat)→List (Nat×B)} {S1:(Nat→Nat)→Sg} (ns:List Nat) {σ:Sg}
  (h:EvU P f args0 ⟨h0,N⟩ (fun u σ'=>∃ t:Nat→Nat,u=U0 t∧σ'=⟨h1 t,N1⟩)) [ha:BUL N args0] [hb:BH N h0]
  (hn:okN ns σ.nx=true:=by rfl) (hN:ns.length=N:=by rfl) (hk:keysLt N h0=true:=by rfl) (hal:allK N h0=true:=by rfl) (hal1:∀ t,allK N (h1 t)=true:=by intro t; rfl)
  (hh:HasR ns σ.nx σ.h h0:=by simp only [HasR,gt,Nat.beq,cond_true,cond_false,nm,rB,rUL_nf,rUL,rU,rUR_map,rM_map,and_true])
  (hargs:rUL (nm ns σ.nx) args0=args:=by (simp only [nm,rUL_nf,rUL,rU,rUR_map])<;>rfl)
  (hU:∀ t,rU (nm ns σ.nx) (U0 t)=U1 t:=by intro t; simp only [nm,rUL_nf,rUL,rU,rUR_map])
  (hS:∀ t,(⟨finH ns σ.nx N σ.h (h1 t),σ.nx+(N1 - N)⟩:Sg)=S1 t:=by intro t; simp only [finH,Nat.blt,Nat.ble,Nat.sub_self,Nat.add_zero,Nat.reduceAdd,Nat.reduceSub,ug,Nat.beq,cond_true,cond_false,nm,rB,rUL_nf,rUL,rU,rUR_map,rM_map]) :
  EvU P f args σ (fun u σ'=>∃ t:Nat→Nat,u=U1 t∧σ'=S1 t):=by
 subst hN
 obtain ⟨g1,g2⟩:=okN_iff hn
 have hsub:=sub_of hh hk hb.h
 have hi:∀ i j,nm ns σ.nx i=nm ns σ.nx j→i=j:=fun i j h=>nm_inj g1 g2 h
 have hA:∀ {h:List (Nat×B)},allK ns.length h=true→∀ k,k<ns.length→(gt h k).isSome=true:=fun {h} he k hk=>by
  unfold allK at he
  rw [List.all_eq_true] at he
  exact he k (List.mem_range.2 hk)
 have hsome:∀ k,k<ns.length→(gt σ.h (nm ns σ.nx k)).isSome=true:=fun k hk=>by
  have:=hA hal k hk
  cases hg:gt h0 k with
  | none=>rw [hg] at this; cases this
  | some b=>rw [(hsub k b hg).2.2]; rfl
 intro F x vs m w cargs hx hh' hfr he hfit hcargs
 have hnew:∀ k,ns.length≤k→gt σ.h (nm ns σ.nx k)=none:=fun k hk=>by
  cases hg:gt σ.h (nm ns σ.nx k) with
  | none=>rfl
  | some b =>
   have h2:=(hh'.ok (nm ns σ.nx k) b (by rw [hx]; exact hg)).1
   rw [hx,nm_ge ns σ.nx k hk] at h2
   omega
 have h3:=EvU.frame ns h σ g1 g2 ha.h hsub
 rw [hargs] at h3
 have h4:EvU P f args σ (fun u σ'=>∃ t:Nat→Nat,u=U1 t∧σ'=S1 t):=EvU.post h3 ?_
 ·exact h4 F x vs m w cargs hx hh' hfr he hfit hcargs
 rintro u σ' ⟨u0,σ0,⟨t,rfl,rfl⟩,hle,rfl,rfl⟩
 refine ⟨U1 t,S1 t,?_,?_,t,rfl,rfl⟩
 ·rw [← hS t]; exact Nat.le_add_right _ _
 ·rw [← hS t,← hU t]
  refine Gh.same (n0:=σ.nx) (tm:=[rU (nm ns σ.nx) (U0 t)]) (σ:=frS ns σ ⟨h1 t,N1⟩) (finH ns σ.nx ns.length σ.h (h1 t)) (fun k=>?_)
  show _=gt (renH ns σ.nx (h1 t)++dropH ns σ.h) k
  rw [gt_finH rfl hi hsome hnew,gt_append,gt_dropH]
  cases hg:gt (renH ns σ.nx (h1 t)) k with
  | some b=>rfl
  | none =>
   by_cases hkn:k∈ns
   ·exfalso
    obtain ⟨j,hj,e⟩:=List.getElem_of_mem hkn
    obtain ⟨_,e2⟩:=nm_lt ns σ.nx j hj
    rw [e] at e2
    rw [← e2,gt_renH hi] at hg
    have:=hA (hal1 t) j hj
    cases hg2:gt (h1 t) j with
    | none=>rw [hg2] at this; cases this
    | some c=>rw [hg2] at hg; cases hg
   ·rw [if_neg hkn]
end Go.Vx
end
