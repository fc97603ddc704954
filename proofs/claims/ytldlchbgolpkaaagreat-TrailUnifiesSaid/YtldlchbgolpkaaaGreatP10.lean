/-
  Texts of the walk: MpQ.
-/
import Derived.Test.YtldlchbgolpkaaaGreatP9
set_option linter.unusedSimpArgs false
set_option linter.unusedVariables false
section
namespace Go.Vx
open Go Go.Rx
def stF:List Nat→Nat→Nat
 | [],_=>0
 | a::_,0=>a
 | _::l,i+1=>stF l i
def okN:List Nat→Nat→Bool
 | [],_=>true
 | a::l,nx=>cond (qzz l a) false (cond (Nat.blt a nx) (okN l nx) false)
theorem qyj:∀ {l:List Nat} {nx:Nat},okN l nx=true→l.Nodup∧∀ k∈l,k<nx
 | [],nx,_=>⟨List.nodup_nil,fun k h=>by cases h⟩
 | a::l,nx,h=>by
  simp only [okN] at h
  cases h1:qzz l a with
  | true=>rw [h1] at h; cases h
  | false =>
   rw [h1,zD] at h
   cases h2:Nat.blt a nx with
   | false=>rw [h2] at h; cases h
   | true =>
    rw [h2,zC] at h
    obtain ⟨q1,q2⟩:=qyj h
    refine ⟨List.nodup_cons.2 ⟨fun hm=>?_,q1⟩,fun k hk=>?_⟩
    ·rw [(qkx l a).2 hm] at h1; cases h1
    ·rcases zI.1 hk with rfl | hk
     ·exact zY h2
     ·exact q2 k hk
def qtx (N:Nat):List (Nat×B)→Bool
 | []=>true
 | (k,_)::h=>cond (Nat.blt k N) (qtx N h) false
def HasR (ns:List Nat) (nx:Nat) (h:List (Nat×B)):List (Nat×B)→Prop
 | []=>True
 | (k,b)::r=>gt h (nm ns nx k)=some (rB (nm ns nx) b)∧HasR ns nx h r
theorem z3v {ns:List Nat} {nx N:Nat} {h:List (Nat×B)}:∀ {h0:List (Nat×B)},HasR ns nx h h0→qtx N h0=true→qw8 N h0→∀ k b,gt h0 k=some b→k<N∧qrw N b∧gt h (nm ns nx k)=some (rB (nm ns nx) b)
 | [],_,_,_,k,b,hg=>by cases hg
 | (j,c)::h0,hh,hk,hb,k,b,hg=>by
  simp only [HasR] at hh
  simp only [qtx] at hk
  cases h2:Nat.blt j N with
  | false=>rw [h2] at hk; cases hk
  | true =>
   rw [h2,zC] at hk
   simp only [qw8] at hb
   simp only [gt,beq_eq] at hg
   by_cases e:j=k
   ·subst e
    simp only [yC,zC,zA] at hg
    subst hg
    exact ⟨zY h2,hb.1,hh.1⟩
   ·simp only [e,yB,zD] at hg
    exact z3v hh.2 hk hb.2 k b hg
theorem qnx (π:Nat→Nat) (l:List U) [q:BUL 0 l]:rUL π l=l:=qaa π l q.h
theorem qfp {α:Type} (π:Nat→Nat) (c:α→List U) (l:List α) [q:BF c]:rUR π (l.map c)=l.map c:=qoy π _ (q68 c (q.h 0) l)
theorem quj {K V:Type} (π:Nat→Nat) (kU:K→U) (vU:V→U) (es:List (K×V×Nat)) [p:BFU kU] [q:BFU vU]:(es.map (mE kU vU)).map (rM π)=es.map (mE kU vU):=by
 rw [List.map_map]
 refine List.map_congr_left fun e _=>?_
 simp only [Function.comp,mE,rM,qsy π _ (p.h 0 _),qsy π _ (q.h 0 _)]
def qzy (ns:List Nat) (nx N:Nat) (h:List (Nat×B)):List (Nat×B)→List (Nat×B)
 | []=>h
 | (k,b)::r=>cond (Nat.blt k N) (ug (qzy ns nx N h r) (nm ns nx k) (rB (nm ns nx) b)) ((nm ns nx k,rB (nm ns nx) b)::qzy ns nx N h r)
def allK (N:Nat) (h:List (Nat×B)):Bool:=(List.range N).all fun k=>(gt h k).isSome
theorem qxn {ns:List Nat} {nx N:Nat} {h:List (Nat×B)} (hl:ns.length=N) (hi:∀ i j,nm ns nx i=nm ns nx j→i=j) (hsome:∀ k,k<N→(gt h (nm ns nx k)).isSome=true) (hnew:∀ k,N≤k→gt h (nm ns nx k)=none):∀ (r:List (Nat×B)) (k:Nat),gt (qzy ns nx N h r) k=match gt (qrz ns nx r) k with
  | some b=>some b
  | none=>gt h k
 | [],k=>by simp [qzy,qrz,gt]
 | (j,b)::r,k=>by
  have ih:=qxn hl hi hsome hnew r
  simp only [qzy,qrz,q28]
  cases hj:Nat.blt j N with
  | true =>
   have hjN:j<N:=zY hj
   simp only [zC,qqm]
   by_cases e:nm ns nx j=k
   ·subst e
    have hs:=hsome j hjN
    have:(gt (qzy ns nx N h r) (nm ns nx j)).isSome=true:=by
     rw [ih]; split<;>simp_all
    cases hg:gt (qzy ns nx N h r) (nm ns nx j) with
    | none=>rw [hg] at this; cases this
    | some c=>simp
   ·simp [e,ih]
  | false =>
   simp only [zD,q28]
   by_cases e:nm ns nx j=k
   ·simp [e]
   ·simp [e,ih]
theorem EvU.st {P:Program} {f:FuncId} {args0 args:List U} {h0:List (Nat×B)} {N N1:Nat} {U0 U1:(Nat→Nat)→U} {h1:(Nat→Nat)→List (Nat×B)} {S1:(Nat→Nat)→Sg} (ns:List Nat) {σ:Sg}
  (h:EvU P f args0 ⟨h0,N⟩ (fun u σ'=>∃ t:Nat→Nat,u=U0 t∧σ'=⟨h1 t,N1⟩)) [ha:BUL N args0] [hb:BH N h0]
  (hn:okN ns σ.nx=true:=by rfl) (hN:ns.length=N:=by rfl) (hk:qtx N h0=true:=by rfl) (hal:allK N h0=true:=by rfl) (hal1:∀ t,allK N (h1 t)=true:=by intro t; rfl)
  (hh:HasR ns σ.nx σ.h h0:=by simp only [HasR,gt,Nat.beq,zC,zD,nm,rB,qnx,rUL,rU,qfp,quj,and_true,true_and]<;>first | rfl | exact ⟨rfl,trivial⟩ | exact ⟨rfl,rfl,trivial⟩ | exact ⟨rfl,rfl⟩)
  (hargs:rUL (nm ns σ.nx) args0=args:=by (simp only [nm,qnx,rUL,rU,qfp])<;>rfl)
  (hU:∀ t,rU (nm ns σ.nx) (U0 t)=U1 t:=by (intro t; simp only [nm,qnx,rUL,rU,qfp])<;>rfl)
  (hS:∀ t,(⟨qzy ns σ.nx N σ.h (h1 t),σ.nx+(N1 - N)⟩:Sg)=S1 t:=by (intro t; simp only [qzy,Nat.blt,Nat.ble,Nat.sub_self,Nat.add_zero,Nat.reduceAdd,Nat.reduceSub,ug,Nat.beq,zC,zD,nm,rB,qnx,rUL,rU,qfp,quj])<;>rfl) :
  EvU P f args σ (fun u σ'=>∃ t:Nat→Nat,u=U1 t∧σ'=S1 t):=by
 subst hN
 obtain ⟨g1,g2⟩:=qyj hn
 have hsub:=z3v hh hk hb.h
 have hi:∀ i j,nm ns σ.nx i=nm ns σ.nx j→i=j:=fun i j h=>z3m g1 g2 h
 have hA:∀ {h:List (Nat×B)},allK ns.length h=true→∀ k,k<ns.length→(gt h k).isSome=true:=fun {h} he k hk=>by
  unfold allK at he
  rw [List.all_eq_true] at he
  exact he k (List.mem_range.2 hk)
 have hsome:∀ k,k<ns.length→(gt σ.h (nm ns σ.nx k)).isSome=true:=fun k hk=>by
  have:=hA hal k hk
  cases hg:gt h0 k with
  | none=>rw [hg] at this; cases this
  | some b=>rw [(hsub k b hg).2.2]; rfl
 intro F x vs m w cargs hx hh' hfr he hfit hcargs
 have hnew:∀ k,ns.length≤k→gt σ.h (nm ns σ.nx k)=none:=fun k hk=>by
  cases hg:gt σ.h (nm ns σ.nx k) with
  | none=>rfl
  | some b =>
   have h2:=(hh'.ok (nm ns σ.nx k) b (by rw [hx]; exact hg)).1
   rw [hx,qn6 ns σ.nx k hk] at h2
   omega
 have h3:=EvU.frame ns h σ g1 g2 ha.h hsub
 rw [hargs] at h3
 have h4:EvU P f args σ (fun u σ'=>∃ t:Nat→Nat,u=U1 t∧σ'=S1 t):=EvU.post h3 ?_
 ·exact h4 F x vs m w cargs hx hh' hfr he hfit hcargs
 rintro u σ' ⟨u0,σ0,⟨t,rfl,rfl⟩,hle,rfl,rfl⟩
 refine ⟨U1 t,S1 t,?_,?_,t,rfl,rfl⟩
 ·rw [← hS t]; exact Nat.le_add_right _ _
 ·rw [← hS t,← hU t]
  refine Gh.same (n0:=σ.nx) (tm:=[rU (nm ns σ.nx) (U0 t)]) (σ:=frS ns σ ⟨h1 t,N1⟩) (qzy ns σ.nx ns.length σ.h (h1 t)) (fun k=>?_)
  show _=gt (qrz ns σ.nx (h1 t)++qlk ns σ.h) k
  rw [qxn rfl hi hsome hnew,qls,qi3]
  cases hg:gt (qrz ns σ.nx (h1 t)) k with
  | some b=>rfl
  | none =>
   by_cases hkn:k∈ns
   ·exfalso
    obtain ⟨j,hj,e⟩:=List.getElem_of_mem hkn
    obtain ⟨_,e2⟩:=qm5 ns σ.nx j hj
    rw [e] at e2
    rw [← e2,qsj hi] at hg
    have:=hA (hal1 t) j hj
    cases hg2:gt (h1 t) j with
    | none=>rw [hg2] at this; cases this
    | some c=>rw [hg2] at hg; cases hg
   ·rw [if_neg hkn]
end Go.Vx
end
