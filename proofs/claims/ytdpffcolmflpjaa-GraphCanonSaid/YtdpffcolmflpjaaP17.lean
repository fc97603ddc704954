/-
  Texts of the walk: H5 MpA H6 H7 H8 H9 H10 H11 H13.
-/
import Derived.Test.YtdpffcolmflpjaaP16
section
namespace Go.Proofs
open Go Go.Rx Go.Vx Go.Shelf Go.Sort
set_option linter.unusedVariables false
set_option linter.unusedSimpArgs false
set_option maxRecDepth 10000
theorem ex_ok (m:Nat):q1t (m+60)=some true:=by kernel_rfl
theorem ex_n {n:Nat} (h:60≤n):q1t n=some true:=by
 have:=ex_ok (n - 60)
 rwa [Nat.sub_add_cancel h] at this
theorem q8e (n:Nat) (a b:Int):q1j n a b=some (cmpI a b):=by
 have e1:(a != a)=false:=by simp
 have e2:(b != b)=false:=by simp
 simp only [q1j,q3s,q0s,e1,e2,cond_false,cmpI]
 by_cases h1:a<b
 ·simp [h1]
 ·by_cases h2:b<a<;>simp [h1,h2]
theorem or2_eq {n:Nat} (hn:3≤n) (a b:Int):q4d n [a,b]=some (if a≠0 then a else b):=by
 obtain ⟨m,rfl⟩:∃ m,n=m+3:=⟨n - 3,by omega⟩
 have w1:IntKind.i64.wrap (0+1)=1:=by decide
 have w1':IntKind.i64.wrap 1=1:=by decide
 have w2:IntKind.i64.wrap (1+1)=2:=by decide
 have w2':IntKind.i64.wrap 2=2:=by decide
 by_cases h1:a=0
 ·by_cases h2:b=0
  ·simp [q4d,q35,q3r,idxO,h1,h2,w1,w1',w2,w2',q0s]
  ·have h3:(b != 0)=true:=by simpa using h2
   simp [q4d,q35,q3r,idxO,h1,h3,w1,w1',w2,w2',q0s]
 ·have h3:(a != 0)=true:=by simpa using h1
  simp [q4d,q35,q3r,idxO,h1,h3,q0s]
def lexL {α:Type} (c:α→α→Int):List α→List α→Int
 | [],[]=>0
 | [],_::_=>-1
 | _::_,[]=>1
 | x::xs,y::ys=>if c x y≠0 then c x y else lexL c xs ys
theorem Cmp.list {α:Type} {c:α→α→Int} (h:Cmp c):Cmp (lexL c) where
 val:=by
  intro x
  induction x with
  | nil=>intro y; cases y<;>simp [lexL]
  | cons a x ih =>
   intro y
   cases y with
   | nil=>simp [lexL]
   | cons b y=>simp only [lexL]; split; exact h.val a b; exact ih y
 anti:=by
  intro x
  induction x with
  | nil=>intro y; cases y<;>simp [lexL]
  | cons a x ih =>
   intro y
   cases y with
   | nil=>simp [lexL]
   | cons b y =>
    simp only [lexL]
    have a1:=h.anti a b
    have a2:=ih y
    by_cases e:c a b=0
    ·have:c b a=0:=by omega
     simp [e,this,a2]
    ·have:¬ c b a=0:=by omega
     simp [e,this,a1]
 trans:=by
  intro x
  induction x with
  | nil =>
   intro y z h1 h2
   cases z<;>simp [lexL]
  | cons a x ih =>
   intro y z h1 h2
   cases y with
   | nil=>simp [lexL] at h1
   | cons b y =>
    cases z with
    | nil=>simp [lexL] at h2
    | cons d z =>
     simp only [lexL] at *
     by_cases e:c a b=0
     ·have e2:=h.congr e d
      simp only [e,ne_eq,not_true,if_false] at h1
      rw [e2]
      by_cases e3:c b d=0
      ·simp only [e3,ne_eq,not_true,if_false] at h2 ⊢
       exact ih y z h1 h2
      ·simp only [e3,ne_eq,not_false_eq_true,if_true] at h2 ⊢
       exact h2
     ·simp only [e,ne_eq,not_false_eq_true,if_true] at h1
      have h1':c a b<0:=by omega
      by_cases e3:c b d=0
      ·have e4:=h.congr' e3 a
       rw [← e4]
       simp only [e,ne_eq,not_false_eq_true,if_true]
       exact h1
      ·simp only [e3,ne_eq,not_false_eq_true,if_true] at h2
       have:=h.lt_of h1' h2
       have hne:¬ c a d=0:=by omega
       simp only [hne,ne_eq,not_false_eq_true,if_true]
       omega
theorem qb0 {α:Type} {c:α→α→Int}:∀ {xs ys:List α},(∀ x∈xs,∀ y,c x y=0→x=y)→lexL c xs ys=0→xs=ys
 | [],[],_,_=>rfl
 | [],_::_,_,h=>by simp [lexL] at h
 | _::_,[],_,h=>by simp [lexL] at h
 | x::xs,y::ys,hc,h=>by
  simp only [lexL] at h
  by_cases e:c x y=0
  ·simp only [e,ne_eq,not_true,if_false] at h
   rw [hc x (by simp) y e,qb0 (fun a ha=>hc a (by simp [ha])) h]
  ·simp [e] at h
theorem cmpF_GNode {xs ys:List GNode} (hl:xs.length≤9223372036854775807) {f:GNode→GNode→Option Int} {cc:GNode→GNode→Int} (hf:∀ x∈xs,∀ y∈ys,f x y=some (cc x y)):∀ (m i:Nat),xs.length - i<m→i≤xs.length→i≤ys.length →
  q0f xs ys f m (i:Int)=some (lexL cc (xs.drop i) (ys.drop i))
 | 0,i,hm,_,_=>by omega
 | m+1,i,hm,hi,hi2=>by
  unfold q0f
  by_cases hlt:i<xs.length
  ·obtain ⟨x,hx,hxm⟩:=q5l hlt
   simp only [dlt hlt,cond_true,q45,hx,q0s]
   by_cases hlt2:i<ys.length
   ·obtain ⟨y,hy,hym⟩:=q5l hlt2
    have hge:decide ((i:Int) ≥ (ys.length:Int))=false:=by simp; omega
    have hw:IntKind.i64.wrap ((i:Int)+1)=((i+1:Nat):Int):=wrn (by simp) (by omega)
    simp only [hge,cond_false,hy,q0s,hf x hxm y hym,drop_cons' hx,drop_cons' hy,lexL,hw]
    by_cases e:cc x y=0
    ·simp only [e,bne_self_eq_false,cond_false,ne_eq,not_true,if_false]
     exact cmpF_GNode hl hf m (i+1) (by omega) (by omega) (by omega)
    ·have:(cc x y != 0)=true:=by simpa using e
     simp only [this,cond_true,ne_eq,e,not_false_eq_true,if_true]
   ·have hge:decide ((i:Int) ≥ (ys.length:Int))=true:=by simp; omega
    simp only [hge,cond_true,drop_cons' hx,drop_nil' hlt2,lexL]
  ·simp only [dnlt hlt,cond_false,q13,drop_nil' hlt]
   by_cases hlt2:i<ys.length
   ·obtain ⟨y,hy,hym⟩:=q5l hlt2
    simp only [dlt (show xs.length<ys.length by omega),cond_true,drop_cons' hy,lexL]
   ·simp only [dnlt (show ¬ xs.length<ys.length by omega),cond_false,drop_nil' hlt2,lexL]
theorem cmpF_GArc {xs ys:List GArc} (hl:xs.length≤9223372036854775807) {f:GArc→GArc→Option Int} {cc:GArc→GArc→Int} (hf:∀ x∈xs,∀ y∈ys,f x y=some (cc x y)):∀ (m i:Nat),xs.length - i<m→i≤xs.length→i≤ys.length →
  q0e xs ys f m (i:Int)=some (lexL cc (xs.drop i) (ys.drop i))
 | 0,i,hm,_,_=>by omega
 | m+1,i,hm,hi,hi2=>by
  unfold q0e
  by_cases hlt:i<xs.length
  ·obtain ⟨x,hx,hxm⟩:=q5l hlt
   simp only [dlt hlt,cond_true,q45,hx,q0s]
   by_cases hlt2:i<ys.length
   ·obtain ⟨y,hy,hym⟩:=q5l hlt2
    have hge:decide ((i:Int) ≥ (ys.length:Int))=false:=by simp; omega
    have hw:IntKind.i64.wrap ((i:Int)+1)=((i+1:Nat):Int):=wrn (by simp) (by omega)
    simp only [hge,cond_false,hy,q0s,hf x hxm y hym,drop_cons' hx,drop_cons' hy,lexL,hw]
    by_cases e:cc x y=0
    ·simp only [e,bne_self_eq_false,cond_false,ne_eq,not_true,if_false]
     exact cmpF_GArc hl hf m (i+1) (by omega) (by omega) (by omega)
    ·have:(cc x y != 0)=true:=by simpa using e
     simp only [this,cond_true,ne_eq,e,not_false_eq_true,if_true]
   ·have hge:decide ((i:Int) ≥ (ys.length:Int))=true:=by simp; omega
    simp only [hge,cond_true,drop_cons' hx,drop_nil' hlt2,lexL]
  ·simp only [dnlt hlt,cond_false,q0z,drop_nil' hlt]
   by_cases hlt2:i<ys.length
   ·obtain ⟨y,hy,hym⟩:=q5l hlt2
    simp only [dlt (show xs.length<ys.length by omega),cond_true,drop_cons' hy,lexL]
   ·simp only [dnlt (show ¬ xs.length<ys.length by omega),cond_false,drop_nil' hlt2,lexL]
def ccA:GArc→GArc→Int:=lexC (fun x y=>cmpI x.Feat y.Feat) (fun x y=>cmpI x.To y.To)
theorem ccA_ok:Cmp ccA:=(q9a.pull _).lex (q9a.pull _)
theorem ccA_zero {x y:GArc} (h:ccA x y=0):x=y:=by
 simp only [ccA,qaz,q8d] at h
 cases x; cases y; simp only at h; obtain ⟨rfl,rfl⟩:=h; rfl
def ccN:GNode→GNode→Int:=lexC (lexC (fun x y=>cmpI x.Typex y.Typex) (fun x y=>cmpI x.Arcs.length y.Arcs.length)) (fun x y=>lexL ccA x.Arcs y.Arcs)
theorem ccN_ok:Cmp ccN:=((q9a.pull _).lex (q9a.pull (fun x:GNode=>(x.Arcs.length:Int)))).lex (ccA_ok.list.pull _)
theorem ccN_zero {x y:GNode} (h:ccN x y=0):x=y:=by
 simp only [ccN,qaz,q8d] at h
 have:=qb0 (fun a _ b h=>ccA_zero h) h.2
 cases x; cases y; simp only at h this; obtain ⟨⟨rfl,_⟩,_⟩:=h; subst this; rfl
def ccG:GFS→GFS→Int:=lexC (fun x y=>cmpI x.Nodes.length y.Nodes.length) (fun x y=>lexL ccN x.Nodes y.Nodes)
theorem ccG_ok:Cmp ccG:=(q9a.pull (fun x:GFS=>(x.Nodes.length:Int))).lex (ccN_ok.list.pull _)
theorem ccG_zero {x y:GFS}:ccG x y=0↔x=y:=⟨fun h=>by
 simp only [ccG,qaz,q8d] at h
 have:=qb0 (fun a _ b h=>ccN_zero h) h.2
 cases x; cases y; simp only at this; subst this; rfl,fun h=>by subst h; exact ccG_ok.self x⟩
structure Small (f:GFS) (k:Nat):Prop where
 nodes:f.Nodes.length≤k
 arcs:∀ x∈f.Nodes,x.Arcs.length≤k
theorem cmpA_ok {n:Nat} (hn:3≤n) (x y:GArc):q1s n x y=some (ccA x y):=by
 simp only [q1s,q8e,q0s,or2_eq hn,ccA,lexC]
theorem cmpN_ok {n k:Nat} (hn:k+3≤n) (hk:k≤1000000) {x y:GNode} (hx:x.Arcs.length≤k):q22 n x y=some (ccN x y):=by
 have h:=cmpF_GArc (xs:=x.Arcs) (ys:=y.Arcs) (by omega) (f:=q1s n) (cc:=ccA) (fun a _ b _=>cmpA_ok (by omega) a b) n 0 (by omega) (by omega) (by omega)
 rw [Int.ofNat_zero,List.drop_zero,List.drop_zero] at h
 simp only [q22,q8e,q0s,or2_eq (show 3≤n by omega),q0t,h,ccN]
 unfold lexC
 by_cases h1:cmpI x.Typex y.Typex=0
 ·by_cases h2:cmpI (x.Arcs.length:Int) y.Arcs.length=0
  ·simp [h1,h2]
  ·have h3:(cmpI (x.Arcs.length:Int) y.Arcs.length != 0)=true:=by simpa using h2
   simp [h1,h2,h3]
 ·have h3:(cmpI x.Typex y.Typex != 0)=true:=by simpa using h1
  simp [h1,h3]
theorem cmpG_ok {n k:Nat} (hn:k+3≤n) (hk:k≤1000000) {f g:GFS} (hf:Small f k):q36 n f g=some (ccG f g):=by
 have h:=cmpF_GNode (xs:=f.Nodes) (ys:=g.Nodes) (by have:=hf.nodes; omega) (f:=q22 n) (cc:=ccN) (fun a ha b _=>cmpN_ok hn hk (hf.arcs a ha)) n 0 (by have:=hf.nodes; omega) (by omega) (by omega)
 rw [Int.ofNat_zero,List.drop_zero,List.drop_zero] at h
 simp only [q36,q8e,q0s,q0v,h,ccG]
 unfold lexC
 by_cases h1:cmpI (f.Nodes.length:Int) g.Nodes.length=0
 ·simp [h1]
 ·have h3:(cmpI (f.Nodes.length:Int) g.Nodes.length != 0)=true:=by simpa using h1
  simp [h1,h3]
theorem eqG_ok {n k:Nat} (hn:k+3≤n) (hk:k≤1000000) {f g:GFS} (hf:Small f k):q4a n f g=some (ccG f g == 0):=by
 simp only [q4a,cmpG_ok hn hk hf,q0s]
theorem light_L1 {f:GFS} (hl:f.Nodes.length≤12):∀ (m i:Nat),f.Nodes.length - i<m→i≤f.Nodes.length→∃ b,q3f f m i=some b∧(b=true→∀ x∈f.Nodes.drop i,x.Arcs.length≤12)
 | 0,i,hm,_=>by omega
 | m+1,i,hm,hi=>by
  unfold q3f
  by_cases hlt:i<f.Nodes.length
  ·obtain ⟨x,hx,_⟩:=q5l hlt
   simp only [dlt hlt,cond_true,q45,hx,q0s,wr1 hlt (show f.Nodes.length≤9223372036854775807 by omega)]
   by_cases h:(x.Arcs.length:Int) > 12
   ·simp only [h,decide_true,cond_true]; exact ⟨false,rfl,fun h=>by cases h⟩
   ·simp only [h,decide_false,cond_false]
    obtain ⟨b,h1,h2⟩:=light_L1 hl m (i+1) (by omega) (by omega)
    refine ⟨b,h1,fun hb=>?_⟩
    rw [drop_cons' hx]
    intro y hy
    rcases List.mem_cons.1 hy with rfl | hy
    ·omega
    ·exact h2 hb y hy
  ·simp only [dnlt hlt,cond_false,q53,drop_nil' hlt]
   exact ⟨true,rfl,fun _ x hx=>by cases hx⟩
theorem light_ok (f:GFS) {n:Nat} (hn:20≤n):∃ b,q4c n f=some b∧(b=true→Small f 12):=by
 unfold q4c
 by_cases h:(f.Nodes.length:Int) > 12
 ·simp only [h,decide_true,cond_true]; exact ⟨false,rfl,fun h=>by cases h⟩
 ·simp only [h,decide_false,cond_false]
  obtain ⟨b,h1,h2⟩:=light_L1 (f:=f) (by omega) n 0 (by omega) (by omega)
  rw [Int.ofNat_zero] at h1
  rw [List.drop_zero] at h2
  exact ⟨b,h1,fun hb=>⟨by omega,h2 hb⟩⟩
end Go.Proofs
end
section
namespace Go.Vx
open Go Go.Rx
set_option linter.unusedVariables false
section
variable {K V:Type} [DecidableEq K]
def aget (k:K):List (K×V×Nat)→Option V
 | []=>none
 | e::es=>if k=e.1 then some e.2.1 else aget k es
variable {eq:K→K→Bool} (he:∀ a b,eq a b=true↔a=b)
include he
omit [DecidableEq K] in
theorem eq_f {a b:K} (h:¬ a=b):eq a b=false:=by
 cases h':eq a b with
 | false=>rfl
 | true=>exact absurd ((he a b).1 h') h
theorem q9y (k:K):∀ (es:List (K×V×Nat)) (i:Nat),(mFindL eq k es i).map (fun x=>x.2.1)=aget k es
 | [],i=>rfl
 | e::es,i=>by
  simp only [mFindL,aget]
  by_cases h:k=e.1
  ·rw [(he k e.1).2 h,if_pos h]; rfl
  ·rw [eq_f he h,if_neg h]; exact q9y k es (i+1)
theorem mGet_get (m:MapL K V) (k:K):mGet eq m k=aget k m.es:=q9y he k m.es 0
theorem get_set (k:K) (v:V):∀ {es:List (K×V×Nat)} {i j:Nat} {q:V×Nat},mFindL eq k es i=some (j,q)→i≤j∧∀ x,aget x (mSetL v es (j - i))=if x=k then some v else aget x es
 | [],i,j,q,h=>by cases h
 | e::es,i,j,q,h=>by
  simp only [mFindL] at h
  by_cases hk:k=e.1
  ·rw [(he k e.1).2 hk] at h
   simp only [cond_true,Option.some.injEq,Prod.mk.injEq] at h
   obtain ⟨rfl,_⟩:=h
   refine ⟨Nat.le_refl _,fun x=>?_⟩
   simp only [Nat.sub_self,mSetL,aget,hk]
   split<;>rfl
  ·rw [eq_f he hk] at h
   simp only [cond_false] at h
   obtain ⟨h1,h2⟩:=get_set k v h
   refine ⟨by omega,fun x=>?_⟩
   rw [show j - i=(j - (i+1))+1 by omega]
   simp only [mSetL,aget,h2]
   by_cases hx:x=e.1
   ·have:¬ x=k:=fun h=>hk (h ▸ hx)
    simp [hx]
    intro h; exact absurd h.symm hk
   ·simp [hx]
omit he [DecidableEq K] in
theorem set_keys (v:V):∀ (es:List (K×V×Nat)) (i:Nat),(mSetL v es i).map (fun e=>e.1)=es.map (fun e=>e.1)∧(mSetL v es i).map (fun e=>e.2.2)=es.map (fun e=>e.2.2)
 | [],i=>by simp [mSetL]
 | e::es,0=>by simp [mSetL]
 | e::es,i+1=>by simp [mSetL,set_keys v es i]
omit he in
theorem get_none {k:K}:∀ {es:List (K×V×Nat)},k ∉ es.map (fun e=>e.1)→aget k es=none
 | [],_=>rfl
 | e::es,h=>by
  simp only [List.map_cons,List.mem_cons,not_or] at h
  simp only [aget,h.1,if_false]
  exact get_none h.2
theorem get_del (k:K):∀ {es:List (K×V×Nat)} {i j:Nat} {q:V×Nat},(es.map (fun e=>e.1)).Nodup→mFindL eq k es i=some (j,q)→i≤j∧∀ x,aget x (mDelL es (j - i))=if x=k then none else aget x es
 | [],i,j,q,_,h=>by cases h
 | e::es,i,j,q,hn,h=>by
  simp only [mFindL] at h
  simp only [List.map_cons,List.nodup_cons] at hn
  by_cases hk:k=e.1
  ·rw [(he k e.1).2 hk] at h
   simp only [cond_true,Option.some.injEq,Prod.mk.injEq] at h
   obtain ⟨rfl,_⟩:=h
   refine ⟨Nat.le_refl _,fun x=>?_⟩
   simp only [Nat.sub_self,mDelL,aget]
   by_cases hx:x=k
   ·rw [if_pos hx,hx,hk]; exact get_none hn.1
   ·have:¬ x=e.1:=fun h=>hx (h.trans hk.symm)
    simp [hx,this]
  ·rw [eq_f he hk] at h
   simp only [cond_false] at h
   obtain ⟨h1,h2⟩:=get_del k hn.2 h
   refine ⟨by omega,fun x=>?_⟩
   rw [show j - i=(j - (i+1))+1 by omega]
   simp only [mDelL,aget,h2]
   by_cases hx:x=e.1
   ·have:¬ x=k:=fun h=>hk (h ▸ hx)
    simp [hx]
    intro h; exact absurd h.symm hk
   ·simp [hx]
omit he [DecidableEq K] in
theorem del_sub:∀ (es:List (K×V×Nat)) (i:Nat),(mDelL es i).Sublist es
 | [],i=>by simp [mDelL]
 | e::es,0=>by simp [mDelL]
 | e::es,i+1=>by simp [mDelL,del_sub es i]
omit he in
theorem get_app (x k:K) (v:V) (b:Nat):∀ es:List (K×V×Nat),aget x (es++[(k,v,b)])=if aget x es=none then (if x=k then some v else none) else aget x es
 | []=>by simp [aget]
 | e::es=>by
  simp only [List.cons_append,aget]
  by_cases hx:x=e.1
  ·simp [hx]
  ·simp only [hx,if_false]; exact get_app x k v b es
structure MInv (m:MapL K V):Prop where
 keys:(m.es.map (fun e=>e.1)).Nodup
 borns:(m.es.map (fun e=>e.2.2)).Nodup
 lt:∀ e∈m.es,e.2.2<m.cl
omit he in
theorem MInv.app {m:MapL K V} (h:MInv m) {k:K} (hf:aget k m.es=none) (v:V):MInv (⟨m.es++[(k,v,m.cl)],m.cl+1⟩:MapL K V):=by
 refine ⟨?_,?_,?_⟩
 ·simp only [List.map_append,List.map_cons,List.map_nil]
  rw [List.nodup_append]
  refine ⟨h.keys,by simp,?_⟩
  intro a ha b hb hab
  simp only [List.mem_singleton] at hb
  subst hab hb
  clear h
  generalize m.es=es at *
  induction es with
  | nil=>simp at ha
  | cons e es ih =>
   simp only [aget] at hf
   by_cases hx:a=e.1
   ·simp [hx] at hf
   ·simp only [hx,if_false] at hf
    simp only [List.map_cons,List.mem_cons,hx,false_or] at ha
    exact ih ha hf
 ·simp only [List.map_append,List.map_cons,List.map_nil]
  rw [List.nodup_append]
  refine ⟨h.borns,by simp,?_⟩
  intro a ha b hb hab
  simp only [List.mem_singleton] at hb
  obtain ⟨e,he,rfl⟩:=List.mem_map.1 ha
  have:=h.lt e he
  omega
 ·intro e he
  rcases List.mem_append.1 he with he | he
  ·have:=h.lt e he; simp only; omega
  ·simp only [List.mem_singleton] at he; subst he; simp
omit he [DecidableEq K] in
theorem MInv.set {m:MapL K V} (h:MInv m) (v:V) (i:Nat):MInv (⟨mSetL v m.es i,m.cl⟩:MapL K V):=by
 obtain ⟨h1,h2⟩:=set_keys v m.es i
 refine ⟨by simp only [h1]; exact h.keys,by simp only [h2]; exact h.borns,fun e he=>?_⟩
 have:e.2.2∈(mSetL v m.es i).map (fun e=>e.2.2):=List.mem_map.2 ⟨e,he,rfl⟩
 rw [h2] at this
 obtain ⟨e',g1,g2⟩:=List.mem_map.1 this
 have:=h.lt e' g1
 simp only at g2 ⊢
 omega
theorem upd_ok {m:MapL K V} (h:MInv m) (k:K) (v:V):MInv (mUpd eq m k v)∧∀ x,aget x (mUpd eq m k v).es=if x=k then some v else aget x m.es:=by
 unfold mUpd
 cases hf:mFindL eq k m.es 0 with
 | none =>
  have hg:aget k m.es=none:=by rw [← q9y he k m.es 0,hf]; rfl
  refine ⟨h.app hg v,fun x=>?_⟩
  simp only [get_app]
  by_cases hx:x=k
  ·simp [hx,hg]
  ·simp only [hx,if_false]; split<;>simp_all
 | some q =>
  obtain ⟨j,q⟩:=q
  have:=(get_set he k v hf).2
  exact ⟨h.set v j,fun x=>by simpa using this x⟩
theorem del_ok {m:MapL K V} (h:MInv m) (k:K):MInv (mDel eq m k)∧∀ x,aget x (mDel eq m k).es=if x=k then none else aget x m.es:=by
 unfold mDel
 cases hf:mFindL eq k m.es 0 with
 | none =>
  have hg:aget k m.es=none:=by rw [← q9y he k m.es 0,hf]; rfl
  refine ⟨h,fun x=>?_⟩
  by_cases hx:x=k
  ·simp [hx,hg]
  ·simp [hx]
 | some q =>
  obtain ⟨j,q⟩:=q
  have:=(get_del he k h.keys hf).2
  have hs:=del_sub m.es j
  exact ⟨⟨(hs.map _).nodup h.keys,(hs.map _).nodup h.borns,fun e he=>h.lt e (hs.subset he)⟩,fun x=>by simpa using this x⟩
end
end Go.Vx
end
section
namespace Go.Proofs
open Go Go.Rx Go.Vx Go.Shelf Go.Sort
set_option linter.unusedVariables false
set_option linter.unusedSimpArgs false
set_option maxRecDepth 10000
theorem insB_congr {α:Type} {lt lt':α→α→Bool} (x:α):∀ {l:List α},(∀ y∈l,lt y x=lt' y x)→insB lt x l=insB lt' x l
 | [],_=>rfl
 | y::l,h=>by
  have ih:=insB_congr (lt:=lt) (lt':=lt') x (l:=l) fun z hz=>h z (List.mem_cons_of_mem _ hz)
  simp only [insB,h y (by simp),ih]
theorem srt_congr {α:Type} {lt lt':α→α→Bool}:∀ {l:List α},(∀ x∈l,∀ y∈l,lt x y=lt' x y)→srt lt l=srt lt' l
 | [],_=>rfl
 | x::l,h=>by
  simp only [srt]
  rw [srt_congr fun a ha b hb=>h a (by simp [ha]) b (by simp [hb])]
  exact insB_congr x fun y hy=>h y (by simp [(q7r lt' l).mem_iff.1 hy]) x (by simp)
theorem okSort_of {α:Type} {eq:α→α→Bool} (heq:∀ x,eq x x=true) {f:α→α→Option Int} {c:α→α→Int} (hc:Cmp c) {ds:List α} (hf:∀ x∈ds,∀ y∈ds,f x y=some (c x y)) (hz:∀ x∈ds,∀ y∈ds,c x y=0→x=y):okSort eq f ds=true:=by
 have hlt:∀ x∈ds,∀ y∈ds,fLt f x y=ltOf c x y:=fun x hx y hy=>by simp [fLt,hf x hx y hy,ltOf]
 have hs:=hc.swo
 unfold okSort
 rw [List.all_eq_true]
 intro x hx
 rw [Bool.and_eq_true,Bool.not_eq_true',List.all_eq_true]
 refine ⟨by rw [hlt x hx x hx]; exact hs.irrefl x,fun y hy=>?_⟩
 rw [Bool.and_eq_true,Bool.and_eq_true,List.all_eq_true]
 refine ⟨by rw [hf x hx y hy]; rfl,?_,fun z hzm=>?_⟩
 ·rw [hlt x hx y hy,hlt y hy x hx]
  cases h1:ltOf c x y with
  | true=>rfl
  | false =>
   cases h2:ltOf c y x with
   | true=>rfl
   | false =>
    have a:=hc.anti x y
    simp [ltOf] at h1 h2
    have:=hz x hx y hy (by omega)
    subst this
    simp [heq]
 ·rw [hlt x hx y hy,hlt y hy z hzm,hlt x hx z hzm]
  cases h1:ltOf c x y with
  | true =>
   cases h2:ltOf c y z with
   | true=>simp [hs.trans x y z h1 h2]
   | false=>simp
  | false =>
   cases h2:ltOf c y z with
   | true=>simp
   | false=>simp [hs.ntrans x y z h1 h2]
theorem sortO_of {α:Type} {eq:α→α→Bool} (heq:∀ x,eq x x=true) {f:α→α→Option Int} {c:α→α→Int} (hc:Cmp c) {ds:List α} (hl:ds.length≤1000000) (hf:∀ x∈ds,∀ y∈ds,f x y=some (c x y)) (hz:∀ x∈ds,∀ y∈ds,c x y=0→x=y):sortO eq f ds=some (srt (ltOf c) ds):=by
 unfold sortO
 have hb:Nat.ble ds.length 1000000=true:=by rw [Nat.ble_eq]; exact hl
 rw [okSort_of heq hc hf hz,hb]
 simp only [Bool.and_self,cond_true]
 have e:srt (fLt f) ds=srt (ltOf c) ds:=srt_congr fun x hx y hy=>by simp [fLt,hf x hx y hy,ltOf]
 rw [e]
def cF (a b:GArc):Int:=cmpI a.Feat b.Feat
theorem cF_ok:Cmp cF:=q9a.pull GArc.Feat
def srtA (l:List GArc):List GArc:=srt (ltOf cF) l
theorem q4o (l:List GArc):(srtA l).Perm l:=q7r _ l
def Dis (l:List GArc):Prop:=l.Pairwise (fun a b=>a.Feat≠b.Feat)
theorem Dis.perm {l m:List GArc} (h:l.Perm m) (hd:Dis l):Dis m:=(h.pairwise_iff (fun {a b} h=>Ne.symm h)).1 hd
theorem Dis.eq:∀ {l:List GArc},Dis l→∀ x∈l,∀ y∈l,x.Feat=y.Feat→x=y
 | [],_,x,hx,_,_,_=>by cases hx
 | a::l,h,x,hx,y,hy,e=>by
  obtain ⟨h1,h2⟩:=List.pairwise_cons.1 h
  rcases List.mem_cons.1 hx with e1 | hx'
  ·rcases List.mem_cons.1 hy with e2 | hy'
   ·rw [e1,e2]
   ·subst e1; exact absurd e (h1 y hy')
  ·rcases List.mem_cons.1 hy with e2 | hy'
   ·subst e2; exact absurd e.symm (h1 x hx')
   ·exact Dis.eq h2 x hx' y hy' e
def UpA (l:List GArc):Prop:=l.Pairwise (fun a b=>a.Feat<b.Feat)
theorem cF_le {a b:GArc}:cF a b≤0↔a.Feat≤b.Feat:=by
 unfold cF cmpI
 by_cases h1:a.Feat<b.Feat
 ·simp [h1]; omega
 ·by_cases h2:b.Feat<a.Feat
  ·simp [h1,h2]
  ·simp [h1,h2]; omega
theorem srtA_up {l:List GArc} (h:Dis l):UpA (srtA l):=by
 have h1:=srt_le cF_ok l
 have h2:Dis (srtA l):=h.perm (q4o l).symm
 refine (List.Pairwise.and h1 h2).imp fun {a b} h=>?_
 have:=cF_le.1 h.1
 have:=h.2
 omega
theorem upA_uniq:∀ {a b:List GArc},UpA a→UpA b→a.Perm b→a=b
 | [],b,_,_,h=>(List.nil_perm.1 h).symm
 | x::a,[],_,_,h=>by have:=h.length_eq; simp at this
 | x::a,y::b,ha,hb,h=>by
  obtain ⟨h1,h2⟩:=List.pairwise_cons.1 ha
  obtain ⟨h3,h4⟩:=List.pairwise_cons.1 hb
  have hxy:x=y:=by
   rcases List.mem_cons.1 (h.mem_iff.1 (List.mem_cons_self)) with hx | hx
   ·exact hx
   ·rcases List.mem_cons.1 (h.mem_iff.2 (List.mem_cons_self)) with hy | hy
    ·exact hy.symm
    ·have h5:=h1 y hy; have h6:=h3 x hx; omega
  subst hxy
  rw [upA_uniq h2 h4 (h.cons_inv)]
theorem srtA_of {l m:List GArc} (hd:Dis l) (h:m.Perm l) (hm:UpA m):srtA l=m:=upA_uniq (srtA_up hd) hm ((q4o l).trans h.symm)
theorem UpA.dis {l:List GArc} (h:UpA l):Dis l:=h.imp fun {a b} h=>by omega
theorem append_L {l:List GArc} (hl:l.length≤1000000):∀ (m i:Nat),l.length - i<m→i≤l.length→q11 l m i (l.take i)=some l
 | 0,i,hm,_=>by omega
 | m+1,i,hm,hi=>by
  unfold q11
  by_cases hlt:i<l.length
  ·obtain ⟨x,hx,_⟩:=q5l hlt
   have hn:((l.take i).length+1)*16≤140737488355328∧(l.take i).length+1≤140737488355328:=by rw [List.length_take]; omega
   simp only [dlt hlt,cond_true,q45,hx,q0s,needO,hn,and_self,if_true,q28,wr1 hlt (show l.length≤9223372036854775807 by omega),← q7h hx]
   exact append_L hl m (i+1) (by omega) (by omega)
  ·simp only [dnlt hlt,cond_false,q27]
   rw [List.take_of_length_le (by omega)]
theorem byF_ok (n:Nat) (a b:GArc):q30 n a b=some (cF a b):=by simp [q30,q8e,q0s,cF]
theorem eqA_refl (x:GArc):eqA x x=true:=by simp [eqA]
theorem sorted_ok {l:List GArc} (hl:l.length≤1000000) (hd:Dis l) {n:Nat} (hn:l.length<n):q1i n l=some (srtA l):=by
 have h1:=append_L hl n 0 (by omega) (by omega)
 rw [Int.ofNat_zero,List.take_zero] at h1
 have h2:=sortO_of eqA_refl (f:=fun a b=>q30 n a b) cF_ok hl (fun x _ y _=>byF_ok n x y) (fun x hx y hy h=>hd.eq x hx y hy (q8d.1 h))
 simp only [q1i,q2u,q2l,h1,q0s,h2,srtA]
structure NOk (x:GNode) (N:Nat):Prop where
 ty:0≤x.Typex
 dis:Dis x.Arcs
 arc:∀ a∈x.Arcs,0≤a.Feat∧0≤a.To∧a.To<N
def GOK (f:GFS):Prop:=∀ x∈f.Nodes,NOk x f.Nodes.length
def nd (f:GFS) (v:Int):GNode:=(f.Nodes[v.toNat]?).getD (GNode.mk 0 [])
def InG (f:GFS) (v:Int):Prop:=0≤v∧v<f.Nodes.length
theorem q9h {f:GFS} {v:Int} (h:InG f v):idxO f.Nodes v=some (nd f v)∧nd f v∈f.Nodes:=by
 have hv:v.toNat<f.Nodes.length:=by have:=h.1; have:=h.2; omega
 have h1:0≤v∧v<(f.Nodes.length:Int):=h
 simp [idxO,h1,nd,hv]
def sar (f:GFS) (v:Int):List GArc:=srtA (nd f v).Arcs
theorem q4v {f:GFS} {v:Int} {a:GArc}:a∈sar f v↔a∈(nd f v).Arcs:=(q4o _).mem_iff
def dfsF (g:List Int→Int→List Int) (o:List Int) (a:GArc):List Int:=if a.To∈o then o else g o a.To
def dfs (f:GFS):Nat→List Int→Int→List Int
 | 0,o,_=>o
 | k+1,o,v=>(sar f v).foldl (dfsF (dfs f k)) (o++[v])
structure Seen (f:GFS) (o:List Int):Prop where
 nd:o.Nodup
 ing:∀ v∈o,InG f v
theorem q6r:∀ (N:Nat) {o:List Int},o.Nodup→(∀ v∈o,0≤v∧v<N)→o.length≤N
 | 0,o,_,h=>by
  cases o with
  | nil=>simp
  | cons v o=>have:=h v (by simp); omega
 | N+1,o,hn,h=>by
  have h1:=q6r N (o:=o.filter (fun v=>v != (N:Int))) (hn.filter _) fun v hv=>by
   rw [List.mem_filter] at hv
   have:=h v hv.1
   have h2:=hv.2
   simp at h2
   omega
  have h2:o.length≤(o.filter (fun v=>v != (N:Int))).length+1:=by
   clear h1 h
   induction o with
   | nil=>simp
   | cons x o ih =>
    obtain ⟨h3,h4⟩:=List.nodup_cons.1 hn
    have:=ih h4
    by_cases e:x=N
    ·subst e
     have:o.filter (fun v=>v != (N:Int))=o:=List.filter_eq_self.2 fun v hv=>by
      simp only [bne_iff_ne,ne_eq]
      intro e; subst e; exact h3 hv
     simp [this]
    ·have e2:(x != (N:Int))=true:=by simpa using e
     rw [List.filter_cons_of_pos (by simpa using e)]
     simp only [List.length_cons]
     omega
  omega
theorem Seen.len {f:GFS} {o:List Int} (h:Seen f o):o.length≤f.Nodes.length:=q6r _ h.nd h.ing
theorem Seen.snoc {f:GFS} {o:List Int} (h:Seen f o) {v:Int} (hv:InG f v) (hn:v ∉ o):Seen f (o++[v]):=⟨by
 rw [List.nodup_append]
 refine ⟨h.nd,by simp,?_⟩
 intro a ha b hb
 simp at hb
 subst hb
 intro e; subst e; exact hn ha,fun u hu=>by
 rcases List.mem_append.1 hu with hu | hu
 ·exact h.ing u hu
 ·simp at hu; subst hu; exact hv⟩
theorem dfs_ok {f:GFS} (hg:GOK f):∀ (k:Nat) (o:List Int) (v:Int),Seen f o→InG f v→v ∉ o→f.Nodes.length - o.length≤k →
  Seen f (dfs f k o v)∧(∃ t,dfs f k o v=o++v::t)∧(∀ u∈dfs f k o v,u ∉ o→∀ a∈(nd f u).Arcs,a.To∈dfs f k o v)∧(∀ k',f.Nodes.length - o.length≤k'→dfs f k' o v=dfs f k o v)
 | 0,o,v,hs,hv,hn,hk=>by
  have h1:=(hs.snoc hv hn).len
  simp only [List.length_append,List.length_cons,List.length_nil] at h1
  omega
 | k+1,o,v,hs,hv,hn,hk=>by
  have hs1:=hs.snoc hv hn
  have hl1:=hs1.len
  simp only [List.length_append,List.length_cons,List.length_nil] at hl1
  have key:∀ (l:List GArc),(∀ a∈l,InG f a.To)→∀ (p:List Int),Seen f p→(∃ t,p=o++v::t)→(∀ u∈p,u ∉ o→u≠v→∀ a∈(nd f u).Arcs,a.To∈p) →
    Seen f (l.foldl (dfsF (dfs f k)) p)∧(∃ t,l.foldl (dfsF (dfs f k)) p=p++t)∧(∀ u∈l.foldl (dfsF (dfs f k)) p,u ∉ o→u≠v→∀ a∈(nd f u).Arcs,a.To∈l.foldl (dfsF (dfs f k)) p)∧(∀ a∈l,a.To∈l.foldl (dfsF (dfs f k)) p) ∧
     (∀ k',f.Nodes.length - (o.length+1)≤k'→l.foldl (dfsF (dfs f k')) p=l.foldl (dfsF (dfs f k)) p):=by
   intro l
   induction l with
   | nil=>intro _ p hp hpre hcl; exact ⟨hp,⟨[],by simp⟩,hcl,⟨fun a ha=>(List.not_mem_nil ha).elim,fun _ _=>rfl⟩⟩
   | cons a l ih =>
    intro hl p hp hpre hcl
    have hla:=hl a (by simp)
    have hll:=fun b hb=>hl b (List.mem_cons_of_mem a hb)
    simp only [List.foldl_cons]
    by_cases hm:a.To∈p
    ·have e:∀ k',dfsF (dfs f k') p a=p:=fun k'=>by simp [dfsF,hm]
     simp only [e]
     obtain ⟨g1,⟨t,g2⟩,g3,g4,g5⟩:=ih hll p hp hpre hcl
     refine ⟨g1,⟨t,g2⟩,g3,fun b hb=>?_,g5⟩
     rcases List.mem_cons.1 hb with rfl | hb
     ·rw [g2]; exact List.mem_append_left _ hm
     ·exact g4 b hb
    ·have e:∀ k',dfsF (dfs f k') p a=dfs f k' p a.To:=fun k'=>by simp [dfsF,hm]
     obtain ⟨t0,hpre⟩:=hpre
     have hpl:o.length+1≤p.length:=by rw [hpre]; simp
     obtain ⟨d1,⟨t1,d2⟩,d3,d4⟩:=dfs_ok hg k p a.To hp hla hm (by omega)
     have hsub:∀ u∈p,u∈dfs f k p a.To:=fun u hu=>by rw [d2]; exact List.mem_append_left _ hu
     obtain ⟨g1,⟨t,g2⟩,g3,g4,g5⟩:=ih hll (dfs f k p a.To) d1 ⟨t0++a.To::t1,by rw [d2,hpre]; simp⟩ (fun u hu h1 h2 b hb=>by
      by_cases hup:u∈p
      ·exact hsub _ (hcl u hup h1 h2 b hb)
      ·exact d3 u hu hup b hb)
     rw [e k]
     refine ⟨g1,⟨a.To::t1++t,by rw [g2,d2]; simp⟩,g3,fun b hb=>?_,fun k' hk'=>?_⟩
     ·rcases List.mem_cons.1 hb with rfl | hb
      ·rw [g2,d2]; simp
      ·exact g4 b hb
     ·rw [e k',d4 k' (by omega)]; exact g5 k' hk'
  have hla:∀ a∈sar f v,InG f a.To:=fun a ha=>by
   have h1:=(hg _ (q9h hv).2).arc a (q4v.1 ha)
   exact ⟨h1.2.1,h1.2.2⟩
  obtain ⟨g1,⟨t,g2⟩,g3,g4,g5⟩:=key (sar f v) hla (o++[v]) hs1 ⟨[],rfl⟩ (fun u hu h1 h2=>by
   rcases List.mem_append.1 hu with hu | hu
   ·exact absurd hu h1
   ·simp at hu; exact absurd hu h2)
  refine ⟨g1,⟨t,by show (sar f v).foldl _ _=_; rw [g2]; simp⟩,fun u hu h1 a ha=>?_,fun k' hk'=>?_⟩
  ·by_cases e:u=v
   ·subst e; exact g4 a (q4v.2 ha)
   ·exact g3 u hu h1 e a ha
  ·cases k' with
   | zero=>omega
   | succ k'=>exact g5 k' (by omega)
def ordG (f:GFS) (r:Int):List Int:=dfs f f.Nodes.length [] r
theorem Seen.nil (f:GFS):Seen f []:=⟨List.nodup_nil,fun v hv=>by cases hv⟩
structure OrdOk (f:GFS) (r:Int) (o:List Int):Prop where
 seen:Seen f o
 head:∃ t,o=r::t
 clo:∀ u∈o,∀ a∈(nd f u).Arcs,a.To∈o
theorem q7c {f:GFS} (hg:GOK f) {r:Int} (hr:InG f r):OrdOk f r (ordG f r)∧∀ k,f.Nodes.length≤k→dfs f k [] r=ordG f r:=by
 obtain ⟨h1,⟨t,h2⟩,h3,h4⟩:=dfs_ok hg f.Nodes.length [] r (Seen.nil f) hr (by simp) (by simp)
 exact ⟨⟨h1,⟨t,by have h5:=h2; rw [List.nil_append] at h5; exact h5⟩,fun u hu=>h3 u hu (by simp)⟩,fun k hk=>h4 k (by simpa using hk)⟩
def arcC (o:List Int) (a:GArc):GArc:=⟨a.Feat,(o.idxOf a.To:Int)⟩
def nodeC (f:GFS) (o:List Int) (v:Int):GNode:=⟨(nd f v).Typex,(sar f v).map (arcC o)⟩
def canonG (f:GFS) (r:Int):GFS:=⟨(ordG f r).map (nodeC f (ordG f r))⟩
structure Rep (w:MapL Int Int) (o:List Int):Prop where
 inv:MInv w
 get:∀ x,aget x w.es=if x∈o then some (o.idxOf x:Int) else none
theorem beqI (a b:Int):(a == b)=true↔a=b:=by simp
theorem Rep.nil:Rep (mNew:MapL Int Int) []:=⟨⟨by simp [mNew],by simp [mNew],by simp [mNew]⟩,fun x=>by simp [mNew,aget]⟩
theorem Rep.snoc {w:MapL Int Int} {o:List Int} (h:Rep w o) {v:Int} (hv:v ∉ o):Rep (mUpd (fun a b=>a == b) w v (o.length:Int)) (o++[v]):=by
 obtain ⟨h1,h2⟩:=upd_ok (eq:=fun a b:Int=>a == b) beqI h.inv v (o.length:Int)
 refine ⟨h1,fun x=>?_⟩
 rw [h2,h.get]
 by_cases e:x=v
 ·subst e
  simp [List.idxOf_append,hv]
 ·by_cases hx:x∈o
  ·simp [e,hx,List.idxOf_append]
  ·simp [e,hx]
theorem Rep.mget {w:MapL Int Int} {o:List Int} (h:Rep w o) (x:Int):mGet (fun a b=>a == b) w x=if x∈o then some (o.idxOf x:Int) else none:=by
 rw [mGet_get (eq:=fun a b:Int=>a == b) beqI,h.get]
theorem visit_ok {f:GFS} {k:Nat} (hg:GOK f) (hf:Small f k) (hk:k≤1000000):∀ (n:Nat) (o:List Int) (v:Int) (w:MapL Int Int),Seen f o→InG f v→v ∉ o→Rep w o→f.Nodes.length - o.length+k+2≤n →
  ∃ w',q15 n v f.Nodes o w=some (dfs f n o v,w')∧Rep w' (dfs f n o v)
 | 0,o,v,w,hs,hv,hn,hw,hfu=>by omega
 | n+1,o,v,w,hs,hv,hn,hw,hfu=>by
  have hs1:=hs.snoc hv hn
  have hl1:=hs1.len
  simp only [List.length_append,List.length_cons,List.length_nil] at hl1
  obtain ⟨hx,hxm⟩:=q9h hv
  have hno:=hg _ hxm
  have hal:=hf.arcs _ hxm
  have hnl:=hf.nodes
  have hsl:(sar f v).length=(nd f v).Arcs.length:=(q4o _).length_eq
  have key:∀ (m i:Nat) (p:List Int) (w:MapL Int Int),(sar f v).length - i<m→i≤(sar f v).length→Seen f p→o.length+1≤p.length→Rep w p →
    ∃ w',q12 f.Nodes (sar f v) (q15 n) m i p w=some (((sar f v).drop i).foldl (dfsF (dfs f n)) p,w')∧Rep w' (((sar f v).drop i).foldl (dfsF (dfs f n)) p):=by
   intro m
   induction m with
   | zero=>intro i p w hm; omega
   | succ m ih =>
    intro i p w hm hi hp hpl hw
    unfold q12
    by_cases hlt:i<(sar f v).length
    ·obtain ⟨a,ha,ham⟩:=q5l hlt
     have h1:=hno.arc a (q4v.1 ham)
     have hw1:IntKind.i64.wrap ((i:Int)+1)=((i+1:Nat):Int):=wr1 hlt (by omega)
     simp only [dlt hlt,cond_true,q45,ha,q0s,hw.mget,drop_cons' ha,List.foldl_cons]
     by_cases hm2:a.To∈p
     ·simp only [hm2,if_true,Option.isSome_some,Bool.not_true,cond_false,q1m,hw1,dfsF]
      exact ih (i+1) p w (by omega) (by omega) hp hpl hw
     ·simp only [hm2,if_false,Option.isSome_none,Bool.not_false,cond_true,q1m,hw1,dfsF]
      obtain ⟨w1,g1,g2⟩:=visit_ok hg hf hk n p a.To w hp ⟨h1.2.1,h1.2.2⟩ hm2 hw (by omega)
      obtain ⟨d1,⟨t,d2⟩,_,_⟩:=dfs_ok hg n p a.To hp ⟨h1.2.1,h1.2.2⟩ hm2 (by omega)
      simp only [g1,q0s]
      exact ih (i+1) _ w1 (by omega) (by omega) d1 (by rw [d2]; simp; omega) g2
    ·rw [drop_nil' hlt]
     simp only [dnlt hlt,cond_false,q2k,List.foldl_nil]
     exact ⟨w,rfl,hw⟩
  have hneed:(o.length+1)*8≤140737488355328∧o.length+1≤140737488355328:=by omega
  obtain ⟨w',g1,g2⟩:=key n 0 (o++[v]) _ (by omega) (by omega) hs1 (by simp) (hw.snoc hn)
  rw [Int.ofNat_zero,List.drop_zero] at g1
  rw [List.drop_zero] at g2
  refine ⟨w',?_,g2⟩
  show q2p n (q15 n) v f.Nodes o w=_
  simp only [q2p,needO,hneed,and_self,if_true,hx,q0s,q25,sorted_ok (show (nd f v).Arcs.length≤1000000 by omega) hno.dis (show (nd f v).Arcs.length<n by omega)]
  exact g1
theorem set_at {α:Type} (a b:List α) (x y:α):(a++x::b).set a.length y=a++y::b:=by simp
theorem build_L2 {f:GFS} {o:List Int} {w:MapL Int Int} {z:Int} {l15:List GNode} {rc:Int→List GNode→Option GFS} {x:Int} {l:List GArc} (hl:l.length≤1000000) (hw:Rep w o) (hin:∀ a∈l,a.To∈o):∀ (m i:Nat),l.length - i<m→i≤l.length →
  q21 f (o,w) z l15 rc x l m i ((l.take i).map (arcC o)++l.drop i)=q2s f (o,w) z l15 rc x (l.map (arcC o))
 | 0,i,hm,_=>by omega
 | m+1,i,hm,hi=>by
  unfold q21
  by_cases hlt:i<l.length
  ·obtain ⟨a,ha,ham⟩:=q5l hlt
   have e1:(((l.take i).map (arcC o)++l.drop i))[i]? = some a:=by
    rw [List.getElem?_append_right (by simp; omega)]
    simp [show min i l.length=i by omega,ha]
   have e2:(((l.take i).map (arcC o)++l.drop i)).set (0+(i:Int).toNat) (arcC o a)=(l.take (i+1)).map (arcC o)++l.drop (i+1):=by
    rw [drop_cons' ha,q7h ha]
    have h3:((l.take i).map (arcC o)).length=i:=by simp; omega
    have:=set_at ((l.take i).map (arcC o)) (l.drop (i+1)) a (arcC o a)
    rw [h3] at this
    rw [Nat.zero_add,Int.toNat_natCast,this,List.map_append,List.map_cons,List.map_nil,List.append_assoc]
    rfl
   have e3:(⟨a.Feat,((if a.To∈o then some (o.idxOf a.To:Int) else none).getD 0)⟩:GArc)=arcC o a:=by simp [hin a ham,arcC]
   simp only [dlt hlt,cond_true,q45,e1,q0s,hw.mget,e3,e2,wr1 hlt (show l.length≤9223372036854775807 by omega)]
   exact build_L2 hl hw hin m (i+1) (by omega) (by omega)
  ·simp only [dnlt hlt,cond_false]
   rw [List.take_of_length_le (by omega),List.drop_eq_nil_of_le (by omega),List.append_nil]
theorem build_L1 {f:GFS} {k:Nat} (hg:GOK f) (hf:Small f k) (hk:k≤1000000) {n:Nat} (hn:k+2≤n) {r:Int} {o:List Int} {w:MapL Int Int} (ho:OrdOk f r o) (hw:Rep w o):∀ (m i:Nat),o.length - i<m→i≤o.length →
  q1f f n (o,w) m i ((o.take i).map (nodeC f o)++List.replicate (o.length - i) (GNode.mk 0 []))=some ⟨o.map (nodeC f o)⟩
 | 0,i,hm,_=>by omega
 | m+1,i,hm,hi=>by
  have hol:=ho.seen.len
  have hnl:=hf.nodes
  unfold q1f
  by_cases hlt:i<o.length
  ·obtain ⟨v,hv,hvm⟩:=q5l hlt
   obtain ⟨hx,hxm⟩:=q9h (ho.seen.ing v hvm)
   have hno:=hg _ hxm
   have hal:=hf.arcs _ hxm
   have hsl:(sar f v).length=(nd f v).Arcs.length:=(q4o _).length_eq
   have h2:=build_L2 (f:=f) (z:=(i:Int)) (l15:=(o.take i).map (nodeC f o)++List.replicate (o.length - i) (GNode.mk 0 [])) (rc:=q1f f n (o,w) m) (x:=v) (l:=sar f v) (by omega) hw (fun a ha=>ho.clo v hvm a (q4v.1 ha)) n 0 (by omega) (by omega)
   rw [Int.ofNat_zero,List.take_zero,List.map_nil,List.nil_append,List.drop_zero] at h2
   have h3:((o.take i).map (nodeC f o)).length=i:=by simp; omega
   have e0:o.length - i=(o.length - (i+1))+1:=by omega
   have e1:idxV ((o.take i).map (nodeC f o)++List.replicate (o.length - i) (GNode.mk 0 [])) 0 ((o.length:Int).toNat) (i:Int)=some (GNode.mk 0 []):=by
    have hi:0≤(i:Int)∧(i:Int)<(((o.length:Int).toNat:Nat):Int):=by rw [Int.toNat_natCast]; omega
    rw [idxV,if_pos hi,Nat.zero_add,Int.toNat_natCast,List.getElem?_append_right (by omega),h3,e0]
    simp
   have e2:((o.take i).map (nodeC f o)++List.replicate (o.length - i) (GNode.mk 0 [])).set (i:Int).toNat (nodeC f o v)=(o.take (i+1)).map (nodeC f o)++List.replicate (o.length - (i+1)) (GNode.mk 0 []):=by
    rw [e0,List.replicate_succ,q7h hv]
    have:=set_at ((o.take i).map (nodeC f o)) (List.replicate (o.length - (i+1)) (GNode.mk 0 [])) (GNode.mk 0 []) (nodeC f o v)
    rw [h3] at this
    simp only [Int.toNat_natCast]
    rw [this]
    simp
   have e3:(⟨(nd f v).Typex,(sar f v).map (arcC o)⟩:GNode)=nodeC f o v:=rfl
   have hso:=sorted_ok (show (nd f v).Arcs.length≤1000000 by omega) hno.dis (show (nd f v).Arcs.length<n by omega)
   simp only [dlt hlt,cond_true,q45,hv,hx,q0s,q25,hso]
   show q21 f (o,w) i _ _ v (sar f v) n 0 (sar f v)=_
   rw [h2]
   simp only [q2s,hx,q0s,e1,e3,wr1 hlt (show o.length≤9223372036854775807 by omega)]
   rw [e2]
   exact build_L1 hg hf hk hn ho hw m (i+1) (by omega) (by omega)
  ·have e:((o.length:Int)).toNat=((o.take i).map (nodeC f o)++List.replicate (o.length - i) (GNode.mk 0 [])).length:=by simp; omega
   simp only [dnlt hlt,cond_false,q3h,needO,← e,if_true]
   rw [List.take_of_length_le (by omega),show o.length - i=0 by omega]
   simp
theorem canonical_ok {f:GFS} {k:Nat} (hg:GOK f) (hf:Small f k) (hk:k≤1000000) {r:Int} (hr:InG f r) {n:Nat} (hn:2*k+4≤n):q2n n f r=some (canonG f r):=by
 obtain ⟨ho,hst⟩:=q7c hg hr
 have hnl:=hf.nodes
 obtain ⟨w,g1,g2⟩:=visit_ok hg hf hk n [] r mNew (Seen.nil f) hr (by simp) Rep.nil (by simp; omega)
 rw [hst n (by omega)] at g1 g2
 have hol:=ho.seen.len
 have h1:=build_L1 hg hf hk (show k+2≤n by omega) ho g2 n 0 (by omega) (by omega)
 rw [Int.ofNat_zero,List.take_zero,List.map_nil,List.nil_append,Nat.sub_zero] at h1
 have hneed:0≤((ordG f r).length:Int)∧32*((ordG f r).length:Int).toNat≤281474976710656∧((ordG f r).length:Int)≤281474976710656:=by simp; omega
 simp only [q2n,g1,q0s,needO,hneed,and_self,if_true]
 rw [Int.toNat_natCast]
 exact h1
end Go.Proofs
end
section
namespace Go.Proofs
open Go Go.Rx Go.Vx Go.Shelf Go.Sort
set_option linter.unusedVariables false
set_option linter.unusedSimpArgs false
set_option maxRecDepth 10000
def errA (N:Nat) (seen:List Int):List GArc→Int
 | []=>0
 | a::l=>if a.Feat<0∨a.To<0∨a.To ≥ (N:Int) then 2 else if a.Feat∈seen then 4 else errA N (a.Feat::seen) l
def errN (N:Nat) (x:GNode):Int:=if x.Typex<0 then 2 else errA N [] x.Arcs
structure RepB (w:MapL Int Bool) (o:List Int):Prop where
 inv:MInv w
 get:∀ x,aget x w.es=if x∈o then some true else none
theorem RepB.nil:RepB (mNew:MapL Int Bool) []:=⟨⟨by simp [mNew],by simp [mNew],by simp [mNew]⟩,fun x=>by simp [mNew,aget]⟩
theorem RepB.cons {w:MapL Int Bool} {o:List Int} (h:RepB w o) (v:Int):RepB (mUpd (fun a b=>a == b) w v true) (v::o):=by
 obtain ⟨h1,h2⟩:=upd_ok (eq:=fun a b:Int=>a == b) beqI h.inv v true
 refine ⟨h1,fun x=>?_⟩
 rw [h2,h.get]
 by_cases e:x=v
 ·simp [e]
 ·by_cases hx:x∈o<;>simp [e,hx]
theorem RepB.mget {w:MapL Int Bool} {o:List Int} (h:RepB w o) (x:Int):(mGet (fun a b=>a == b) w x).getD false=decide (x∈o):=by
 rw [mGet_get (eq:=fun a b:Int=>a == b) beqI,h.get]
 by_cases hx:x∈o<;>simp [hx]
theorem nodeErr_L {x:GNode} {N:Nat} (hl:x.Arcs.length≤1000000):∀ (m i:Nat) (w:MapL Int Bool) (o:List Int),x.Arcs.length - i<m→i≤x.Arcs.length→RepB w o →
  q2g x N m i w=some (errA N o (x.Arcs.drop i))
 | 0,i,w,o,hm,_,_=>by omega
 | m+1,i,w,o,hm,hi,hw=>by
  unfold q2g
  by_cases hlt:i<x.Arcs.length
  ·obtain ⟨a,ha,_⟩:=q5l hlt
   simp only [dlt hlt,cond_true,q45,ha,q0s,drop_cons' ha,errA,hw.mget,wr1 hlt (show x.Arcs.length≤9223372036854775807 by omega)]
   by_cases h1:a.Feat<0
   ·simp [h1,q0s]
   ·by_cases h2:a.To<0
    ·simp [h1,h2,q0s]
    ·by_cases h3:a.To ≥ (N:Int)
     ·simp [h1,h2,h3,q0s]
     ·simp only [h1,h2,h3,decide_false,cond_false,q0s,or_self,if_false]
      by_cases h4:a.Feat∈o
      ·simp [h4]
      ·simp only [h4,decide_false,cond_false,if_false]
       exact nodeErr_L hl m (i+1) _ _ (by omega) (by omega) (hw.cons _)
  ·simp only [dnlt hlt,cond_false,q3i,drop_nil' hlt,errA]
theorem nodeErr_ok {x:GNode} {N n:Nat} (hl:x.Arcs.length≤1000000) (hn:x.Arcs.length<n):q31 n x N=some (errN N x):=by
 have h:=nodeErr_L (N:=N) hl n 0 mNew [] (by omega) (by omega) RepB.nil
 rw [Int.ofNat_zero,List.drop_zero] at h
 simp only [q31,h,errN]
 by_cases h1:x.Typex<0<;>simp [h1]
theorem errA_zero {N:Nat}:∀ {l:List GArc} {seen:List Int},errA N seen l=0↔(∀ a∈l,0≤a.Feat∧0≤a.To∧a.To<N)∧Dis l∧∀ a∈l,a.Feat ∉ seen
 | [],seen=>by simp [errA,Dis]
 | a::l,seen=>by
  simp only [errA]
  by_cases h1:a.Feat<0∨a.To<0∨a.To ≥ (N:Int)
  ·simp only [h1,if_true]
   refine ⟨fun h=>absurd h (by decide),fun h=>?_⟩
   have:=h.1 a (by simp)
   omega
  ·by_cases h2:a.Feat∈seen
   ·simp only [h1,h2,if_true,if_false]
    exact ⟨fun h=>absurd h (by decide),fun h=>absurd h2 (h.2.2 a (by simp))⟩
   ·simp only [h1,h2,if_false]
    rw [errA_zero (l:=l)]
    unfold Dis
    rw [List.pairwise_cons]
    constructor
    ·rintro ⟨g1,g2,g3⟩
     refine ⟨fun b hb=>?_,⟨fun b hb=>?_,g2⟩,fun b hb=>?_⟩
     ·rcases List.mem_cons.1 hb with rfl | hb
      ·omega
      ·exact g1 b hb
     ·have:=g3 b hb
      simp only [List.mem_cons,not_or] at this
      exact fun e=>this.1 e.symm
     ·rcases List.mem_cons.1 hb with rfl | hb
      ·exact h2
      ·have:=g3 b hb
       simp only [List.mem_cons,not_or] at this
       exact this.2
    ·rintro ⟨g1,⟨g2,g3⟩,g4⟩
     refine ⟨fun b hb=>g1 b (by simp [hb]),g3,fun b hb=>?_⟩
     simp only [List.mem_cons,not_or]
     exact ⟨fun e=>g2 b hb e.symm,g4 b (by simp [hb])⟩
theorem qao {N:Nat} {x:GNode}:errN N x=0↔NOk x N:=by
 unfold errN
 by_cases h:x.Typex<0
 ·simp only [h,if_true]
  exact ⟨fun h=>absurd h (by decide),fun h'=>by have:=h'.ty; omega⟩
 ·simp only [h,if_false]
  rw [errA_zero]
  exact ⟨fun ⟨h1,h2,_⟩=>⟨by omega,h2,h1⟩,fun h=>⟨h.arc,h.dis,fun _ _=>by simp⟩⟩
def errL (N:Nat):List GNode→Int
 | []=>0
 | x::l=>if errN N x≠0 then errN N x else errL N l
theorem qan {N:Nat}:∀ {l:List GNode},errL N l=0↔∀ x∈l,NOk x N
 | []=>by simp [errL]
 | x::l=>by
  simp only [errL]
  by_cases h:errN N x=0
  ·simp only [h,ne_eq,not_true,if_false,qan (l:=l),List.mem_cons,forall_eq_or_imp,qao.1 h,true_and]
  ·simp only [h,ne_eq,not_false_eq_true,if_true,List.mem_cons,forall_eq_or_imp,false_iff,not_and]
   exact fun h2=>absurd (qao.2 h2) h
def errG (f:GFS):Int:=if f.Nodes.length=0 then 1 else if f.Nodes.length > 4096 then 7 else errL f.Nodes.length f.Nodes
theorem Canon_L {f:GFS} {k:Nat} (hf:Small f k) (hk:k≤1000000) {n:Nat} (hn:2*k+4≤n) (h0:0<f.Nodes.length) (hfull:errL f.Nodes.length f.Nodes=0→GOK f):∀ (m i:Nat),f.Nodes.length - i<m→i≤f.Nodes.length→(∀ x∈f.Nodes.take i,NOk x f.Nodes.length) →
  q3b f n m i=some (if errL f.Nodes.length (f.Nodes.drop i)=0 then (canonG f 0,0) else (⟨[]⟩,errL f.Nodes.length (f.Nodes.drop i)))
 | 0,i,hm,_,_=>by omega
 | m+1,i,hm,hi,hok=>by
  have hnl:=hf.nodes
  unfold q3b
  by_cases hlt:i<f.Nodes.length
  ·obtain ⟨x,hx,hxm⟩:=q5l hlt
   have hal:=hf.arcs x hxm
   simp only [dlt hlt,cond_true,q45,hx,q0s,nodeErr_ok (N:=f.Nodes.length) (show x.Arcs.length≤1000000 by omega) (show x.Arcs.length<n by omega),drop_cons' hx,errL,wr1 hlt (show f.Nodes.length≤9223372036854775807 by omega)]
   by_cases h:errN f.Nodes.length x=0
   ·simp only [h,bne_self_eq_false,cond_false,ne_eq,not_true,if_false]
    refine Canon_L hf hk hn h0 hfull m (i+1) (by omega) (by omega) fun y hy=>?_
    rw [q7h hx] at hy
    rcases List.mem_append.1 hy with hy | hy
    ·exact hok y hy
    ·simp at hy; subst hy; exact qao.1 h
   ·have hb:(errN f.Nodes.length x != 0)=true:=by simpa using h
    simp only [hb,cond_true,h,ne_eq,not_false_eq_true,if_true,if_false]
  ·simp only [dnlt hlt,cond_false,q4x,drop_nil' hlt,errL,if_true]
   have hg:GOK f:=fun x hx=>hok x (by rw [List.take_of_length_le (by omega)]; exact hx)
   rw [canonical_ok hg hf hk ⟨by omega,by omega⟩ hn,q0s]
theorem Canon_ok {f:GFS} {k:Nat} (hf:Small f k) (hk:k≤1000000) {n:Nat} (hn:2*k+4≤n):q2v n f=some (if errG f=0 then (canonG f 0,0) else (⟨[]⟩,errG f)):=by
 have hnl:=hf.nodes
 unfold q2v errG
 by_cases h0:f.Nodes.length=0
 ·simp [h0]
 ·have e0:((f.Nodes.length:Int) == 0)=false:=by simp; intro h; simp [h] at h0
  simp only [e0,cond_false,h0,if_false]
  by_cases h1:f.Nodes.length > 4096
  ·have:(f.Nodes.length:Int) > 4096:=by omega
   simp [h1,this]
  ·have:¬ (f.Nodes.length:Int) > 4096:=by omega
   simp only [h1,this,decide_false,cond_false,if_false]
   have h:=Canon_L hf hk hn (by omega) (fun h=>qan.1 h) n 0 (by omega) (by omega) (by simp)
   rw [Int.ofNat_zero,List.drop_zero] at h
   exact h
theorem errG_zero {f:GFS}:errG f=0↔f.Nodes.length≠0∧f.Nodes.length≤4096∧GOK f:=by
 unfold errG
 by_cases h0:f.Nodes.length=0
 ·simp [h0]
 ·by_cases h1:f.Nodes.length > 4096
  ·simp [h0,h1]; intro _; omega
  ·simp only [h0,h1,if_false,qan]
   exact ⟨fun h=>⟨by simpa using h0,by omega,h⟩,fun h=>h.2.2⟩
structure Sim (f g:GFS) (π:Int→Int) (S:Int→Prop):Prop where
 clo:∀ v,S v→∀ a∈sar f v,S a.To
 inj:∀ u v,S u→S v→π u=π v→u=v
 ty:∀ v,S v→(nd g (π v)).Typex=(nd f v).Typex
 arc:∀ v,S v→sar g (π v)=(sar f v).map fun a=>⟨a.Feat,π a.To⟩
theorem Sim.dfs {f g:GFS} {π:Int→Int} {S:Int→Prop} (h:Sim f g π S):∀ (k:Nat) (o:List Int) (v:Int),S v→(∀ u∈o,S u)→dfs g k (o.map π) (π v)=(Go.Proofs.dfs f k o v).map π∧∀ u∈Go.Proofs.dfs f k o v,S u
 | 0,o,v,hv,ho=>⟨rfl,ho⟩
 | k+1,o,v,hv,ho=>by
  have key:∀ (l:List GArc) (p:List Int),(∀ a∈l,S a.To)→(∀ u∈p,S u) →
    (l.map fun a=>(⟨a.Feat,π a.To⟩:GArc)).foldl (dfsF (Go.Proofs.dfs g k)) (p.map π)=(l.foldl (dfsF (Go.Proofs.dfs f k)) p).map π∧∀ u∈l.foldl (dfsF (Go.Proofs.dfs f k)) p,S u:=by
   intro l
   induction l with
   | nil=>intro p _ hp; exact ⟨rfl,hp⟩
   | cons a l ih =>
    intro p hl hp
    have hla:=hl a (by simp)
    simp only [List.map_cons,List.foldl_cons]
    have hm:π a.To∈p.map π↔a.To∈p:=by
     rw [List.mem_map]
     exact ⟨fun ⟨u,hu,e⟩=>by rw [← h.inj u a.To (hp u hu) hla e]; exact hu,fun hu=>⟨_,hu,rfl⟩⟩
    by_cases hin:a.To∈p
    ·have e1:dfsF (Go.Proofs.dfs g k) (p.map π) (⟨a.Feat,π a.To⟩:GArc)=p.map π:=by simp only [dfsF,hm.2 hin,if_true]
     have e2:dfsF (Go.Proofs.dfs f k) p a=p:=by simp only [dfsF,hin,if_true]
     rw [e1,e2]
     exact ih p (fun b hb=>hl b (List.mem_cons_of_mem _ hb)) hp
    ·have e1:dfsF (Go.Proofs.dfs g k) (p.map π) (⟨a.Feat,π a.To⟩:GArc)=Go.Proofs.dfs g k (p.map π) (π a.To):=by simp only [dfsF,mt hm.1 hin,if_false]
     have e2:dfsF (Go.Proofs.dfs f k) p a=Go.Proofs.dfs f k p a.To:=by simp only [dfsF,hin,if_false]
     obtain ⟨g1,g2⟩:=Sim.dfs h k p a.To hla hp
     rw [e1,e2,g1]
     exact ih _ (fun b hb=>hl b (List.mem_cons_of_mem _ hb)) g2
  have ho1:∀ u∈o++[v],S u:=fun u hu=>by
   rcases List.mem_append.1 hu with hu | hu
   ·exact ho u hu
   ·simp at hu; subst hu; exact hv
  have:=key (sar f v) (o++[v]) (h.clo v hv) ho1
  refine ⟨?_,this.2⟩
  show (sar g (π v)).foldl _ (o.map π++[π v])=_
  have e:=this.1
  simp only [List.map_append,List.map_cons,List.map_nil] at e
  rw [h.arc v hv]
  exact e
theorem idxOf_map {π:Int→Int}:∀ {o:List Int} {x:Int},(∀ u∈o,π u=π x→u=x)→(o.map π).idxOf (π x)=o.idxOf x
 | [],x,_=>rfl
 | u::o,x,h=>by
  simp only [List.map_cons,List.idxOf_cons]
  have ih:=idxOf_map (o:=o) (x:=x) fun w hw=>h w (List.mem_cons_of_mem _ hw)
  by_cases e:u=x
  ·subst e; simp
  ·have e2:¬ π u=π x:=fun h2=>e (h u (by simp) h2)
   have e3:(u == x)=false:=by simpa using e
   have e4:(π u == π x)=false:=by simpa using e2
   simp only [e3,e4,cond_false,ih]
theorem Sim.canon {f g:GFS} {π:Int→Int} {S:Int→Prop} (h:Sim f g π S) (hf:GOK f) (hg:GOK g) {r:Int} (hr:InG f r) (hS:S r) (hr':InG g (π r)):ordG g (π r)=(ordG f r).map π∧canonG g (π r)=canonG f r:=by
 obtain ⟨o1,s1⟩:=q7c hf hr
 obtain ⟨o2,s2⟩:=q7c hg hr'
 have h1:=h.dfs (f.Nodes.length+g.Nodes.length) [] r hS (by simp)
 rw [List.map_nil,s1 _ (by omega),s2 _ (by omega)] at h1
 refine ⟨h1.1,?_⟩
 unfold canonG
 rw [h1.1,List.map_map]
 congr 1
 refine List.map_congr_left fun v hv=>?_
 have hSv:=h1.2 v hv
 simp only [Function.comp,nodeC,h.ty v hSv,h.arc v hSv,List.map_map]
 congr 1
 refine List.map_congr_left fun a ha=>?_
 have hSa:=h.clo v hSv a ha
 simp only [Function.comp,arcC]
 rw [idxOf_map fun u hu e=>h.inj u a.To (h1.2 u hu) hSa e]
theorem srtA_id {l:List GArc} (h:UpA l):srtA l=l:=srtA_of h.dis (List.Perm.refl _) h
theorem q5x {o:List Int} {v:Int} (h:v∈o):o[o.idxOf v]? = some v:=by
 have h1:=List.idxOf_lt_length_of_mem h
 rw [List.getElem?_eq_getElem h1,List.getElem_idxOf]
structure CanOk (f:GFS) (r:Int) (c:GFS):Prop where
 len:c.Nodes.length=(ordG f r).length
 le:c.Nodes.length≤f.Nodes.length
 pos:0<c.Nodes.length
 ok:GOK c
 at_:∀ v∈ordG f r,nd c ((ordG f r).idxOf v:Int)=nodeC f (ordG f r) v
 up:∀ x∈c.Nodes,UpA x.Arcs
 sim:Sim f c (fun v=>((ordG f r).idxOf v:Int)) (fun v=>v∈ordG f r)
theorem up_map {o:List Int} {l:List GArc} (h:UpA l):UpA (l.map (arcC o)):=by
 unfold UpA at *
 rw [List.pairwise_map]
 exact h
theorem q96 {f:GFS} (hf:GOK f) {r:Int} (hr:InG f r):CanOk f r (canonG f r):=by
 obtain ⟨o1,_⟩:=q7c hf hr
 have hat:∀ v∈ordG f r,nd (canonG f r) ((ordG f r).idxOf v:Int)=nodeC f (ordG f r) v:=fun v hv=>by
  simp only [nd,canonG,Int.toNat_natCast,List.getElem?_map,q5x hv,Option.map_some,Option.getD_some]
 have hin:∀ v∈ordG f r,InG f v:=o1.seen.ing
 have hup:∀ v∈ordG f r,UpA (nodeC f (ordG f r) v).Arcs:=fun v hv=>up_map (srtA_up (hf _ (q9h (hin v hv)).2).dis)
 refine ⟨by simp [canonG],by simp only [canonG,List.length_map]; exact o1.seen.len,?_,?_,hat,?_,?_⟩
 ·obtain ⟨t,ht⟩:=o1.head
  simp [canonG,ht]
 ·intro x hx
  simp only [canonG,List.mem_map] at hx
  obtain ⟨v,hv,rfl⟩:=hx
  have hn:=hf _ (q9h (hin v hv)).2
  refine ⟨hn.ty,(hup v hv).dis,fun a ha=>?_⟩
  simp only [nodeC,List.mem_map] at ha
  obtain ⟨b,hb,rfl⟩:=ha
  have hb':=q4v.1 hb
  refine ⟨(hn.arc b hb').1,by simp only [arcC]; omega,?_⟩
  have:=List.idxOf_lt_length_of_mem (o1.clo v hv b hb')
  simp only [arcC,canonG,List.length_map]
  omega
 ·intro x hx
  simp only [canonG,List.mem_map] at hx
  obtain ⟨v,hv,rfl⟩:=hx
  exact hup v hv
 ·refine ⟨fun v hv a ha=>o1.clo v hv a (q4v.1 ha),fun u v hu hv e=>?_,fun v hv=>?_,fun v hv=>?_⟩
  ·have h1:=q5x hu
   have h2:=q5x hv
   have e':(ordG f r).idxOf u=(ordG f r).idxOf v:=Int.ofNat.inj e
   rw [e',h2] at h1
   exact (Option.some.inj h1).symm
  ·simp only [hat v hv,nodeC]
  ·simp only [sar,hat v hv]
   rw [srtA_id (hup v hv)]
   rfl
theorem Small.canon {f:GFS} {k:Nat} (hs:Small f k) (hf:GOK f) {r:Int} (hr:InG f r):Small (canonG f r) k:=by
 have hc:=q96 hf hr
 obtain ⟨o1,_⟩:=q7c hf hr
 refine ⟨Nat.le_trans hc.le hs.nodes,fun x hx=>?_⟩
 simp only [canonG,List.mem_map] at hx
 obtain ⟨v,hv,rfl⟩:=hx
 simp only [nodeC,List.length_map,sar]
 rw [(q4o _).length_eq]
 exact hs.arcs _ (q9h (o1.seen.ing v hv)).2
end Go.Proofs
end
section
namespace Go.Proofs
open Go Go.Rx Go.Vx Go.Shelf Go.Sort
set_option linter.unusedVariables false
set_option linter.unusedSimpArgs false
set_option maxRecDepth 10000
def pat (p:List Int) (v:Int):Int:=(p[v.toNat]?).getD 0
end Go.Proofs
end
section
namespace Go.Proofs
open Go Go.Rx Go.Vx Go.Shelf Go.Sort
set_option linter.unusedVariables false
set_option linter.unusedSimpArgs false
set_option maxRecDepth 10000
inductive Rch (f:GFS):Int→Int→Prop
 | one {u:Int} {a:GArc}:a∈(nd f u).Arcs→Rch f u a.To
 | snoc {u v:Int} {a:GArc}:Rch f u v→a∈(nd f v).Arcs→Rch f u a.To
theorem Rch.trans {f:GFS} {u v w:Int} (h:Rch f u v) (h':Rch f v w):Rch f u w:=by
 induction h' with
 | one ha=>exact .snoc h ha
 | snoc _ ha ih=>exact .snoc ih ha
end Go.Proofs
end
section
namespace Go.Proofs
open Go Go.Rx Go.Vx Go.Shelf Go.Sort
set_option linter.unusedVariables false
set_option linter.unusedSimpArgs false
set_option maxRecDepth 10000
theorem idxOf_at {o:List Int} (hn:o.Nodup) {i:Nat} (hi:i<o.length):o.idxOf o[i]=i:=by
 have h1:o[i]∈o:=List.getElem_mem hi
 have h2:=q5x h1
 obtain ⟨h3,h4⟩:=List.getElem?_eq_some_iff.1 h2
 exact (List.getElem_inj hn).1 h4
end Go.Proofs
end
section
namespace Go.Proofs
open Go Go.Rx Go.Vx Go.Shelf Go.Sort
set_option linter.unusedVariables false
set_option linter.unusedSimpArgs false
set_option maxRecDepth 10000
structure RepN (f:GFS) (w:List Int) (o:List Int):Prop where
 len:w.length=f.Nodes.length
 get:∀ x,InG f x→idxO w x=some (if x∈o then (o.idxOf x:Int) else -1)
theorem RepN.snoc {f:GFS} {w o:List Int} (h:RepN f w o) {v:Int} (hv:InG f v) (hn:v ∉ o):RepN f (w.set (0+v.toNat) (o.length:Int)) (o++[v]):=by
 refine ⟨by simp [h.len],fun x hx=>?_⟩
 have hvl:v.toNat<w.length:=by rw [h.len]; have:=hv.1; have:=hv.2; omega
 have hc:0≤x∧x<((w.set (0+v.toNat) (o.length:Int)).length:Int):=by rw [List.length_set,h.len]; exact hx
 have h2:=h.get x hx
 have hc2:0≤x∧x<(w.length:Int):=by rw [h.len]; exact hx
 rw [idxO,if_pos hc2] at h2
 rw [idxO,if_pos hc,Nat.zero_add]
 by_cases e:x=v
 ·subst e
  simp [List.idxOf_append,hn,hvl]
 ·rw [List.getElem?_set_ne (by have:=hx.1; have:=hv.1; omega),h2]
  by_cases hxo:x∈o
  ·simp [hxo,List.idxOf_append]
  ·simp [hxo,e]
end Go.Proofs
end
section
namespace Go.Proofs
open Go Go.Rx Go.Vx Go.Shelf Go.Sort
set_option linter.unusedVariables false
set_option linter.unusedSimpArgs false
set_option maxRecDepth 10000
structure IsoP (f g:GFS) (φ:Int→Int) (S:Int→Prop):Prop where
 sim:Sim f g φ S
 s0:S 0
 p0:φ 0=0
 ing:∀ v,S v→InG f v∧InG g (φ v)
def Iso (f g:GFS):Prop:=∃ φ S,IsoP f g φ S
theorem Iso.canon {f g:GFS} (hf:GOK f) (hg:GOK g) (h:Iso f g):canonG f 0=canonG g 0:=by
 obtain ⟨φ,S,h⟩:=h
 have h0:=h.ing 0 h.s0
 have:=(h.sim.canon hf hg h0.1 h.s0 h0.2).2
 rw [h.p0] at this
 exact this.symm
theorem iso_self {f:GFS} (hf:GOK f) (h0:InG f 0):Iso f (canonG f 0):=by
 have hc:=q96 hf h0
 obtain ⟨o1,_⟩:=q7c hf h0
 obtain ⟨t,ht⟩:=o1.head
 refine ⟨_,_,hc.sim,by rw [ht]; simp,by rw [ht]; simp,fun v hv=>⟨o1.seen.ing v hv,?_⟩⟩
 have:=List.idxOf_lt_length_of_mem hv
 have hl:=hc.len
 exact ⟨by omega,by omega⟩
theorem iso_of {f g:GFS} (hf:GOK f) (hg:GOK g) (hf0:InG f 0) (hg0:InG g 0) (e:canonG f 0=canonG g 0):Iso f g:=by
 have cf:=q96 hf hf0
 have cg:=q96 hg hg0
 obtain ⟨of1,_⟩:=q7c hf hf0
 obtain ⟨og1,_⟩:=q7c hg hg0
 obtain ⟨tf,htf⟩:=of1.head
 obtain ⟨tg,htg⟩:=og1.head
 have hlen:(ordG f 0).length=(ordG g 0).length:=by rw [← cf.len,← cg.len,e]
 have hat:∀ v∈ordG f 0,∃ w,pat (ordG g 0) ((ordG f 0).idxOf v:Int)=w∧w∈ordG g 0∧(ordG g 0).idxOf w=(ordG f 0).idxOf v:=fun v hv=>by
  have h1:=List.idxOf_lt_length_of_mem hv
  have h2:(ordG f 0).idxOf v<(ordG g 0).length:=by omega
  refine ⟨(ordG g 0)[(ordG f 0).idxOf v],?_,List.getElem_mem h2,idxOf_at og1.seen.nd h2⟩
  simp [pat,h2]
 refine ⟨fun v=>pat (ordG g 0) ((ordG f 0).idxOf v:Int),fun v=>v∈ordG f 0,⟨fun v hv a ha=>of1.clo v hv a (q4v.1 ha),fun u v hu hv e2=>?_,fun v hv=>?_,fun v hv=>?_⟩,by rw [htf]; simp,by rw [htf,htg]; simp [pat],fun v hv=>⟨of1.seen.ing v hv,?_⟩⟩
 ·obtain ⟨w,e1,_,e3⟩:=hat u hu
  obtain ⟨w',e1',_,e3'⟩:=hat v hv
  have e2':pat (ordG g 0) ((ordG f 0).idxOf u:Int)=pat (ordG g 0) ((ordG f 0).idxOf v:Int):=e2
  rw [e1,e1'] at e2'
  subst e2'
  have h1:=q5x hu
  have h2:=q5x hv
  rw [← e3,e3',h2] at h1
  exact (Option.some.inj h1).symm
 ·obtain ⟨w,e1,hw,e3⟩:=hat v hv
  have h1:=cf.at_ v hv
  have h2:=cg.at_ w hw
  rw [e3,← e,h1] at h2
  have:=congrArg GNode.Typex h2
  simp only [nodeC] at this
  simp only [e1,this]
 ·obtain ⟨w,e1,hw,e3⟩:=hat v hv
  have h1:=cf.at_ v hv
  have h2:=cg.at_ w hw
  rw [e3,← e,h1] at h2
  have h3:=congrArg GNode.Arcs h2
  simp only [nodeC] at h3
  simp only [e1]
  have h4:=congrArg (List.map fun a:GArc=>(⟨a.Feat,pat (ordG g 0) a.To⟩:GArc)) h3
  rw [List.map_map,List.map_map] at h4
  have h5:(sar g w).map ((fun a:GArc=>(⟨a.Feat,pat (ordG g 0) a.To⟩:GArc)) ∘ arcC (ordG g 0))=sar g w:=by
   have:∀ a∈sar g w,((fun a:GArc=>(⟨a.Feat,pat (ordG g 0) a.To⟩:GArc)) ∘ arcC (ordG g 0)) a=a:=fun a ha=>by
    have hto:=og1.clo w hw a (q4v.1 ha)
    have:=q5x hto
    simp only [Function.comp,arcC,pat,Int.toNat_natCast,this,Option.getD_some]
   rw [List.map_congr_left this]
   simp
  rw [h5] at h4
  rw [← h4]
  rfl
 ·obtain ⟨w,e1,hw,_⟩:=hat v hv
  simp only [e1]
  exact og1.seen.ing w hw
theorem arc_L1 {feat:Int} {x:GNode} (hl:x.Arcs.length≤1000000):∀ (m i:Nat),x.Arcs.length - i<m→i≤x.Arcs.length→∃ r,q4f feat x m i=some r∧(r.2=true→∃ y∈x.Arcs,y.Feat=feat∧y.To=r.1)∧(r.2=false→∀ y∈x.Arcs.drop i,y.Feat≠feat)
 | 0,i,hm,_=>by omega
 | m+1,i,hm,hi=>by
  unfold q4f
  by_cases hlt:i<x.Arcs.length
  ·obtain ⟨a,ha,ham⟩:=q5l hlt
   simp only [dlt hlt,cond_true,q45,ha,q0s,wr1 hlt (show x.Arcs.length≤9223372036854775807 by omega)]
   by_cases e:a.Feat=feat
   ·have e2:(a.Feat == feat)=true:=by simpa using e
    simp only [e2,cond_true]
    exact ⟨_,rfl,fun _=>⟨a,ham,e,rfl⟩,fun h=>by cases h⟩
   ·have e2:(a.Feat == feat)=false:=by simpa using e
    simp only [e2,cond_false]
    obtain ⟨r,h1,h2,h3⟩:=arc_L1 hl m (i+1) (by omega) (by omega)
    refine ⟨r,h1,h2,fun h y hy=>?_⟩
    rw [drop_cons' ha] at hy
    rcases List.mem_cons.1 hy with rfl | hy
    ·exact e
    ·exact h3 h y hy
  ·simp only [dnlt hlt,cond_false,q66,drop_nil' hlt]
   exact ⟨_,rfl,(fun h=>by cases h),fun _ y hy=>(List.not_mem_nil hy).elim⟩
theorem arc_ok {g:GFS} {w feat:Int} (hw:InG g w) (hl:(nd g w).Arcs.length≤1000000) {n:Nat} (hn:(nd g w).Arcs.length<n):∃ r,q6h n g w feat=some r∧(r.2=true→∃ y∈(nd g w).Arcs,y.Feat=feat∧y.To=r.1)∧(r.2=false→∀ y∈(nd g w).Arcs,y.Feat≠feat):=by
 obtain ⟨r,h1,h2,h3⟩:=arc_L1 (feat:=feat) hl n 0 (by omega) (by omega)
 rw [Int.ofNat_zero] at h1
 rw [List.drop_zero] at h3
 exact ⟨r,by simp only [q6h,(q9h hw).1,q0s,h1],h2,h3⟩
theorem unset_L1 {N:Nat} (hN:N≤1000000):∀ (m i:Nat),N - i<m→i≤N→q3e N m i (List.replicate i (-1))=some (List.replicate N (-1))
 | 0,i,hm,_=>by omega
 | m+1,i,hm,hi=>by
  unfold q3e
  by_cases hlt:i<N
  ·have hneed:((List.replicate i (-1:Int)).length+1)*8≤140737488355328∧(List.replicate i (-1:Int)).length+1≤140737488355328:=by simp; omega
   have e:List.replicate i (-1:Int)++[-1]=List.replicate (i+1) (-1):=by rw [List.replicate_succ']
   simp only [dlt hlt,cond_true,needO]
   rw [if_pos hneed,wr1 hlt (by omega),e]
   exact unset_L1 hN m (i+1) (by omega) (by omega)
  ·simp only [dnlt hlt,cond_false,q51]
   rw [show i=N by omega]
theorem unset_ok {N n:Nat} (hN:N≤1000000) (hn:N<n):q5y n N=some (List.replicate N (-1)):=by
 have:=unset_L1 hN n 0 (by omega) (by omega)
 rw [Int.ofNat_zero,List.replicate_zero] at this
 exact this
theorem q8t {l:List Int} {v:Int} (h:0≤v∧v<(l.length:Int)):idxO l v=some (pat l v):=by
 have h1:v.toNat<l.length:=by omega
 rw [idxO,if_pos h]
 simp [pat,h1]
theorem pat_set {l:List Int} {u v:Int} (hu:0≤u∧u<(l.length:Int)) (hv:0≤v∧v<(l.length:Int)) (b:Int):pat (l.set (0+v.toNat) b) u=if u=v then b else pat l u:=by
 have h1:u.toNat<l.length:=by omega
 rw [Nat.zero_add]
 by_cases e:u=v
 ·subst e; simp [pat,h1]
 ·rw [if_neg e]
  simp only [pat]
  rw [List.getElem?_set_ne (by omega)]
structure AS (f g:GFS) (T bk th:List Int):Prop where
 lt:th.length=f.Nodes.length
 lb:bk.length=g.Nodes.length
 nd:T.Nodup
 ing:∀ v∈T,InG f v
 tin:∀ v∈T,InG g (pat th v)
 tno:∀ v,InG f v→v ∉ T→pat th v = -1
 bks:∀ v∈T,pat bk (pat th v)=v
 bno:∀ w,InG g w→(∀ v∈T,pat th v≠w)→pat bk w = -1
 r0:0∈T
 p0:pat th 0=0
 iso:∀ φ S,IsoP f g φ S→∀ v∈T,S v∧pat th v=φ v
def ArcD (g:GFS) (T th:List Int) (w:Int) (x:GArc):Prop:=x.To∈T∧∃ y∈(nd g w).Arcs,y.Feat=x.Feat∧y.To=pat th x.To
theorem iso_arc {f g:GFS} (hg:GOK g) {φ:Int→Int} {S:Int→Prop} (h:IsoP f g φ S) {v:Int} (hv:S v) {x:GArc} (hx:x∈(nd f v).Arcs):(⟨x.Feat,φ x.To⟩:GArc)∈(nd g (φ v)).Arcs∧S x.To:=by
 refine ⟨?_,h.sim.clo v hv x (q4v.2 hx)⟩
 rw [← q4v,h.sim.arc v hv]
 exact List.mem_map.2 ⟨x,q4v.2 hx,rfl⟩
theorem alike_L2 {f g:GFS} {k:Nat} (hf:GOK f) (hg:GOK g) (hsf:Small f k) (hsg:Small g k) (hk:k≤1000000) {n:Nat} (hn:k<n) {z:Int} {rc:Int→List Int→List Int→List Int→Option Bool} {v w:Int} (hv:InG f v) (hw:InG g w):∀ (m j:Nat) (T bk th:List Int),(nd f v).Arcs.length - j<m→j≤(nd f v).Arcs.length→AS f g T bk th→v∈T→pat th v=w →
  (∃ T' bk' th' t,AS f g T' bk' th'∧T'=T++t∧(∀ u∈T,pat th' u=pat th u)∧(∀ x∈(nd f v).Arcs.drop j,ArcD g T' th' w x)∧q2d g n z rc w (nd f v) m j T bk th=rc (IntKind.i64.wrap (z+1)) T' bk' th') ∨
  (q2d g n z rc w (nd f v) m j T bk th=some false∧¬ Iso f g)
 | 0,j,T,bk,th,hm,_,_,_,_=>by omega
 | m+1,j,T,bk,th,hm,hj,hs,hvT,hpw=>by
  have hxf:=q9h hv
  have hxg:=q9h hw
  have haf:=hsf.arcs _ hxf.2
  have hag:=hsg.arcs _ hxg.2
  have hnf:=hsf.nodes
  unfold q2d
  by_cases hlt:j<(nd f v).Arcs.length
  ·obtain ⟨x,hx,hxm⟩:=q5l hlt
   have hto:=(hf _ hxf.2).arc x hxm
   have hxin:InG f x.To:=⟨hto.2.1,hto.2.2⟩
   have hxl:0≤x.To∧x.To<(th.length:Int):=by rw [hs.lt]; exact hxin
   obtain ⟨r,k1,k2,k3⟩:=arc_ok (feat:=x.Feat) hw (by omega) (show (nd g w).Arcs.length<n by omega)
   simp only [dlt hlt,cond_true,q45,hx,q0s,k1]
   cases hr:r.2 with
   | false =>
    simp only [Bool.not_false,cond_true]
    refine .inr ⟨by first | rfl | trivial,fun ⟨φ,S,h⟩=>?_⟩
    obtain ⟨g1,g2⟩:=hs.iso φ S h v hvT
    have:=(iso_arc hg h g1 hxm).1
    rw [← g2,hpw] at this
    exact k3 hr _ this rfl
   | true =>
    obtain ⟨y,hy,ey1,ey2⟩:=k2 hr
    have hyo:=(hg _ hxg.2).arc y hy
    have hrin:InG g r.1:=by rw [← ey2]; exact ⟨hyo.2.1,hyo.2.2⟩
    have hrl:0≤r.1∧r.1<(bk.length:Int):=by rw [hs.lb]; exact hrin
    have hphi:∀ φ S,IsoP f g φ S→S x.To∧r.1=φ x.To:=fun φ S h=>by
     obtain ⟨g1,g2⟩:=hs.iso φ S h v hvT
     obtain ⟨g3,g4⟩:=iso_arc hg h g1 hxm
     rw [← g2,hpw] at g3
     have:=(hg _ hxg.2).dis.eq y hy _ g3 ey1
     refine ⟨g4,?_⟩
     rw [← ey2,this]
    have hwj:=wr1 hlt (show (nd f v).Arcs.length≤9223372036854775807 by omega)
    simp only [Bool.not_true,cond_false,q8t hxl,q8t hrl,q0s]
    by_cases hnew:pat th x.To<0∧pat bk r.1<0
    ·have hxT:x.To ∉ T:=fun h=>by have:=(hs.tin _ h).1; omega
     have hrn:∀ u∈T,pat th u≠r.1:=fun u hu e=>by
      have h1:=hs.bks u hu
      rw [e] at h1
      have:=(hs.ing u hu).1
      omega
     have hTl:T.length+1≤f.Nodes.length:=by
      have:=q6r f.Nodes.length (o:=x.To::T) (List.nodup_cons.2 ⟨hxT,hs.nd⟩) (fun u hu=>by
       rcases List.mem_cons.1 hu with rfl | hu
       ·exact hxin
       ·exact hs.ing u hu)
      simpa using this
     have hneed:(T.length+1)*8≤140737488355328∧T.length+1≤140737488355328:=by omega
     have hth:∀ u,InG f u→pat (th.set (0+x.To.toNat) r.1) u=if u=x.To then r.1 else pat th u:=fun u hu=>pat_set (by rw [hs.lt]; exact hu) hxl _
     have hbk:∀ u,InG g u→pat (bk.set (0+r.1.toNat) x.To) u=if u=r.1 then x.To else pat bk u:=fun u hu=>pat_set (by rw [hs.lb]; exact hu) hrl _
     have hold:∀ u∈T,pat (th.set (0+x.To.toNat) r.1) u=pat th u:=fun u hu=>by
      have hne:¬ u=x.To:=fun e=>hxT (e ▸ hu)
      rw [hth u (hs.ing u hu),if_neg hne]
     have hs':AS f g (T++[x.To]) (bk.set (0+r.1.toNat) x.To) (th.set (0+x.To.toNat) r.1):=by
      refine ⟨by simp [hs.lt],by simp [hs.lb],?_,fun u hu=>?_,fun u hu=>?_,fun u hu hn=>?_,fun u hu=>?_,fun u hu hn=>?_,by simp [hs.r0],?_,fun φ S h u hu=>?_⟩
      ·rw [List.nodup_append]
       exact ⟨hs.nd,by simp,fun a ha b hb e=>by simp at hb; rw [e,hb] at ha; exact hxT ha⟩
      ·rcases List.mem_append.1 hu with hu | hu
       ·exact hs.ing u hu
       ·simp at hu; subst hu; exact hxin
      ·rcases List.mem_append.1 hu with hu | hu
       ·rw [hold u hu]; exact hs.tin u hu
       ·simp at hu; subst hu; rw [hth _ hxin,if_pos rfl]; exact hrin
      ·simp at hn
       rw [hth u hu,if_neg hn.2]
       exact hs.tno u hu hn.1
      ·rcases List.mem_append.1 hu with hu | hu
       ·rw [hold u hu,hbk _ (hs.tin u hu),if_neg (hrn u hu)]; exact hs.bks u hu
       ·simp at hu; subst hu; rw [hth _ hxin,if_pos rfl,hbk _ hrin,if_pos rfl]
      ·have h1:u≠r.1:=fun e=>hn x.To (by simp) (by rw [hth _ hxin,if_pos rfl]; exact e.symm)
       rw [hbk u hu,if_neg h1]
       exact hs.bno u hu fun a ha=>by rw [← hold a ha]; exact hn a (by simp [ha])
      ·rw [hold 0 hs.r0]; exact hs.p0
      ·rcases List.mem_append.1 hu with hu | hu
       ·rw [hold u hu]; exact hs.iso φ S h u hu
       ·simp at hu; subst hu
        rw [hth _ hxin,if_pos rfl]
        exact hphi φ S h
     have e1:((x.To != x.To):Bool)=false:=by simp
     have hxl':0≤x.To∧x.To<((th.set (0+x.To.toNat) r.1).length:Int):=by rw [List.length_set]; exact hxl
     have hrl':0≤r.1∧r.1<((bk.set (0+r.1.toNat) x.To).length:Int):=by rw [List.length_set]; exact hrl
     simp only [hnew.1,hnew.2,decide_true,cond_true,q0s,needO]
     rw [if_pos hneed]
     simp only [q3d,q8t hxl',q8t hrl',q0s,hth _ hxin,hbk _ hrin,if_true,bne_self_eq_false,cond_false,hwj]
     rcases alike_L2 hf hg hsf hsg hk hn (z:=z) (rc:=rc) hv hw m (j+1) _ _ _ (by omega) (by omega) hs' (by simp [hvT]) (by rw [hold v hvT]; exact hpw) with ⟨T',bk',th',t,q1,q2,q3,q4,q5⟩ | ⟨q1,q2⟩
     ·refine .inl ⟨T',bk',th',x.To::t,q1,by rw [q2]; simp,fun u hu=>by rw [q3 u (by simp [hu]),hold u hu],fun a ha=>?_,q5⟩
      rw [drop_cons' hx] at ha
      rcases List.mem_cons.1 ha with rfl | ha
      ·refine ⟨by rw [q2]; simp,y,hy,ey1,?_⟩
       rw [q3 _ (by simp),hth _ hxin,if_pos rfl]; exact ey2
      ·exact q4 a ha
     ·exact .inr ⟨q1,q2⟩
    ·have hcond:(cond (decide (pat th x.To<0)) (some (decide (pat bk r.1<0))) (some false))=some false:=by
      by_cases h1:pat th x.To<0
      ·have h2:¬ pat bk r.1<0:=fun h=>hnew ⟨h1,h⟩
       simp [h1,h2]
      ·simp [h1]
     rw [hcond]
     simp only [q0s,cond_false,q3d,q8t hxl,q8t hrl,hwj]
     by_cases hok:pat th x.To=r.1∧pat bk r.1=x.To
     ·have e1:(pat th x.To != r.1)=false:=by simpa using hok.1
      have e2:(pat bk r.1 != x.To)=false:=by simpa using hok.2
      have hxT:x.To∈T:=by
       apply Classical.byContradiction
       intro h
       have:=hs.tno _ hxin h
       have:=hrin.1
       omega
      simp only [e1,cond_false,e2,q0s]
      rcases alike_L2 hf hg hsf hsg hk hn (z:=z) (rc:=rc) hv hw m (j+1) T bk th (by omega) (by omega) hs hvT hpw with ⟨T',bk',th',t,q1,q2,q3,q4,q5⟩ | ⟨q1,q2⟩
      ·refine .inl ⟨T',bk',th',t,q1,q2,q3,fun a ha=>?_,q5⟩
       rw [drop_cons' hx] at ha
       rcases List.mem_cons.1 ha with rfl | ha
       ·exact ⟨by rw [q2]; simp [hxT],y,hy,ey1,by rw [q3 _ hxT,hok.1]; exact ey2⟩
       ·exact q4 a ha
      ·exact .inr ⟨q1,q2⟩
     ·right
      constructor
      ·by_cases h1:pat th x.To=r.1
       ·have h2:¬ pat bk r.1=x.To:=fun h=>hok ⟨h1,h⟩
        have e1:(pat th x.To != r.1)=false:=by simpa using h1
        have e2:(pat bk r.1 != x.To)=true:=by simpa using h2
        simp only [e1,cond_false,e2,q0s,cond_true]
       ·have e1:(pat th x.To != r.1)=true:=by simpa using h1
        simp only [e1,cond_true,q0s]
      ·rintro ⟨φ,S,h⟩
       obtain ⟨p1,p2⟩:=hphi φ S h
       by_cases hxT:x.To∈T
       ·have h3:=(hs.iso φ S h _ hxT).2
        refine hok ⟨by rw [h3,p2],?_⟩
        rw [p2,← h3]
        exact hs.bks _ hxT
       ·refine hnew ⟨by rw [hs.tno _ hxin hxT]; decide,?_⟩
        rw [hs.bno _ hrin fun u hu e=>?_]
        ·decide
        ·obtain ⟨p3,p4⟩:=hs.iso φ S h u hu
         rw [p4,p2] at e
         exact hxT (h.sim.inj u x.To p3 p1 e ▸ hu)
  ·simp only [dnlt hlt,cond_false,q4z,drop_nil' hlt]
   exact .inl ⟨T,bk,th,[],hs,by simp,fun _ _=>rfl,⟨fun x hx=>(List.not_mem_nil hx).elim,rfl⟩⟩
def NodeD (f g:GFS) (T th:List Int) (v:Int):Prop:=(nd f v).Typex=(nd g (pat th v)).Typex∧(nd f v).Arcs.length=(nd g (pat th v)).Arcs.length∧∀ x∈(nd f v).Arcs,ArcD g T th (pat th v) x
theorem sub_perm:∀ {a b:List GArc},Dis a→(∀ x∈a,x∈b)→b.length≤a.length→a.Perm b
 | [],b,_,_,hl=>by
  have:b=[]:=List.length_eq_zero_iff.1 (by simpa using hl)
  subst this; exact List.Perm.refl _
 | x::a,b,hd,hs,hl=>by
  obtain ⟨h1,h2⟩:=List.pairwise_cons.1 hd
  obtain ⟨s,t,rfl⟩:=List.append_of_mem (hs x (by simp))
  have:=sub_perm (a:=a) (b:=s++t) h2 (fun y hy=>by
   have:=hs y (by simp [hy])
   simp only [List.mem_append,List.mem_cons] at this ⊢
   rcases this with h | h | h
   ·exact .inl h
   ·subst h; exact absurd rfl (h1 _ hy)
   ·exact .inr h) (by simp at hl ⊢; omega)
  exact (this.cons x).trans List.perm_middle.symm
theorem alike_L1 {f g:GFS} {k:Nat} (hf:GOK f) (hg:GOK g) (hsf:Small f k) (hsg:Small g k) (hk:k≤1000000) {n:Nat} (hn:k<n):∀ (m i:Nat) (T bk th:List Int),f.Nodes.length - i<m→i≤T.length→AS f g T bk th→(∀ v∈T.take i,NodeD f g T th v) →
  ∃ b,q1y f g n m i T bk th=some b∧(b=true→Iso f g)∧(b=false→¬ Iso f g)
 | 0,i,T,bk,th,hm,_,_,_=>by omega
 | m+1,i,T,bk,th,hm,hi,hs,hd=>by
  have hnf:=hsf.nodes
  have hTl:T.length≤f.Nodes.length:=q6r _ hs.nd hs.ing
  unfold q1y
  by_cases hlt:i<T.length
  ·obtain ⟨v,hv,hvT⟩:=q5l hlt
   have hvin:=hs.ing v hvT
   have hwin:=hs.tin v hvT
   have hxf:=q9h hvin
   have hxg:=q9h hwin
   have hvl:0≤v∧v<(th.length:Int):=by rw [hs.lt]; exact hvin
   simp only [dlt hlt,cond_true,q45,hv,q0s,q8t hvl,hxf.1,hxg.1]
   by_cases hok:(nd f v).Typex=(nd g (pat th v)).Typex∧(nd f v).Arcs.length=(nd g (pat th v)).Arcs.length
   ·have e1:((nd f v).Typex != (nd g (pat th v)).Typex)=false:=by simpa using hok.1
    have e2:(((nd f v).Arcs.length:Int) != ((nd g (pat th v)).Arcs.length:Int))=false:=by simp [hok.2]
    simp only [e1,cond_false,e2,q0s]
    have haf:=hsf.arcs _ hxf.2
    rcases alike_L2 hf hg hsf hsg hk hn (z:=(i:Int)) (rc:=q1y f g n m) hvin hwin n 0 T bk th (by omega) (by omega) hs hvT rfl with ⟨T',bk',th',t,q1,q2,q3,q4,q5⟩ | ⟨q1,q2⟩
    ·rw [Int.ofNat_zero] at q5
     rw [q5,wr1 hlt (show T.length≤9223372036854775807 by omega)]
     refine alike_L1 hf hg hsf hsg hk hn m (i+1) T' bk' th' (by omega) (by rw [q2]; simp; omega) q1 fun u hu=>?_
     have htk:T'.take (i+1)=T.take i++[v]:=by rw [q2,List.take_append_of_le_length (by omega),q7h hv]
     rw [htk] at hu
     rcases List.mem_append.1 hu with hu | hu
     ·obtain ⟨d1,d2,d3⟩:=hd u hu
      have huT:=List.mem_of_mem_take hu
      refine ⟨by rw [q3 u huT]; exact d1,by rw [q3 u huT]; exact d2,fun x hx=>?_⟩
      obtain ⟨d4,y,d5,d6,d7⟩:=d3 x hx
      exact ⟨by rw [q2]; simp [d4],y,by rw [q3 u huT]; exact d5,d6,by rw [q3 _ d4]; exact d7⟩
     ·simp at hu; subst hu
      refine ⟨by rw [q3 u hvT]; exact hok.1,by rw [q3 u hvT]; exact hok.2,fun x hx=>?_⟩
      rw [q3 u hvT]
      exact q4 x (by rw [List.drop_zero]; exact hx)
    ·rw [Int.ofNat_zero] at q1
     rw [q1]
     exact ⟨false,rfl,(fun h=>by cases h),fun _=>q2⟩
   ·refine ⟨false,?_,(fun h=>by cases h),fun _ ⟨φ,S,h⟩=>?_⟩
    ·by_cases h1:(nd f v).Typex=(nd g (pat th v)).Typex
     ·have h2:¬ (nd f v).Arcs.length=(nd g (pat th v)).Arcs.length:=fun h=>hok ⟨h1,h⟩
      have e1:((nd f v).Typex != (nd g (pat th v)).Typex)=false:=by simpa using h1
      have e2:(((nd f v).Arcs.length:Int) != ((nd g (pat th v)).Arcs.length:Int))=true:=by simp; omega
      simp only [e1,cond_false,e2,q0s,cond_true]
     ·have e1:((nd f v).Typex != (nd g (pat th v)).Typex)=true:=by simpa using h1
      simp only [e1,cond_true,q0s]
    ·obtain ⟨g1,g2⟩:=hs.iso φ S h v hvT
     rw [g2] at hok
     refine hok ⟨(h.sim.ty v g1).symm,?_⟩
     have h1:=congrArg List.length (h.sim.arc v g1)
     rw [List.length_map] at h1
     have h2:(sar g (φ v)).length=(nd g (φ v)).Arcs.length:=(q4o _).length_eq
     have h3:(sar f v).length=(nd f v).Arcs.length:=(q4o _).length_eq
     omega
  ·simp only [dnlt hlt,cond_false,q4y]
   rw [List.take_of_length_le (by omega)] at hd
   refine ⟨true,rfl,fun _=>⟨pat th,fun v=>v∈T,⟨fun v hv a ha=>((hd v hv).2.2 a (q4v.1 ha)).1,fun u v hu hv e=>?_,fun v hv=>(hd v hv).1.symm,fun v hv=>?_⟩,hs.r0,hs.p0,fun v hv=>⟨hs.ing v hv,hs.tin v hv⟩⟩,fun h=>by cases h⟩
   ·have h1:=hs.bks u hu
    rw [e,hs.bks v hv] at h1
    exact h1.symm
   ·have hn1:=hf _ (q9h (hs.ing v hv)).2
    have hn2:=hg _ (q9h (hs.tin v hv)).2
    have hdm:Dis ((sar f v).map fun a=>(⟨a.Feat,pat th a.To⟩:GArc)):=by
     unfold Dis
     rw [List.pairwise_map]
     exact (srtA_up hn1.dis).dis
    refine srtA_of hn2.dis (sub_perm hdm (fun y hy=>?_) ?_) ?_
    ·obtain ⟨x,hx,rfl⟩:=List.mem_map.1 hy
     obtain ⟨_,y,hy1,hy2,hy3⟩:=(hd v hv).2.2 x (q4v.1 hx)
     have:(⟨x.Feat,pat th x.To⟩:GArc)=y:=by cases y; simp only at hy2 hy3; rw [hy2,hy3]
     rw [this]; exact hy1
    ·rw [List.length_map]
     have h3:(sar f v).length=(nd f v).Arcs.length:=(q4o _).length_eq
     have:=(hd v hv).2.1
     omega
    ·unfold UpA
     rw [List.pairwise_map]
     exact srtA_up hn1.dis
theorem alike_ok {f g:GFS} {k:Nat} (hf:GOK f) (hg:GOK g) (hsf:Small f k) (hsg:Small g k) (hk:k≤1000000) (hf0:InG f 0) (hg0:InG g 0) {n:Nat} (hn:k+2≤n):∃ b,q37 n f g=some b∧(b=true→Iso f g)∧(b=false→¬ Iso f g):=by
 have hnf:=hsf.nodes
 have hng:=hsg.nodes
 have l1:0<f.Nodes.length:=by have:=hf0.2; omega
 have l2:0<g.Nodes.length:=by have:=hg0.2; omega
 have i1:(0:Int)≤0∧(0:Int)<((List.replicate f.Nodes.length (-1:Int)).length:Int):=by rw [List.length_replicate]; exact hf0
 have i2:(0:Int)≤0∧(0:Int)<((List.replicate g.Nodes.length (-1:Int)).length:Int):=by rw [List.length_replicate]; exact hg0
 have hrep:∀ (N:Nat) (v:Int),0≤v∧v<N→pat (List.replicate N (-1)) v = -1:=fun N v hv=>by
  have:v.toNat<N:=by omega
  simp [pat,this]
 have p1:∀ u,InG f u→pat ((List.replicate f.Nodes.length (-1)).set (0+(0:Int).toNat) 0) u=if u=0 then 0 else -1:=fun u hu=>by
  rw [pat_set (by rw [List.length_replicate]; exact hu) i1,hrep _ u hu]
 have p2:∀ u,InG g u→pat ((List.replicate g.Nodes.length (-1)).set (0+(0:Int).toNat) 0) u=if u=0 then 0 else -1:=fun u hu=>by
  rw [pat_set (by rw [List.length_replicate]; exact hu) i2,hrep _ u hu]
 have hs:AS f g [0] ((List.replicate g.Nodes.length (-1)).set (0+(0:Int).toNat) 0) ((List.replicate f.Nodes.length (-1)).set (0+(0:Int).toNat) 0):=by
  refine ⟨by simp,by simp,by simp,fun u hu=>?_,fun u hu=>?_,fun u hu hn=>?_,fun u hu=>?_,fun u hu hn=>?_,by simp,?_,fun φ S h u hu=>?_⟩
  ·simp at hu; subst hu; exact hf0
  ·simp at hu; subst hu; rw [p1 0 hf0,if_pos rfl]; exact hg0
  ·simp at hn; rw [p1 u hu,if_neg hn]
  ·simp at hu; subst hu; rw [p1 0 hf0,if_pos rfl,p2 0 hg0,if_pos rfl]
  ·have:=hn 0 (by simp)
   rw [p1 0 hf0,if_pos rfl] at this
   rw [p2 u hu,if_neg fun e=>this e.symm]
  ·rw [p1 0 hf0,if_pos rfl]
  ·simp at hu; subst hu; rw [p1 0 hf0,if_pos rfl]; exact ⟨h.s0,h.p0.symm⟩
 obtain ⟨b,h1,h2,h3⟩:=alike_L1 hf hg hsf hsg hk (show k<n by omega) n 0 [0] _ _ (by omega) (by simp) hs (by simp)
 rw [Int.ofNat_zero] at h1
 refine ⟨b,?_,h2,h3⟩
 simp only [q37,unset_ok (show f.Nodes.length≤1000000 by omega) (show f.Nodes.length<n by omega),unset_ok (show g.Nodes.length≤1000000 by omega) (show g.Nodes.length<n by omega),q0s,q8t i1,q8t i2]
 exact h1
theorem alike_true {f g:GFS} {k:Nat} (hf:GOK f) (hg:GOK g) (hsf:Small f k) (hsg:Small g k) (hk:k≤1000000) (hf0:InG f 0) (hg0:InG g 0) {n:Nat} (hn:k+2≤n) (h:Iso f g):q37 n f g=some true:=by
 obtain ⟨b,h1,h2,h3⟩:=alike_ok hf hg hsf hsg hk hf0 hg0 hn
 cases b with
 | true=>exact h1
 | false=>exact absurd h (h3 rfl)
theorem canon_law (f g:GFS) {n:Nat} (hn:3000000≤n):q46 n f g=some true:=by
 obtain ⟨b,h1,h2⟩:=light_ok f (show 20≤n by omega)
 obtain ⟨c,h3,h4⟩:=light_ok g (show 20≤n by omega)
 simp only [q46,h1,h3,q0s,ex_n (show 60≤n by omega)]
 cases b with
 | false=>simp
 | true =>
  cases c with
  | false=>simp
  | true =>
   have hf:=h2 rfl
   have hg:=h4 rfl
   have hCf:=Canon_ok hf (by omega) (show 2*12+4≤n by omega)
   have hCg:=Canon_ok hg (by omega) (show 2*12+4≤n by omega)
   simp only [Bool.not_true,cond_false,q0s,hCf,hCg]
   by_cases he:errG f=0
   ·by_cases he2:errG g=0
    ·obtain ⟨a1,a2,a3⟩:=errG_zero.1 he
     obtain ⟨b1,b2,b3⟩:=errG_zero.1 he2
     have f0:InG f 0:=⟨by omega,by omega⟩
     have g0:InG g 0:=⟨by omega,by omega⟩
     have cf:=q96 a3 f0
     have cg:=q96 b3 g0
     have sf:=hf.canon a3 f0
     have sg:=hg.canon b3 g0
     obtain ⟨r,k1,k2,k3⟩:=alike_ok a3 b3 hf hg (by omega) f0 g0 (show 12+2≤n by omega)
     have t1:=alike_true a3 cf.ok hf sf (by omega) f0 ⟨by omega,by have:=cf.pos; omega⟩ (show 12+2≤n by omega) (iso_self a3 f0)
     have t2:=alike_true b3 cg.ok hg sg (by omega) g0 ⟨by omega,by have:=cg.pos; omega⟩ (show 12+2≤n by omega) (iso_self b3 g0)
     have hq:=eqG_ok (show 12+3≤n by omega) (by omega) sf (g:=canonG g 0)
     have hbr:(ccG (canonG f 0) (canonG g 0) == 0)=r:=by
      cases hr:r with
      | true =>
       have:=(k2 hr).canon a3 b3
       rw [this,ccG_ok.self]; rfl
      | false =>
       have:¬ ccG (canonG f 0) (canonG g 0)=0:=fun h=>k3 hr (iso_of a3 b3 f0 g0 (ccG_zero.1 h))
       simpa using this
     simp only [he,he2,if_true,bne_self_eq_false,cond_false,q0s,hq,k1,hbr,beq_self_eq_true,cond_true,t1,t2]
    ·have hb:(errG g != 0)=true:=by simpa using he2
     simp [he,he2,hb,q0s]
   ·have hb:(errG f != 0)=true:=by simpa using he
    simp [he,hb,q0s]
end Go.Proofs
end
